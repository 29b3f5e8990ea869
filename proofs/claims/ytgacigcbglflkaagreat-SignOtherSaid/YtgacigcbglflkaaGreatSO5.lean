/- What the law leans on, part 5. -/
import Derived.Test.YtgacigcbglflkaaGreatSO4
set_option linter.unusedSimpArgs false
set_option linter.unusedVariables false
open Bool renaming and_eq_true → Vw
open Exists renaming intro → Zt
open Int renaming cast_ofNat_Int → Ww, natCast_add → B5, natCast_mul → Uq, natCast_one → B0, natCast_zero → Xu, reduceAdd → Qx, reduceBEq → Q6, reduceBNe → Q5, reduceEq → Qp, reduceGE → Q0, reduceGT → Qz, reduceLE → Qo, reduceLT → Qn, reduceMul → Qw, reduceNeg → Qv, reducePow → Qq, reduceSub → Qu, reduceTDiv → Ql, reduceTMod → Qk, reduceToNat → Qd
open List renaming all_cons → J4, append_assoc → Jx, append_nil → Kw, cons_append → Zb, drop → Bs, drop_append_of_le_length → Uj, drop_eq_getElem?_toList_append → Yr, drop_of_length_le → Yb, drop_succ_cons → Qi, drop_zero → Q2, eq_nil_of_length_eq_zero → Yl, ext_getElem? → Ym, flatten_append → Wa, flatten_cons → Vj, flatten_nil → Ud, getElem?_append_left → Qy, getElem?_append_right → Zh, getElem?_cons_succ → Zp, getElem?_drop → Vx, getElem?_eq_getElem → Q1, getElem?_eq_none → J0, getElem?_eq_some_iff → Q8, getElem?_map → Uw, getElem?_range → Hx, getElem?_replicate → Qcm, getElem?_set_ne → Jj, getElem?_set_self → Xp, getElem?_take → Ks, getElem?_zipWith → Qfa, length_append → Z4, length_drop → Vs, length_nil → Jf, length_replicate → Zd, length_set → Xe, length_take → Js, length_zipWith → Qiz, map_append → G6, map_cons → Y9, map_map → Ql4, map_nil → Uo, mem_append → Jb, mem_of_getElem? → Zk, mem_of_mem_drop → Yz, mem_of_mem_take → Kp, mem_or_eq_of_mem_set → Hw, mem_singleton → Bu, nil_append → Za, range → Y5, replicate → Qa, replicate_succ' → Rp, set_append_left → Ro, set_append_right → Uk, set_set → Qd2, take → We, take_add_one → Yf, take_append_drop → W1, take_append_of_le_length → Wt, take_length → Hu, take_of_length_le → Zl, take_succ_cons → Qj, take_take → Quh, take_zero → Q3, zipWith → Gc
open Nat renaming Coprime → Q6s, add_assoc → Ka, add_comm → Gb, add_mul → Kt, add_sub_cancel_left → Kb, add_zero → Jr, and_lt_two_pow → Dr, and_two_pow_sub_one_eq_mod → Mu, div_add_mod → Vr, div_div_eq_div_mul → X9, div_eq_of_lt → Wz, div_le_self → W9, div_one → Wi, eq_zero_or_pos → Yd, le_of_lt → Wh, le_refl → Zj, le_trans → Un, lt_add_one → Qug, lt_irrefl → Xj, lt_of_le_of_lt → Wk, lt_of_lt_of_le → X1, lt_or_ge → V5, lt_trans → Uc, min_eq_left → V8, mod_eq_of_lt → Z3, mod_lt → Jk, mod_mod → Hh, mod_mul_mod → Qqy, mod_one → Qos, mul_add → Hg, mul_assoc → Vo, mul_comm → K7, mul_le_mul → Wg, mul_le_mul_left → Ug, mul_le_mul_right → Vt, mul_lt_mul'' → Qoq, mul_one → Xy, mul_zero → To, not_lt_zero → Jz, one_mul → Wm, or_lt_two_pow → Qbk, pow_add → Wl, pow_le_pow_right → Vf, pow_mul → Yp, pow_pos → Ws, pow_succ → Kq, pow_zero → Ya, reduceAdd → Qf, reduceDiv → Qt, reduceEqDiff → Qb, reduceLT → Qm, reduceLeDiff → Qe, reduceMod → Qs, reduceMul → Qh, reducePow → Qr, reduceSub → Qg, strongRecOn → Qd5, sub_self → Kv, sub_zero → Xw, testBit_and → Qd4, testBit_or → Qfu, testBit_xor → Qqx, zero_add → Z1, zero_lt_one → R5, zero_lt_succ → Qoo, zero_mul → Xi
open Option renaming bind_some → Q4, map_some → Di, some → Ds
open Option.some renaming inj → G0
set_option linter.unusedSimpArgs false
set_option linter.unusedVariables false
namespace Go.Ev.YtgacigcbglflkaaGreat
open Go Go.Ev
attribute [local congr] W7 Ul W6 Um Wv
set_option maxRecDepth 100000
def Qo9 (n p i:Nat) (ex:Env):St:=⟨[(0,.int .i64 n),(3,.int .u64 p),(4,.int .i64 i)] ++ ex,[],[]⟩
theorem Q0b {n:Nat} (h:n < 64):2 ^ n < 18446744073709551616:=Nat.pow_lt_pow_right (by decide:1 < 2) (m:=n) (n:=64) h
theorem Qvq {n i:Nat} (hn:n < 64) (hi:i < n):Jl T 0 Qdn (Qo9 n (2 ^ i) i []) = some (.normal,Qo9 n (2 ^ (i + 1)) (i + 1) []):=by
 have e1:((i:Int) < (n:Int)) = True:=eq_true (by omega)
 have w1:IntKind.i64.wrap ((i:Int) + 1) = ((i + 1:Nat):Int):=Vn (n:=i + 1) (by omega)
 have hlt:2 ^ (i + 1) < 18446744073709551616:=Q0b (by omega)
 have w2:IntKind.u64.wrap (((2 ^ i:Nat):Int) * 2) = ((2 ^ (i + 1):Nat):Int):=by
  rw [show (((2 ^ i:Nat):Int) * 2) = ((2 ^ (i + 1):Nat):Int) by rw [Kq]; exact (Uq _ _).symm,Qbs,Z3 hlt]
 generalize 2 ^ (i + 1) = q at *
 generalize 2 ^ i = p at *
 generalize i + 1 = i1 at *
 simp only [Qo9,Qdn,↓Zr,Z0,quiet,cF,↓pF,reduceCtorEq,Qb,Qp,Zi,Zf,Zg,Ze,Zc,Qj,Q3,Qi,Q2,Q6,Q5,↓Zu,↓Zm,↓Z5,↓Z9,↓Z6,↓Z7,cL,Qo,Qn,Qx,Qw,Qu,Ql,Qk,Qv,Qd,Qz,Q0,Qq,Qf,Qh,Qg,Qt,Qs,Qr,Qm,Qe,cJ,e1,w1,w2]
theorem Qg1 {n:Nat} (hn:n < 64):Vd T 106 [.int .i64 n] = some (.int .u64 ((2 ^ n:Nat):Int)):=by
 have hb:=Wb (T:=T) (base:=0) (id:=0) (body:=Qdn) (fun i => Qo9 n (2 ^ i) i []) (s':=Qo9 n (2 ^ n) n [(7,.bool false)]) n
  (fun i hi => Qvq hn hi) (by
   have e1:((n:Int) < (n:Int)) = False:=eq_false (by omega)
   generalize 2 ^ n = p at *
   simp only [Qo9,Qdn,↓Zr,Z0,quiet,cF,↓pF,reduceCtorEq,Qb,Qp,Zi,Zf,Zg,Ze,Zc,Qj,Q3,Qi,Q2,Q6,Q5,↓Zu,↓Zm,↓Z5,↓Z9,↓Z6,↓Z7,cL,Qo,Qn,Qx,Qw,Qu,Ql,Qk,Qv,Qd,Qz,Q0,Qq,Qf,Qh,Qg,Qt,Qs,Qr,Qm,Qe,cJ,e1])
 generalize 2 ^ n = p at *
 simp only [Qo9,Zb,Za,Ya,Xu,B0] at hb
 apply Xg
 apply Zt
 rw [Jc (fn:=Q2w) rfl]
 simp only [Q2w,↓Zr,Z0,quiet,cF,↓pF,reduceCtorEq,Qb,Qp,Zi,Zf,Zg,Ze,Zc,Qj,Q3,Qi,Q2,Q6,Q5,↓Zu,↓Zm,↓Z5,↓Z9,↓Z6,↓Z7,cL,Qo,Qn,Qx,Qw,Qu,Ql,Qk,Qv,Qd,Qz,Q0,Qq,Qf,Qh,Qg,Qt,Qs,Qr,Qm,Qe,cJ,hb]
 rfl
theorem Rf {x r:Nat} (hx:x < 18446744073709551616) (hr:0 < r) (hr':r ≤ 63):Vd T 105 [.int .u64 x,.int .i64 r,.int .i64 64] = some (.int .u64 (Y7 x r:Nat)):=by
 have h1:=Qg1 (n:=r) (by omega)
 have h2:=Qg1 (n:=64 - r) (by omega)
 have hsub:IntKind.i64.wrap (64 - (r:Int)) = ((64 - r:Nat):Int):=by rw [show (64:Int) - (r:Int) = ((64 - r:Nat):Int) by omega]; exact Vn (by omega)
 have hp:0 < 2 ^ r:=Ws (by decide)
 have hz:(((2 ^ r:Nat):Int) = 0) = False:=eq_false (by omega)
 have hd:((x:Nat):Int).tdiv ((2 ^ r:Nat):Int) = ((x / 2 ^ r:Nat):Int):=rfl
 have hd':IntKind.u64.wrap ((x / 2 ^ r:Nat):Int) = ((x / 2 ^ r:Nat):Int):=by rw [Qbs,Z3 (Wk (W9 _ _) hx)]
 have hm:IntKind.u64.wrap ((x:Int) * ((2 ^ (64 - r):Nat):Int)) = ((x * 2 ^ (64 - r) % 18446744073709551616:Nat):Int):=by rw [← Uq,Qbs]
 have hrot:x / 2 ^ r + x * 2 ^ (64 - r) % 18446744073709551616 = Y7 x r:=rfl
 have ha:IntKind.u64.wrap (((x / 2 ^ r:Nat):Int) + ((x * 2 ^ (64 - r) % 18446744073709551616:Nat):Int)) = ((Y7 x r:Nat):Int):=by
  rw [Ma,hrot,Z3 (Uu hx hr hr')]
 generalize Y7 x r = R at *
 generalize x * 2 ^ (64 - r) % 18446744073709551616 = M at *
 generalize x / 2 ^ r = D at *
 generalize 2 ^ (64 - r) = A at *
 generalize 2 ^ r = B at *
 generalize 64 - r = q at *
 apply Xg
 apply Zt
 rw [Jc (fn:=Q2x) rfl]
 simp only [Q2x,↓Zr,Z0,quiet,cF,↓pF,reduceCtorEq,Qb,Qp,Zi,Zf,Zg,Ze,Zc,Qj,Q3,Qi,Q2,Q6,Q5,↓Zu,↓Zm,↓Z5,↓Z9,↓Z6,↓Z7,cL,Qo,Qn,Qx,Qw,Qu,Ql,Qk,Qv,Qd,Qz,Q0,Qq,Qf,Qh,Qg,Qt,Qs,Qr,Qm,Qe,cJ,h1,h2,hsub,hz,hd,hd',hm,ha]
 rfl
theorem Qhg (x:Nat):Vd T 107 [.int .u64 x,.int .i64 64] = some (.int .u64 (x:Nat)):=by
 apply Xg
 apply Zt
 rw [Jc (fn:=Q2v) rfl]
 simp only [Q2v,↓Zr,Z0,quiet,cF,↓pF,reduceCtorEq,Qb,Qp,Zi,Zf,Zg,Ze,Zc,Qj,Q3,Qi,Q2,Q6,Q5,↓Zu,↓Zm,↓Z5,↓Z9,↓Z6,↓Z7,cL,Qo,Qn,Qx,Qw,Qu,Ql,Qk,Qv,Qd,Qz,Q0,Qq,Qf,Qh,Qg,Qt,Qs,Qr,Qm,Qe,cJ]
 rfl
theorem Qf5 {a b c:Nat} (ha:a < 18446744073709551616) (hb:b < 18446744073709551616) (hc:c < 18446744073709551616):Vd T 104 [.int .u64 a,.int .u64 b,.int .u64 c] = some (.int .u64 ((a ^^^ b ^^^ c:Nat):Int)):=by
 have h1:=Mw ha hb
 have h2:=Mw (D8 ha hb) hc
 generalize a ^^^ b ^^^ c = R at *
 generalize a ^^^ b = q at *
 apply Xg
 apply Zt
 rw [Jc (fn:=Q2y) rfl]
 simp only [Q2y,↓Zr,Z0,quiet,cF,↓pF,reduceCtorEq,Qb,Qp,Zi,Zf,Zg,Ze,Zc,Qj,Q3,Qi,Q2,Q6,Q5,↓Zu,↓Zm,↓Z5,↓Z9,↓Z6,↓Z7,cL,Qo,Qn,Qx,Qw,Qu,Ql,Qk,Qv,Qd,Qz,Q0,Qq,Qf,Qh,Qg,Qt,Qs,Qr,Qm,Qe,cJ,h1,h2]
 rfl
theorem Que {e f g:Nat} (he:e < 2 ^ 64):(e &&& f) ||| ((2 ^ 64 - 1 - e) &&& g) = (e &&& f) ^^^ (((2 ^ 64 - 1) ^^^ e) &&& g):=by
 apply Nat.eq_of_testBit_eq
 intro i
 have h1:(2 ^ 64 - 1 - e).testBit i = (decide (i < 64) && !e.testBit i):=by
  rw [show 2 ^ 64 - 1 - e = 2 ^ 64 - (e + 1) by omega,Nat.testBit_two_pow_sub_succ he]
 have h2:((2 ^ 64 - 1) ^^^ e).testBit i = (decide (i < 64) ^^ e.testBit i):=by
  rw [Qqx,Nat.testBit_two_pow_sub_one]
 have h3:e.testBit i = true → i < 64:=fun h => by
  rcases V5 i 64 with k | k
  ·exact k
  ·rw [Nat.testBit_lt_two_pow (X1 he (Vf (by decide) k))] at h; cases h
 rw [Qfu,Qqx,Qd4,Qd4,Qd4,h1,h2]
 cases he':e.testBit i <;> cases f.testBit i <;> cases g.testBit i <;> simp_all
theorem Q53 (a b c:Nat):(a &&& b) ||| (a &&& c) ||| (b &&& c) = maO a b c:=by
 apply Nat.eq_of_testBit_eq
 intro i
 simp only [maO,Qfu,Qqx,Qd4]
 cases a.testBit i <;> cases b.testBit i <;> cases c.testBit i <;> rfl
theorem ch_or {e f g:Nat} (he:e < 18446744073709551616):(e &&& f) ||| ((18446744073709551615 - e) &&& g) = chO e f g:=Que (e:=e) (f:=f) (g:=g) he
theorem Qsi (H:List Ob):V6 T 103 [] H = some (.slice (some ⟨H.length,0,none⟩) 80 80,H ++ [⟨ns .u64 Du,true,true,true,1⟩],[]):=by
 have hf:=Qj8
 have l8:(ns .u64 Du).length = 80:=rfl
 rw [Jc (fn:=Q2z) rfl]
 simp only [Q2z,↓Zr,Z0,quiet,cF,↓pF,reduceCtorEq,Qb,Qp,Zi,Zf,Zg,Ze,Zc,Qj,Q3,Qi,Q2,Q6,Q5,↓Zu,↓Zm,↓Z5,↓Z9,↓Z6,↓Z7,cL,Qo,Qn,Qx,Qw,Qu,Ql,Qk,Qv,Qd,Qz,Q0,Qq,Qf,Qh,Qg,Qt,Qs,Qr,Qm,Qe,cJ,hf,l8]
def shC (sv:Value):List Value:=[.int .i64 64,.int .i64 80,.int .i64 128,sv,.int .i64 1,.int .i64 8,.int .i64 7,.int .i64 19,.int .i64 61,.int .i64 6,.int .i64 28,.int .i64 34,.int .i64 39,.int .i64 14,.int .i64 18,.int .i64 41]
theorem shC_0 (sv:Value):(shC sv)[0]? = some (.int .i64 64):=rfl
theorem Qjm (sv:Value):(shC sv)[1]? = some (.int .i64 80):=rfl
theorem Q3q (sv:Value):(shC sv)[2]? = some (.int .i64 128):=rfl
theorem shC_3 (sv:Value):(shC sv)[3]? = some sv:=rfl
theorem Qq7 (sv:Value):(shC sv).length = 16:=rfl
def rzI (B:Nat) (x s:Value) (Hc:List Ob) (ex:Env):St:=⟨[(0,x),(3,.pointer (some ⟨B,0,none⟩)),(5,.int .i64 8),(6,s)] ++ ex,Hc,[]⟩
theorem Qvl {B N:Nat} {x sv s0:Value} {H1 Hc0:List Ob} {bs:List Nat} (hBN:B < N) (hh:H1[B]? = some ⟨shC sv,true,true,true,1⟩) (hn:bs.length < 2 ^ 46) (hg0:Grown .u8 N Hc0 s0 (bs ++ [128])) (hL0:N ≤ Hc0.length) (hF0:∀ i,i < N → Hc0[i]? = H1[i]?) :
  ∃ s Hc,Jl T B (.block 0 (.loop Qdo)) (rzI B x s0 Hc0 []) = some (.normal,rzI B x s Hc [(48,.bool false)]) ∧ Grown .u8 N Hc s (bs ++ 128 :: Qa (Gd bs.length) 0) ∧ N ≤ Hc.length ∧ ∀ i,i < N → Hc[i]? = H1[i]? := by
 have f0:fillL [Value.int .u8 0] [(0,1,.int .u8 0)] = some [.int .u8 0]:=rfl
 have c2:=Q3q sv
 have hz:=Qc1 bs.length
 obtain ⟨st,hb,s,Hc,rfl,hg,hL,hF⟩:=Vi (T:=T) (base:=B) (id:=0) (body:=Qdo)
  (fun j st => ∃ s Hc,st = rzI B x s Hc [] ∧ Grown .u8 N Hc s (bs ++ 128 :: Qa j 0) ∧ N ≤ Hc.length ∧ ∀ i,i < N → Hc[i]? = H1[i]?)
  (Q:=fun st => ∃ s Hc,st = rzI B x s Hc [(48,.bool false)] ∧ Grown .u8 N Hc s (bs ++ 128 :: Qa (Gd bs.length) 0) ∧ N ≤ Hc.length ∧ ∀ i,i < N → Hc[i]? = H1[i]?)
  (Gd bs.length) (s:=rzI B x s0 Hc0 []) ⟨_,_,rfl,hg0,hL0,hF0⟩
  (fun j st hj hs => by
   obtain ⟨s,Hc,rfl,hg,hL,hF⟩:=hs
   have hl:=hg.len
   have e1:(bs ++ 128 :: Qa j 0).length = bs.length + (1 + j):=by simp; omega
   rw [e1] at hl
   obtain ⟨s',H',M,h1,h2,h3,h4,h5⟩:=Ml (x:=0) (bytes:=1) hg hL (by rw [e1]; omega) (by decide)
   have hm:Xo B [] M = []:=Yi fun i hi => by have:=h3 i hi; omega
   have hget:Hc[B]? = some ⟨shC sv,true,true,true,1⟩:=(hF B hBN).trans hh
   have w3:IntKind.i64.wrap (((bs.length + (1 + j):Nat):Int) + 16) = ((bs.length + (1 + j) + 16:Nat):Int):=Y0 (b:=16) (by omega)
   have w4:((bs.length + (1 + j) + 16:Nat):Int).tmod 128 = (((bs.length + (1 + j) + 16) % 128:Nat):Int):=rfl
   have w5:((((bs.length + (1 + j) + 16) % 128:Nat):Int) != 0) = true:=bne_iff_ne.2 (by have:=Qfi bs.length j hj; omega)
   refine ⟨rzI B x s' H' [],?_,s',H',rfl,by rw [Rp,← Zb,← Jx]; exact h2,h4,fun i hi => by rw [h5 i hi,hF i hi]⟩
   simp only [Xu] at h1
   generalize (bs.length + (1 + j) + 16) % 128 = r at *
   generalize bs.length + (1 + j) + 16 = r2 at *
   generalize bs.length + (1 + j) = r3 at *
   generalize shC sv = sc at *
   simp only [rzI,Qdo,↓Zr,Z0,quiet,cF,↓pF,reduceCtorEq,Qb,Qp,Zi,Zf,Zg,Ze,Zc,Qj,Q3,Qi,Q2,Q6,Q5,↓Zu,↓Zm,↓Z5,↓Z9,↓Z6,↓Z7,cL,Qo,Qn,Qx,Qw,Qu,Ql,Qk,Qv,Qd,Qz,Q0,Qq,Qf,Qh,Qg,Qt,Qs,Qr,Qm,Qe,cJ,hget,c2,hl,w3,w4,w5,f0,h1,hm])
  (fun st hs => by
   obtain ⟨s,Hc,rfl,hg,hL,hF⟩:=hs
   have hl:=hg.len
   have e1:(bs ++ 128 :: Qa (Gd bs.length) 0).length = bs.length + (1 + Gd bs.length):=by simp; omega
   rw [e1] at hl
   have hget:Hc[B]? = some ⟨shC sv,true,true,true,1⟩:=(hF B hBN).trans hh
   have w3:IntKind.i64.wrap (((bs.length + (1 + Gd bs.length):Nat):Int) + 16) = ((bs.length + (1 + Gd bs.length) + 16:Nat):Int):=Y0 (b:=16) (by omega)
   have w4:((bs.length + (1 + Gd bs.length) + 16:Nat):Int).tmod 128 = 0:=by
    have:((bs.length + (1 + Gd bs.length) + 16:Nat):Int).tmod 128 = (((bs.length + (1 + Gd bs.length) + 16) % 128:Nat):Int):=rfl
    rw [this,Qg5]; rfl
   refine ⟨_,?_,s,Hc,rfl,hg,hL,hF⟩
   generalize bs.length + (1 + Gd bs.length) + 16 = r2 at *
   generalize bs.length + (1 + Gd bs.length) = r3 at *
   generalize shC sv = sc at *
   simp only [rzI,Qdo,↓Zr,Z0,quiet,cF,↓pF,reduceCtorEq,Qb,Qp,Zi,Zf,Zg,Ze,Zc,Qj,Q3,Qi,Q2,Q6,Q5,↓Zu,↓Zm,↓Z5,↓Z9,↓Z6,↓Z7,cL,Qo,Qn,Qx,Qw,Qu,Ql,Qk,Qv,Qd,Qz,Q0,Qq,Qf,Qh,Qg,Qt,Qs,Qr,Qm,Qe,cJ,hget,c2,hl,w3,w4])
 exact ⟨s,Hc,hb,hg,hL,hF⟩
def rcI (B:Nat) (s:Value) (Hm:List Ob) (C:List Nat) (m:Nat) (iv:Int) (ex:Env):St:=⟨[(3,.pointer (some ⟨B,0,none⟩)),(5,.int .i64 8),(6,s),(7,.slice (some ⟨Hm.length,0,none⟩) 16 16),(8,.int .u64 m),(9,.int .i64 iv)] ++ ex,Hm ++ [⟨u8s C,true,true,true,1⟩],[]⟩
theorem Qv1 {B n:Nat} {s:Value} {Hm:List Ob} {C:List Nat} (hB:B ≤ Hm.length) (lC:C.length = 16) (hn:n < 18446744073709551616) :
  Jl T B Rc (rcI B s Hm C n 15 []) = some (.normal,rcI B s Hm (C.set 15 (Mj n 15)) (n / 32) 14 []):=by
 have w1:(n:Int).tmod 32 = ((n % 32:Nat):Int):=rfl
 have w2:IntKind.u64.wrap (((n % 32:Nat):Int) * 8) = ((n % 32 * 8:Nat):Int):=by
  rw [show ((n % 32:Nat):Int) * 8 = ((n % 32 * 8:Nat):Int) from (Uq _ _).symm,Qbs,Z3 (by omega)]
 have hp:Mj n 15 = n % 32 * 8:=by
  unfold Mj
  rw [show 15 - 15 = 0 from rfl,Ya,Wi]
  omega
 have w3:IntKind.u8.wrap ((n % 32 * 8:Nat):Int) = ((n % 32 * 8:Nat):Int):=by rw [Qp4,Z3 (by omega)]
 have w4:IntKind.u64.wrap ((n:Int).tdiv 32) = ((n / 32:Nat):Int):=by rw [show ((n:Int).tdiv 32) = ((n / 32:Nat):Int) from rfl,Qbs,Z3 (by omega)]
 have hset:=U3 C 15 (n % 32 * 8)
 have im:Xo B [] [Hm.length] = []:=Yi (by simp; omega)
 have hl:15 + 1 ≤ (u8s C).length:=by rw [X2,lC]; decide
 rw [hp]
 generalize n % 32 * 8 = d at *
 generalize n % 32 = r at *
 generalize n / 32 = m at *
 simp only [rcI,Rc,↓Zr,Z0,quiet,cF,↓pF,reduceCtorEq,Qb,Qp,Zi,Zf,Zg,Ze,Zc,Qj,Q3,Qi,Q2,Q6,Q5,↓Zu,↓Zm,↓Z5,↓Z9,↓Z6,↓Z7,cL,Qo,Qn,Qx,Qw,Qu,Ql,Qk,Qv,Qd,Qz,Q0,Qq,Qf,Qh,Qg,Qt,Qs,Qr,Qm,Qe,cJ,w1,w2,w3,w4,hset,im,hl]
theorem Qz4 {B n k:Nat} {s:Value} {Hm:List Ob} {C:List Nat} (hB:B ≤ Hm.length) (lC:C.length = 16) (hk:k < 15) (hn:n < 18446744073709551616) :
  Jl T B Rc (rcI B s Hm C n (k:Nat) []) = some (.normal,rcI B s Hm (C.set k (n % 256)) (n / 256) ((k:Int) - 1) []):=by
 have w1:(n:Int).tmod 256 = ((n % 256:Nat):Int):=rfl
 have w3:IntKind.u8.wrap ((n % 256:Nat):Int) = ((n % 256:Nat):Int):=by rw [Qp4,Hh]
 have w4:IntKind.u64.wrap ((n:Int).tdiv 256) = ((n / 256:Nat):Int):=by rw [show ((n:Int).tdiv 256) = ((n / 256:Nat):Int) from rfl,Qbs,Z3 (by omega)]
 have w5:IntKind.i64.wrap ((k:Int) - 1) = (k:Int) - 1:=K9 (by omega) (by omega)
 have e1:(0 ≤ (k:Int)) = True:=eq_true (by omega)
 have e2:((k:Int) == 15) = false:=beq_eq_false_iff_ne.2 (by omega)
 have e3:((k:Int) < 16) = True:=eq_true (by omega)
 have hset:=U3 C k (n % 256)
 have im:Xo B [] [Hm.length] = []:=Yi (by simp; omega)
 have hl:k + 1 ≤ (u8s C).length:=by rw [X2,lC]; omega
 generalize n % 256 = d at *
 generalize n / 256 = m at *
 simp only [rcI,Rc,↓Zr,Z0,quiet,cF,↓pF,reduceCtorEq,Qb,Qp,Zi,Zf,Zg,Ze,Zc,Qj,Q3,Qi,Q2,Q6,Q5,↓Zu,↓Zm,↓Z5,↓Z9,↓Z6,↓Z7,cL,Qo,Qn,Qx,Qw,Qu,Ql,Qk,Qv,Qd,Qz,Q0,Qq,Qf,Qh,Qg,Qt,Qs,Qr,Qm,Qe,cJ,w1,w3,w4,w5,e1,e2,e3,hset,im,hl]
theorem Qv2 {B n:Nat} {s:Value} {Hm:List Ob} (hB:B ≤ Hm.length) (hn:n < 2 ^ 46) :
  Jl T B (.block 2 (.loop Rc)) (rcI B s Hm (Qa 16 0) n 15 []) = some (.normal,rcI B s Hm ((Y5 16).map (Mj n)) (8 * n / 256 ^ 16) (-1) [(62,.bool false)]):=by
 obtain ⟨st,hb,C,rfl,lC,hC⟩:=Vi (T:=T) (base:=B) (id:=2) (body:=Rc)
  (fun j st => ∃ C m,st = rcI B s Hm C m ((15:Int) - (j:Nat)) [] ∧ C.length = 16 ∧ (m = if j = 0 then n else 8 * n / 256 ^ j) ∧ ∀ i,16 ≤ i + j → i < 16 → C[i]? = some (Mj n i))
  (Q:=fun st => ∃ C,st = rcI B s Hm C (8 * n / 256 ^ 16) (-1) [(62,.bool false)] ∧ C.length = 16 ∧ ∀ i,i < 16 → C[i]? = some (Mj n i))
  16 (s:=rcI B s Hm (Qa 16 0) n 15 []) ⟨_,_,rfl,rfl,rfl,fun i h1 h2 => by omega⟩
  (fun j st hj hs => by
   obtain ⟨C,m,rfl,lC,hm,hC⟩:=hs
   rcases Yd j with h0 | h0
   ·subst h0
    rw [if_pos rfl] at hm
    subst hm
    refine ⟨_,Qv1 hB lC (by omega),_,_,rfl,by rw [Xe]; exact lC,by rw [if_neg (by decide),Z1,Nat.pow_one]; omega,fun i h1 h2 => ?_⟩
    have:i = 15:=by omega
    subst this
    rw [Xp (by omega)]
   ·rw [if_neg (by omega)] at hm
    subst hm
    have e:((15:Int) - (j:Nat)) = ((15 - j:Nat):Int):=by omega
    have hlt:8 * n / 256 ^ j < 18446744073709551616:=Wk (W9 _ _) (by omega)
    have hp:Mj n (15 - j) = 8 * n / 256 ^ j % 256:=by unfold Mj; rw [show 15 - (15 - j) = j by omega]
    have hd:8 * n / 256 ^ j / 256 = 8 * n / 256 ^ (j + 1):=by rw [X9,Kq]
    have hbd:=Qz4 (s:=s) hB lC (k:=15 - j) (by omega) hlt
    rw [← e,← hp,hd] at hbd
    refine ⟨_,hbd,_,_,by rw [show (15:Int) - (j:Nat) - 1 = (15:Int) - ((j + 1:Nat):Int) by omega],by rw [Xe]; exact lC,by rw [if_neg (by omega)],fun i h1 h2 => ?_⟩
    by_cases h:i = 15 - j
    ·subst h; rw [Xp (by omega)]
    ·rw [Jj (by omega)]; exact hC i (by omega) h2)
  (fun st hs => by
   obtain ⟨C,m,rfl,lC,hm,hC⟩:=hs
   rw [if_neg (by decide)] at hm
   refine ⟨_,?_,C,rfl,lC,fun i hi => hC i (by omega) hi⟩
   subst hm
   generalize 8 * n / 256 ^ 16 = m at *
   simp only [rcI,Rc,↓Zr,Z0,quiet,cF,↓pF,reduceCtorEq,Qb,Qp,Zi,Zf,Zg,Ze,Zc,Qj,Q3,Qi,Q2,Q6,Q5,↓Zu,↓Zm,↓Z5,↓Z9,↓Z6,↓Z7,cL,Qo,Qn,Qx,Qw,Qu,Ql,Qk,Qv,Qd,Qz,Q0,Qq,Qf,Qh,Qg,Qt,Qs,Qr,Qm,Qe,cJ])
 have:C = (Y5 16).map (Mj n):=Ym fun i => by
  by_cases h:i < 16
  ·rw [hC i h]; simp [h]
  ·rw [J0 (by omega),J0 (by simp; omega)]
 rw [← this]
 exact hb
def tuC:List Value:=[.int .i64 1,.int .i64 8,.int .i64 7,.int .i64 19,.int .i64 61,.int .i64 6,.int .i64 28,.int .i64 34,.int .i64 39,.int .i64 14,.int .i64 18,.int .i64 41]
def rhE (B tid L:Nat) (tb sv:Value) (u at_ q:Nat) (i:Int):Env:=[(3,.pointer (some ⟨B,0,none⟩)),(5,.int .i64 8),(6,.slice (some ⟨tid,0,none⟩) L L),(10,tb),(11,sv),(12,.int .i64 64),(13,.pointer (some ⟨u,0,none⟩)),(14,.int .i64 at_),(15,.slice (some ⟨q,0,none⟩) 80 80),(16,.int .i64 i)]
def rhI (B tid L:Nat) (tb sv:Value) (u at_:Nat) (Hm:List Ob) (W:List Nat) (i:Int) (ex:Env):St:=⟨rhE B tid L tb sv u at_ Hm.length i ++ ex,Hm ++ [⟨ns .u64 W,true,true,true,1⟩],[]⟩
theorem Qv7 {B tid u at_ i:Nat} {tb sv:Value} {Hm:List Ob} {all b:List Nat} {x4:Bool} (hB:B ≤ Hm.length) (ht:Hm[tid]? = some ⟨u8s all,true,true,x4,1⟩) (hL:all.length < 2 ^ 50) (hb:∀ j,j < 128 → all[at_ + j]? = b[j]?) (hbl:b.length = 128) (hx:∀ y ∈ b,y < 256) (hat:at_ + 128 ≤ all.length) (hi:i < 16) :
  Jl T B (.block 8 (.loop Qdp)) (rhI B tid all.length tb sv u at_ Hm (pf 80 (Wc b) i) i [(17,.int .i64 0)]) = some (.normal,rhI B tid all.length tb sv u at_ Hm (pf 80 (Wc b) (i + 1)) i [(17,.int .i64 8),(120,.bool false)]):=by
 have hWl:=Hj b
 have h8:((b.drop (8 * i)).take 8).length = 8:=by rw [Js,Vs]; omega
 have hz:=Qg4 (L:=Wc b) (by omega:i < 80) hWl
 have hpl:=Db hWl (by omega:i ≤ 80)
 have Qhn:(pf 80 (Wc b) i).set i (be []) = pf 80 (Wc b) i:=Qmp hz
 have hW:=Qeb (b:=b) hi
 have hstep:=Gu hWl (by omega:i < 80) hW
 have h:=Wb (T:=T) (base:=B) (id:=8) (body:=Qdp) (fun j => rhI B tid all.length tb sv u at_ Hm ((pf 80 (Wc b) i).set i (be (((b.drop (8 * i)).take 8).take j))) i [(17,.int .i64 j)]) (s':=rhI B tid all.length tb sv u at_ Hm (pf 80 (Wc b) (i + 1)) i [(17,.int .i64 8),(120,.bool false)]) 8
  (fun j hj => by
   obtain ⟨x,hxj⟩:∃ x,((b.drop (8 * i)).take 8)[j]? = some x:=⟨_,Q1 (by omega)⟩
   have hxb:b[8 * i + j]? = some x:=by
    rw [Ks,if_pos hj,Vx] at hxj; exact hxj
   have hx':=hx x (Zk hxb)
   have hxa:(u8s all)[at_ + 8 * i + j]? = some (.int .u8 (x:Nat)):=Wo (by rw [show at_ + 8 * i + j = at_ + (8 * i + j) by omega,hb _ (by omega)]; exact hxb)
   have hbel:=Qr5 j (((b.drop (8 * i)).take 8).take j) (by rw [Js]; omega) (fun y hy => hx y (Yz (Kp (Kp hy))))
   have hbes:be (((b.drop (8 * i)).take 8).take (j + 1)) = be (((b.drop (8 * i)).take 8).take j) * 256 + x:=by rw [Yf,hxj]; exact Qlu _ _
   rw [hbes]
   have h256:(256:Nat) ^ j ≤ 256 ^ 7:=Vf (by decide) (by omega)
   have e7:(256:Nat) ^ 7 = 72057594037927936:=by decide
   rw [e7] at h256
   generalize be (((b.drop (8 * i)).take 8).take j) = a at *
   have hg:((pf 80 (Wc b) i).set i a)[i]? = some a:=by rw [Xp (by rw [hpl]; omega)]
   have hgc:=Yo (k := .u64) hg
   have hss:=Ux .u64 ((pf 80 (Wc b) i).set i a) i (a * 256 + x)
   rw [Qd2] at hss
   have hln:((pf 80 (Wc b) i).set i a).length = 80:=by rw [Xe]; exact hpl
   have w1:IntKind.i64.wrap ((j:Int) + 1) = ((j + 1:Nat):Int):=Y0 (b:=1) (by omega)
   have w2:IntKind.u64.wrap (x:Int) = (x:Int):=D9 (by omega)
   have w3:IntKind.u64.wrap ((a:Int) * 256) = ((a * 256:Nat):Int):=by
    rw [show (a:Int) * 256 = ((a * 256:Nat):Int) from (Uq _ _).symm]; exact D9 (by omega)
   have w4:IntKind.u64.wrap (((a * 256:Nat):Int) + (x:Int)) = ((a * 256 + x:Nat):Int):=by
    rw [← B5]; exact D9 (by omega)
   have w5:IntKind.i64.wrap (8 * (i:Int)) = ((8 * i:Nat):Int):=Vn (n:=8 * i) (by omega)
   have w6:IntKind.i64.wrap ((at_:Int) + ((8 * i:Nat):Int)) = ((at_ + 8 * i:Nat):Int):=Y0 (by omega)
   have w7:IntKind.i64.wrap (((at_ + 8 * i:Nat):Int) + (j:Int)) = ((at_ + 8 * i + j:Nat):Int):=Y0 (by omega)
   have e1:((j:Int) < 8) = True:=eq_true (by omega)
   have e2:((i:Int) < 80) = True:=eq_true (by omega)
   have e3:(((at_ + 8 * i + j:Nat):Int) < ((all.length:Nat):Int)) = True:=eq_true (by omega)
   have hget:(Hm ++ [⟨ns .u64 ((pf 80 (Wc b) i).set i a),true,true,true,1⟩])[tid]? = some ⟨u8s all,true,true,x4,1⟩:=by rw [Qy (Q8.1 ht).1]; exact ht
   have hle:i + 1 ≤ (ns .u64 ((pf 80 (Wc b) i).set i a)).length:=by rw [J2,hln]; omega
   have im:Xo B [] [Hm.length] = []:=Yi (by simp; omega)
   generalize (pf 80 (Wc b) i).set i a = O1 at *
   generalize (pf 80 (Wc b) i).set i (a * 256 + x) = O2 at *
   generalize hv:a * 256 + x = v at *
   generalize a * 256 = v2 at *
   generalize hoo:at_ + 8 * i + j = oo at *
   generalize at_ + 8 * i = o2 at *
   generalize 8 * i = o3 at *
   generalize all.length = LL at *
   generalize j + 1 = j1 at *
   simp only [rhI,rhE,Qdp,↓Zr,Z0,quiet,cF,↓pF,reduceCtorEq,Qb,Qp,Zi,Zf,Zg,Ze,Zc,Qj,Q3,Qi,Q2,Q6,Q5,↓Zu,↓Zm,↓Z5,↓Z9,↓Z6,↓Z7,cL,Qo,Qn,Qx,Qw,Qu,Ql,Qk,Qv,Qd,Qz,Q0,Qq,Qf,Qh,Qg,Qt,Qs,Qr,Qm,Qe,cJ,e1,e2,e3,w1,w2,w3,w4,w5,w6,w7,hget,hxa,hgc,hss,hle,im])
  (by
   have e8:((b.drop (8 * i)).take 8).take 8 = (b.drop (8 * i)).take 8:=by rw [Quh,Nat.min_self]
   rw [e8,hstep]
   generalize pf 80 (Wc b) (i + 1) = O2 at *
   simp only [rhI,rhE,Qdp,↓Zr,Z0,quiet,cF,↓pF,reduceCtorEq,Qb,Qp,Zi,Zf,Zg,Ze,Zc,Qj,Q3,Qi,Q2,Q6,Q5,↓Zu,↓Zm,↓Z5,↓Z9,↓Z6,↓Z7,cL,Qo,Qn,Qx,Qw,Qu,Ql,Qk,Qv,Qd,Qz,Q0,Qq,Qf,Qh,Qg,Qt,Qs,Qr,Qm,Qe,cJ])
 rw [Q3,Qhn] at h
 exact h
theorem Qq3:tuC.length = 12:=rfl
theorem p7_v:Vd T 106 [.int .i64 7] = some (.int .u64 128):=Qg1 (n:=7) (by decide)
theorem p6_v:Vd T 106 [.int .i64 6] = some (.int .u64 64):=Qg1 (n:=6) (by decide)
theorem Qz7 {B tid u at_ i:Nat} {tb sv sh:Value} {Hm:List Ob} {L:Nat} {b:List Nat} (hB:B < Hm.length) (hS:Hm[B]? = some ⟨shC sh,true,true,true,1⟩) (hU:Hm[u]? = some ⟨tuC,true,true,true,1⟩) (hb:∀ x ∈ b,x < 256) (hi:16 ≤ i) (hi':i < 80) :
  Jl T B Rd (rhI B tid L tb sv u at_ Hm (pf 80 (Wc b) i) i []) = some (.normal,rhI B tid L tb sv u at_ Hm (pf 80 (Wc b) (i + 1)) ((i + 1:Nat):Int) []):=by
 have hWl:=Hj b
 have hW:=Qea (b:=b) hi hi'
 have hstep:=Gu hWl hi' hW
 have hpl:=Db hWl (Wh hi')
 obtain ⟨x,hx⟩:∃ x,(Wc b)[i - 15]? = some x:=⟨_,Q1 (by omega)⟩
 obtain ⟨y,hy⟩:∃ x,(Wc b)[i - 2]? = some x:=⟨_,Q1 (by omega)⟩
 obtain ⟨w,hu⟩:∃ x,(Wc b)[i - 16]? = some x:=⟨_,Q1 (by omega)⟩
 obtain ⟨v,hv⟩:∃ x,(Wc b)[i - 7]? = some x:=⟨_,Q1 (by omega)⟩
 have lx:=Qfy hb hx
 have ly:=Qfy hb hy
 have cx:=Yo (k := .u64) ((T9 (n:=80) (by omega:i - 15 < i) (by omega)).trans hx)
 have cy:=Yo (k := .u64) ((T9 (n:=80) (by omega:i - 2 < i) (by omega)).trans hy)
 have cu:=Yo (k := .u64) ((T9 (n:=80) (by omega:i - 16 < i) (by omega)).trans hu)
 have cv:=Yo (k := .u64) ((T9 (n:=80) (by omega:i - 7 < i) (by omega)).trans hv)
 rw [Bn hx,Bn hy,Bn hu,Bn hv] at hstep
 have r1:Vd T 105 [.int .u64 x,.int .i64 1,.int .i64 64] = some (.int .u64 (Y7 x 1:Nat)):=Rf (r:=1) lx (by decide) (by decide)
 have r8:Vd T 105 [.int .u64 x,.int .i64 8,.int .i64 64] = some (.int .u64 (Y7 x 8:Nat)):=Rf (r:=8) lx (by decide) (by decide)
 have r19:Vd T 105 [.int .u64 y,.int .i64 19,.int .i64 64] = some (.int .u64 (Y7 y 19:Nat)):=Rf (r:=19) ly (by decide) (by decide)
 have r61:Vd T 105 [.int .u64 y,.int .i64 61,.int .i64 64] = some (.int .u64 (Y7 y 61:Nat)):=Rf (r:=61) ly (by decide) (by decide)
 have b1:=Uu (r:=1) lx (by decide) (by decide)
 have b8:=Uu (r:=8) lx (by decide) (by decide)
 have b19:=Uu (r:=19) ly (by decide) (by decide)
 have b61:=Uu (r:=61) ly (by decide) (by decide)
 have b7:x / 2 ^ 7 < 18446744073709551616:=Qdf lx
 have b6:y / 2 ^ 6 < 18446744073709551616:=Qdf ly
 have x2:Vd T 104 [.int .u64 (Y7 x 1:Nat),.int .u64 (Y7 x 8:Nat),.int .u64 (x / 2 ^ 7:Nat)] = some (.int .u64 (sg0 x:Nat)):=Qf5 b1 b8 b7
 have y2:Vd T 104 [.int .u64 (Y7 y 19:Nat),.int .u64 (Y7 y 61:Nat),.int .u64 (y / 2 ^ 6:Nat)] = some (.int .u64 (sg1 y:Nat)):=Qf5 b19 b61 b6
 have p7:=p7_v
 have p6:=p6_v
 have s7:IntKind.u64.wrap ((x:Int).tdiv 128) = ((x / 2 ^ 7:Nat):Int):=D9 b7
 have s6:IntKind.u64.wrap ((y:Int).tdiv 64) = ((y / 2 ^ 6:Nat):Int):=D9 b6
 have m1:=Ma w (sg0 x)
 have m2:=Ma ((w + sg0 x) % 18446744073709551616) v
 have m3:=Ma (((w + sg0 x) % 18446744073709551616 + v) % 18446744073709551616) (sg1 y)
 have hsum:(((w + sg0 x) % 18446744073709551616 + v) % 18446744073709551616 + sg1 y) % 18446744073709551616 = (w + v + sg0 x + sg1 y) % 18446744073709551616:=by omega
 rw [hsum] at m3
 have kp:=Qhg ((w + v + sg0 x + sg1 y) % 18446744073709551616)
 have hset:=Ux .u64 (pf 80 (Wc b) i) i ((w + v + sg0 x + sg1 y) % 18446744073709551616)
 rw [hstep] at hset
 have e1:((i:Int) < 80) = True:=eq_true (by omega)
 have e2:((i:Int) < 16) = False:=eq_false (by omega)
 have i15:IntKind.i64.wrap ((i:Int) - 15) = ((i - 15:Nat):Int):=by rw [K9 (by omega) (by omega)]; omega
 have i2:IntKind.i64.wrap ((i:Int) - 2) = ((i - 2:Nat):Int):=by rw [K9 (by omega) (by omega)]; omega
 have i16:IntKind.i64.wrap ((i:Int) - 16) = ((i - 16:Nat):Int):=by rw [K9 (by omega) (by omega)]; omega
 have i7:IntKind.i64.wrap ((i:Int) - 7) = ((i - 7:Nat):Int):=by rw [K9 (by omega) (by omega)]; omega
 have j15:(((i - 15:Nat):Int) < 80) = True:=eq_true (by omega)
 have j2:(((i - 2:Nat):Int) < 80) = True:=eq_true (by omega)
 have j16:(((i - 16:Nat):Int) < 80) = True:=eq_true (by omega)
 have j7:(((i - 7:Nat):Int) < 80) = True:=eq_true (by omega)
 have w3:IntKind.i64.wrap ((i:Int) + 1) = ((i + 1:Nat):Int):=Y0 (b:=1) (by omega)
 have hle:i + 1 ≤ (ns .u64 (pf 80 (Wc b) i)).length:=by rw [J2,hpl]; omega
 have im:Xo B [] [Hm.length] = []:=Yi (by simp; omega)
 have gS:∀ m:List Ob,(Hm ++ m)[B]? = some ⟨shC sh,true,true,true,1⟩:=fun m => by rw [Qy hB]; exact hS
 have gU:∀ m:List Ob,(Hm ++ m)[u]? = some ⟨tuC,true,true,true,1⟩:=fun m => by rw [Qy (Q8.1 hU).1]; exact hU
 have c1:=Qjm sh
 have t0:tuC[0]? = some (.int .i64 1):=rfl
 have t1:tuC[1]? = some (.int .i64 8):=rfl
 have t2:tuC[2]? = some (.int .i64 7):=rfl
 have t3:tuC[3]? = some (.int .i64 19):=rfl
 have t4:tuC[4]? = some (.int .i64 61):=rfl
 have t5:tuC[5]? = some (.int .i64 6):=rfl
 clear hsum hstep hW hx hy hu hv hWl hS hU
 generalize pf 80 (Wc b) i = O1 at *
 generalize pf 80 (Wc b) (i + 1) = O2 at *
 generalize (w + v + sg0 x + sg1 y) % 18446744073709551616 = z at *
 generalize ((w + sg0 x) % 18446744073709551616 + v) % 18446744073709551616 = z2 at *
 generalize (w + sg0 x) % 18446744073709551616 = z3 at *
 generalize sg0 x = gx at *
 generalize sg1 y = gy at *
 generalize Y7 x 1 = x1v at *
 generalize Y7 x 8 = x8v at *
 generalize Y7 y 19 = y19v at *
 generalize Y7 y 61 = y61v at *
 generalize x / 2 ^ 7 = x7v at *
 generalize y / 2 ^ 6 = y6v at *
 generalize i - 15 = k15 at *
 generalize i - 2 = k2 at *
 generalize i - 16 = k16 at *
 generalize i - 7 = k7 at *
 generalize hi1:i + 1 = i1 at *
 generalize tuC = tc at *
 generalize shC sh = sc at *
 simp only [rhI,rhE,Rd,↓Zr,Z0,quiet,cF,↓pF,reduceCtorEq,Qb,Qp,Zi,Zf,Zg,Ze,Zc,Qj,Q3,Qi,Q2,Q6,Q5,↓Zu,↓Zm,↓Z5,↓Z9,↓Z6,↓Z7,cL,Qo,Qn,Qx,Qw,Qu,Ql,Qk,Qv,Qd,Qz,Q0,Qq,Qf,Qh,Qg,Qt,Qs,Qr,Qm,Qe,cJ,gS,gU,c1,t0,t1,t2,t3,t4,t5,e1,e2,i15,i2,i16,i7,j15,j2,j16,j7,cx,cy,cu,cv,r1,r8,r19,r61,p7,p6,s7,s6,x2,y2,m1,m2,m3,kp,hset,w3,hi1,hle,im]
theorem Q5e {B tid u at_ i:Nat} {tb sv sh:Value} {Hm:List Ob} {all b:List Nat} {x4:Bool} (hB:B < Hm.length) (hS:Hm[B]? = some ⟨shC sh,true,true,true,1⟩) (ht:Hm[tid]? = some ⟨u8s all,true,true,x4,1⟩) (hL:all.length < 2 ^ 50) (hb:∀ j,j < 128 → all[at_ + j]? = b[j]?) (hbl:b.length = 128) (hx:∀ y ∈ b,y < 256) (hat:at_ + 128 ≤ all.length) (hi:i < 16) :
  Jl T B Rd (rhI B tid all.length tb sv u at_ Hm (pf 80 (Wc b) i) i []) = some (.normal,rhI B tid all.length tb sv u at_ Hm (pf 80 (Wc b) (i + 1)) ((i + 1:Nat):Int) []):=by
 have h4:=Qv7 (tb:=tb) (sv:=sv) (u:=u) (Wh hB) ht hL hb hbl hx hat hi
 have e1:((i:Int) < 80) = True:=eq_true (by omega)
 have e2:((i:Int) < 16) = True:=eq_true (by omega)
 have w3:IntKind.i64.wrap ((i:Int) + 1) = ((i + 1:Nat):Int):=Y0 (b:=1) (by omega)
 have gS:∀ m:List Ob,(Hm ++ m)[B]? = some ⟨shC sh,true,true,true,1⟩:=fun m => by rw [Qy hB]; exact hS
 have c1:=Qjm sh
 simp only [rhI,rhE,Zb,Za] at h4
 generalize pf 80 (Wc b) i = O1 at *
 generalize pf 80 (Wc b) (i + 1) = O2 at *
 generalize hi1:i + 1 = i1 at *
 generalize shC sh = sc at *
 simp only [rhI,rhE,Rd,↓Zr,Z0,quiet,cF,↓pF,reduceCtorEq,Qb,Qp,Zi,Zf,Zg,Ze,Zc,Qj,Q3,Qi,Q2,Q6,Q5,↓Zu,↓Zm,↓Z5,↓Z9,↓Z6,↓Z7,cL,Qo,Qn,Qx,Qw,Qu,Ql,Qk,Qv,Qd,Qz,Q0,Qq,Qf,Qh,Qg,Qt,Qs,Qr,Qm,Qe,cJ,gS,c1,e1,e2,h4,w3,hi1]
theorem Qv6 {B tid u at_:Nat} {tb sv sh:Value} {Hm:List Ob} {all b:List Nat} {x4:Bool} (hB:B < Hm.length) (hS:Hm[B]? = some ⟨shC sh,true,true,true,1⟩) (hU:Hm[u]? = some ⟨tuC,true,true,true,1⟩) (ht:Hm[tid]? = some ⟨u8s all,true,true,x4,1⟩) (hL:all.length < 2 ^ 50) (hb:∀ j,j < 128 → all[at_ + j]? = b[j]?) (hbl:b.length = 128) (hx:∀ y ∈ b,y < 256) (hat:at_ + 128 ≤ all.length) :
  Jl T B (.block 6 (.loop Rd)) (rhI B tid all.length tb sv u at_ Hm (Qa 80 0) 0 []) = some (.normal,rhI B tid all.length tb sv u at_ Hm (Wc b) 80 [(113,.bool false)]):=by
 have hWl:=Hj b
 have h:=Wb (T:=T) (base:=B) (id:=6) (body:=Rd) (fun i => rhI B tid all.length tb sv u at_ Hm (pf 80 (Wc b) i) i []) (s':=rhI B tid all.length tb sv u at_ Hm (Wc b) 80 [(113,.bool false)]) 80
  (fun i hi => by
   by_cases h:i < 16
   ·exact Q5e hB hS ht hL hb hbl hx hat h
   ·exact Qz7 hB hS hU hx (by omega) hi)
  (by
   have gS:∀ m:List Ob,(Hm ++ m)[B]? = some ⟨shC sh,true,true,true,1⟩:=fun m => by rw [Qy hB]; exact hS
   have c1:=Qjm sh
   rw [De hWl]
   generalize Wc b = O2 at *
   generalize shC sh = sc at *
   simp only [rhI,rhE,Rd,↓Zr,Z0,quiet,cF,↓pF,reduceCtorEq,Qb,Qp,Zi,Zf,Zg,Ze,Zc,Qj,Q3,Qi,Q2,Q6,Q5,↓Zu,↓Zm,↓Z5,↓Z9,↓Z6,↓Z7,cL,Qo,Qn,Qx,Qw,Qu,Ql,Qk,Qv,Qd,Qz,Q0,Qq,Qf,Qh,Qg,Qt,Qs,Qr,Qm,Qe,cJ,gS,c1])
 rw [Dd] at h
 exact h
def rvE (B tid L kid:Nat) (sv:Value) (u at_ q vid:Nat) (i:Int):Env:=[(3,.pointer (some ⟨B,0,none⟩)),(5,.int .i64 8),(6,.slice (some ⟨tid,0,none⟩) L L),(10,.slice (some ⟨kid,0,none⟩) 80 80),(11,sv),(12,.int .i64 64),(13,.pointer (some ⟨u,0,none⟩)),(14,.int .i64 at_),(15,.slice (some ⟨q,0,none⟩) 80 80),(22,.slice (some ⟨vid,0,none⟩) 8 8),(23,.int .i64 i)]
def rvI (B tid L kid:Nat) (sv:Value) (u at_ q vid:Nat) (i:Int) (Hc:List Ob) (ex:Env):St:=⟨rvE B tid L kid sv u at_ q vid i ++ ex,Hc,[]⟩
theorem Qzp {B tid L kid u at_ q vid i:Nat} {sv sh:Value} {Hc:List Ob} {w s:List Nat} {x1 x2:Bool} (hS:Hc[B]? = some ⟨shC sh,true,true,true,1⟩) (hU:Hc[u]? = some ⟨tuC,true,true,true,1⟩) (hK:Hc[kid]? = some ⟨ns .u64 Du,true,true,true,1⟩) (hq:Hc[q]? = some ⟨ns .u64 w,true,true,true,1⟩) (hvo:Hc[vid]? = some ⟨ns .u64 s,true,x1,x2,1⟩) (hw:w.length = 80) (hs:s.length = 8) (hx:∀ x ∈ s,x < 18446744073709551616) (hi:i < 80) :
  Jl T B Qbe (rvI B tid L kid sv u at_ q vid i Hc []) = some (.normal,rvI B tid L kid sv u at_ q Hc.length ((i + 1:Nat):Int) (Hc ++ [⟨ns .u64 (rnd s (Du.getD i 0) (w.getD i 0)),true,true,true,1⟩]) []):=by
 obtain ⟨a,b,c,d,e,f,g,h,rfl⟩:=eight hs
 obtain ⟨k,hk⟩:∃ k,Du[i]? = some k:=⟨_,Q1 (by rw [Qda]; exact hi)⟩
 obtain ⟨v,hv⟩:∃ k,w[i]? = some k:=⟨_,Q1 (by omega)⟩
 rw [Bn hk,Bn hv]
 have kc:=Yo (k := .u64) hk
 have vc:=Yo (k := .u64) hv
 have la:=hx a (by simp)
 have lb:=hx b (by simp)
 have lc:=hx c (by simp)
 have le:=hx e (by simp)
 have lf:=hx f (by simp)
 have lg:=hx g (by simp)
 have r14:Vd T 105 [.int .u64 e,.int .i64 14,.int .i64 64] = some (.int .u64 (Y7 e 14:Nat)):=Rf (r:=14) le (by decide) (by decide)
 have r18:Vd T 105 [.int .u64 e,.int .i64 18,.int .i64 64] = some (.int .u64 (Y7 e 18:Nat)):=Rf (r:=18) le (by decide) (by decide)
 have r41:Vd T 105 [.int .u64 e,.int .i64 41,.int .i64 64] = some (.int .u64 (Y7 e 41:Nat)):=Rf (r:=41) le (by decide) (by decide)
 have r28:Vd T 105 [.int .u64 a,.int .i64 28,.int .i64 64] = some (.int .u64 (Y7 a 28:Nat)):=Rf (r:=28) la (by decide) (by decide)
 have r34:Vd T 105 [.int .u64 a,.int .i64 34,.int .i64 64] = some (.int .u64 (Y7 a 34:Nat)):=Rf (r:=34) la (by decide) (by decide)
 have r39:Vd T 105 [.int .u64 a,.int .i64 39,.int .i64 64] = some (.int .u64 (Y7 a 39:Nat)):=Rf (r:=39) la (by decide) (by decide)
 have b14:=Uu (r:=14) le (by decide) (by decide)
 have b18:=Uu (r:=18) le (by decide) (by decide)
 have b41:=Uu (r:=41) le (by decide) (by decide)
 have b28:=Uu (r:=28) la (by decide) (by decide)
 have b34:=Uu (r:=34) la (by decide) (by decide)
 have b39:=Uu (r:=39) la (by decide) (by decide)
 have x2:Vd T 104 [.int .u64 (Y7 e 14:Nat),.int .u64 (Y7 e 18:Nat),.int .u64 (Y7 e 41:Nat)] = some (.int .u64 (Sg1 e:Nat)):=Qf5 b14 b18 b41
 have x4:Vd T 104 [.int .u64 (Y7 a 28:Nat),.int .u64 (Y7 a 34:Nat),.int .u64 (Y7 a 39:Nat)] = some (.int .u64 (Sg0 a:Nat)):=Qf5 b28 b34 b39
 have a1:=Qbv le lf
 have lne:18446744073709551615 - e < 18446744073709551616:=by omega
 have a2:IntKind.u64.wrap (18446744073709551615 - (e:Int)) = ((18446744073709551615 - e:Nat):Int):=Qfz (a:=18446744073709551615) (by omega) (by decide)
 have kp1:=Qhg (18446744073709551615 - e)
 have a3:=Qbv lne lg
 have a4:Vz .or .u64 ((e &&& f:Nat):Int) (((18446744073709551615 - e) &&& g:Nat):Int) = ((chO e f g:Nat):Int):=by rw [Gk rfl (Bp lf) (Bp lg),ch_or le]
 have a5:=Qbv la lb
 have a6:=Qbv la lc
 have a7:=Qbv lb lc
 have a8:Vz .or .u64 ((a &&& b:Nat):Int) ((a &&& c:Nat):Int) = (((a &&& b) ||| (a &&& c):Nat):Int):=Gk rfl (Bp lb) (Bp lc)
 have a9:Vz .or .u64 (((a &&& b) ||| (a &&& c):Nat):Int) ((b &&& c:Nat):Int) = ((maO a b c:Nat):Int):=by rw [Gk rfl (Qbk (n:=64) (Bp lb) (Bp lc)) (Bp lc),Q53]
 have m1:=Ma h (Sg1 e)
 have m2:=Ma ((h + Sg1 e) % 18446744073709551616) (chO e f g)
 have m3:=Ma (((h + Sg1 e) % 18446744073709551616 + chO e f g) % 18446744073709551616) k
 have m4:=Ma ((((h + Sg1 e) % 18446744073709551616 + chO e f g) % 18446744073709551616 + k) % 18446744073709551616) v
 have hT1:((((h + Sg1 e) % 18446744073709551616 + chO e f g) % 18446744073709551616 + k) % 18446744073709551616 + v) % 18446744073709551616 = t1O [a,b,c,d,e,f,g,h] k v:=by
  show _ = (h + Sg1 e + chO e f g + k + v) % 18446744073709551616
  omega
 rw [hT1] at m4
 have m5:IntKind.u64.wrap ((Sg0 a:Int) + (maO a b c:Int)) = ((t2O [a,b,c,d,e,f,g,h]:Nat):Int):=Ma (Sg0 a) (maO a b c)
 have m6:=Ma (t1O [a,b,c,d,e,f,g,h] k v) (t2O [a,b,c,d,e,f,g,h])
 have m7:=Ma d (t1O [a,b,c,d,e,f,g,h] k v)
 have hr:rnd [a,b,c,d,e,f,g,h] k v = [(t1O [a,b,c,d,e,f,g,h] k v + t2O [a,b,c,d,e,f,g,h]) % 18446744073709551616,a,b,c,(d + t1O [a,b,c,d,e,f,g,h] k v) % 18446744073709551616,e,f,g]:=rfl
 have hf:=Q3w ((t1O [a,b,c,d,e,f,g,h] k v + t2O [a,b,c,d,e,f,g,h]) % 18446744073709551616) a b c ((d + t1O [a,b,c,d,e,f,g,h] k v) % 18446744073709551616) e f g
 rw [← hr] at hf
 have kp2:=Qhg ((t1O [a,b,c,d,e,f,g,h] k v + t2O [a,b,c,d,e,f,g,h]) % 18446744073709551616)
 have kp3:=Qhg ((d + t1O [a,b,c,d,e,f,g,h] k v) % 18446744073709551616)
 have lR:=Qq9 [a,b,c,d,e,f,g,h] k v
 have e1:((i:Int) < 80) = True:=eq_true (by omega)
 have w3:IntKind.i64.wrap ((i:Int) + 1) = ((i + 1:Nat):Int):=Y0 (b:=1) (by omega)
 have g0:(ns .u64 [a,b,c,d,e,f,g,h])[0]? = some (.int .u64 (a:Nat)):=rfl
 have g1:(ns .u64 [a,b,c,d,e,f,g,h])[1]? = some (.int .u64 (b:Nat)):=rfl
 have g2:(ns .u64 [a,b,c,d,e,f,g,h])[2]? = some (.int .u64 (c:Nat)):=rfl
 have g3:(ns .u64 [a,b,c,d,e,f,g,h])[3]? = some (.int .u64 (d:Nat)):=rfl
 have g4:(ns .u64 [a,b,c,d,e,f,g,h])[4]? = some (.int .u64 (e:Nat)):=rfl
 have g5:(ns .u64 [a,b,c,d,e,f,g,h])[5]? = some (.int .u64 (f:Nat)):=rfl
 have g6:(ns .u64 [a,b,c,d,e,f,g,h])[6]? = some (.int .u64 (g:Nat)):=rfl
 have g7:(ns .u64 [a,b,c,d,e,f,g,h])[7]? = some (.int .u64 (h:Nat)):=rfl
 have lS:(ns .u64 [a,b,c,d,e,f,g,h]).length = 8:=rfl
 clear hT1 hr hk hv hs hx
 generalize rnd [a,b,c,d,e,f,g,h] k v = R at *
 generalize (t1O [a,b,c,d,e,f,g,h] k v + t2O [a,b,c,d,e,f,g,h]) % 18446744073709551616 = z1 at *
 generalize (d + t1O [a,b,c,d,e,f,g,h] k v) % 18446744073709551616 = z2 at *
 generalize t1O [a,b,c,d,e,f,g,h] k v = t1 at *
 generalize t2O [a,b,c,d,e,f,g,h] = t2 at *
 generalize (((h + Sg1 e) % 18446744073709551616 + chO e f g) % 18446744073709551616 + k) % 18446744073709551616 = z3 at *
 generalize ((h + Sg1 e) % 18446744073709551616 + chO e f g) % 18446744073709551616 = z4 at *
 generalize (h + Sg1 e) % 18446744073709551616 = z5 at *
 generalize Sg1 e = se at *
 generalize Sg0 a = sa at *
 generalize chO e f g = cc at *
 generalize maO a b c = mm at *
 generalize (a &&& b) ||| (a &&& c) = q1 at *
 generalize (18446744073709551615 - e) &&& g = q2 at *
 generalize 18446744073709551615 - e = q3 at *
 generalize e &&& f = q4 at *
 generalize a &&& b = q5 at *
 generalize a &&& c = q6 at *
 generalize b &&& c = q7 at *
 generalize Y7 e 14 = p1 at *
 generalize Y7 e 18 = p2 at *
 generalize Y7 e 41 = p3 at *
 generalize Y7 a 28 = p4 at *
 generalize Y7 a 34 = p5 at *
 generalize Y7 a 39 = p6 at *
 have t6:tuC[6]? = some (.int .i64 28):=rfl
 have t7:tuC[7]? = some (.int .i64 34):=rfl
 have t8:tuC[8]? = some (.int .i64 39):=rfl
 have t9:tuC[9]? = some (.int .i64 14):=rfl
 have t10:tuC[10]? = some (.int .i64 18):=rfl
 have t11:tuC[11]? = some (.int .i64 41):=rfl
 have c1:=Qjm sh
 generalize hi1:i + 1 = i1 at *
 generalize tuC = tc at *
 generalize shC sh = sc at *
 generalize ns .u64 [a,b,c,d,e,f,g,h] = S at *
 generalize ns .u64 Du = KT at *
 simp only [rvI,rvE,Qbe,↓Zr,Z0,quiet,cF,↓pF,reduceCtorEq,Qb,Qp,Zi,Zf,Zg,Ze,Zc,Qj,Q3,Qi,Q2,Q6,Q5,↓Zu,↓Zm,↓Z5,↓Z9,↓Z6,↓Z7,cL,Qo,Qn,Qx,Qw,Qu,Ql,Qk,Qv,Qd,Qz,Q0,Qq,Qf,Qh,Qg,Qt,Qs,Qr,Qm,Qe,cJ,hS,hU,hK,hq,hvo,c1,t6,t7,t8,t9,t10,t11,e1,vc,kc,r14,r18,r41,r28,r34,r39,x2,x4,a1,a2,a3,a4,a5,a6,a7,a8,a9,m1,m2,m3,m4,m5,m6,m7,kp1,kp2,kp3,hf,w3,hi1,g0,g1,g2,g3,g4,g5,g6,g7]
theorem Qvm {B tid L kid u at_ q vid:Nat} {sv sh:Value} {H0:List Ob} {w s:List Nat} {x1 x2:Bool} (hS:H0[B]? = some ⟨shC sh,true,true,true,1⟩) (hU:H0[u]? = some ⟨tuC,true,true,true,1⟩) (hK:H0[kid]? = some ⟨ns .u64 Du,true,true,true,1⟩) (hq:H0[q]? = some ⟨ns .u64 w,true,true,true,1⟩) (hvo:H0[vid]? = some ⟨ns .u64 s,true,x1,x2,1⟩) (hw:w.length = 80) (hs:s.length = 8) (hx:∀ x ∈ s,x < 18446744073709551616) :
  ∃ vid' l y1 y2,Jl T B (.block 10 (.loop Qbe)) (rvI B tid L kid sv u at_ q vid 0 H0 []) = some (.normal,rvI B tid L kid sv u at_ q vid' 80 (H0 ++ l) [(211,.bool false)]) ∧ (H0 ++ l)[vid']? = some ⟨ns .u64 (T4 80 w s),true,y1,y2,1⟩ ∧ (vid' = vid ∨ H0.length ≤ vid'):=by
 obtain ⟨st,hb,vid',l,y1,y2,rfl,h1,h2⟩:=Vi (T:=T) (base:=B) (id:=10) (body:=Qbe)
  (fun j st => ∃ vid' l y1 y2,st = rvI B tid L kid sv u at_ q vid' j (H0 ++ l) [] ∧ (H0 ++ l)[vid']? = some ⟨ns .u64 (T4 j w s),true,y1,y2,1⟩ ∧ (vid' = vid ∨ H0.length ≤ vid'))
  (Q:=fun st => ∃ vid' l y1 y2,st = rvI B tid L kid sv u at_ q vid' 80 (H0 ++ l) [(211,.bool false)] ∧ (H0 ++ l)[vid']? = some ⟨ns .u64 (T4 80 w s),true,y1,y2,1⟩ ∧ (vid' = vid ∨ H0.length ≤ vid'))
  80 (s:=rvI B tid L kid sv u at_ q vid 0 H0 []) ⟨vid,[],x1,x2,by rw [Kw]; rfl,by rw [Kw]; exact hvo,.inl rfl⟩
  (fun j st hj hst => by
   obtain ⟨vid',l,y1,y2,rfl,h1,h2⟩:=hst
   have up:∀ {i:Nat} {o:Ob},H0[i]? = some o → (H0 ++ l)[i]? = some o:=fun {i o} h => by rw [Qy (Q8.1 h).1]; exact h
   refine ⟨_,Qzp (up hS) (up hU) (up hK) (up hq) h1 hw (Rv hs w j) (Qkz hs hx w j) hj,(H0 ++ l).length,l ++ [⟨ns .u64 (rnd (T4 j w s) (Du.getD j 0) (w.getD j 0)),true,true,true,1⟩],true,true,by rw [← Jx],?_,.inr (by simp)⟩
   rw [← Jx,Zh (Zj _),Kv]; rfl)
  (fun st hst => by
   obtain ⟨vid',l,y1,y2,rfl,h1,h2⟩:=hst
   refine ⟨_,?_,vid',l,y1,y2,rfl,h1,h2⟩
   have gS:(H0 ++ l)[B]? = some ⟨shC sh,true,true,true,1⟩:=by rw [Qy (Q8.1 hS).1]; exact hS
   have c1:=Qjm sh
   generalize shC sh = sc at *
   generalize H0 ++ l = Hc at *
   simp only [rvI,rvE,Qbe,↓Zr,Z0,quiet,cF,↓pF,reduceCtorEq,Qb,Qp,Zi,Zf,Zg,Ze,Zc,Qj,Q3,Qi,Q2,Q6,Q5,↓Zu,↓Zm,↓Z5,↓Z9,↓Z6,↓Z7,cL,Qo,Qn,Qx,Qw,Qu,Ql,Qk,Qv,Qd,Qz,Q0,Qq,Qf,Qh,Qg,Qt,Qs,Qr,Qm,Qe,cJ,gS,c1])
 exact ⟨vid',l,y1,y2,hb,h1,h2⟩
def rsI (B tid L kid sid u at_ vid:Nat) (i:Nat) (Hc:List Ob) (ex:Env):St:=⟨[(3,.pointer (some ⟨B,0,none⟩)),(5,.int .i64 8),(6,.slice (some ⟨tid,0,none⟩) L L),(10,.slice (some ⟨kid,0,none⟩) 80 80),(11,.slice (some ⟨sid,0,none⟩) 8 8),(12,.int .i64 64),(13,.pointer (some ⟨u,0,none⟩)),(14,.int .i64 at_),(22,.slice (some ⟨vid,0,none⟩) 8 8),(29,.int .i64 i)] ++ ex,Hc,[]⟩
theorem Qzs {B tid L kid sid u at_ vid i a b:Nat} {Hc:List Ob} {D v:List Nat} {x1 x2 x3:Bool} (hB:B ≤ sid) (hsl:sid < Hc.length) (hne:vid ≠ sid) (hvo:Hc[vid]? = some ⟨ns .u64 v,true,x1,x2,1⟩) (lD:D.length = 8) (hi:i < 8) (ha:D[i]? = some a) (hb:v[i]? = some b) :
  Jl T B Qbf (rsI B tid L kid sid u at_ vid i (Hc.set sid ⟨ns .u64 D,true,true,x3,1⟩) []) = some (.normal,rsI B tid L kid sid u at_ vid (i + 1) (Hc.set sid ⟨ns .u64 (D.set i ((a + b) % 18446744073709551616)),true,true,x3,1⟩) []):=by
 have e1:((i:Int) < 8) = True:=eq_true (by omega)
 have w3:IntKind.i64.wrap ((i:Int) + 1) = ((i + 1:Nat):Int):=Y0 (b:=1) (by omega)
 have m1:=Ma a b
 have kp:=Qhg ((a + b) % 18446744073709551616)
 have ga:=Yo (k := .u64) ha
 have gb:=Yo (k := .u64) hb
 have g1:(Hc.set sid ⟨ns .u64 D,true,true,x3,1⟩)[sid]? = some ⟨ns .u64 D,true,true,x3,1⟩:=Xp hsl
 have g2:(Hc.set sid ⟨ns .u64 D,true,true,x3,1⟩)[vid]? = some ⟨ns .u64 v,true,x1,x2,1⟩:=by rw [Jj (fun h => hne h.symm)]; exact hvo
 have hset:=Ux .u64 D i ((a + b) % 18446744073709551616)
 have hss:∀ o,(Hc.set sid ⟨ns .u64 D,true,true,x3,1⟩).set sid o = Hc.set sid o:=fun o => by rw [Qd2]
 have hle:i + 1 ≤ (ns .u64 D).length:=by rw [J2,lD]; omega
 have im:Xo B [] [sid] = []:=Yi (by simp; omega)
 generalize (a + b) % 18446744073709551616 = z at *
 generalize Hc.set sid ⟨ns .u64 D,true,true,x3,1⟩ = G at *
 generalize hi1:i + 1 = i1 at *
 simp only [rsI,Qbf,↓Zr,Z0,quiet,cF,↓pF,reduceCtorEq,Qb,Qp,Zi,Zf,Zg,Ze,Zc,Qj,Q3,Qi,Q2,Q6,Q5,↓Zu,↓Zm,↓Z5,↓Z9,↓Z6,↓Z7,cL,Qo,Qn,Qx,Qw,Qu,Ql,Qk,Qv,Qd,Qz,Q0,Qq,Qf,Qh,Qg,Qt,Qs,Qr,Qm,Qe,cJ,e1,w3,m1,kp,ga,gb,g1,g2,hset,hss,hi1,hle,im]
theorem Qvo {B tid L kid sid u at_ vid:Nat} {Hc:List Ob} {s v:List Nat} {x1 x2 x3:Bool} (hB:B ≤ sid) (hso:Hc[sid]? = some ⟨ns .u64 s,true,true,x3,1⟩) (hne:vid ≠ sid) (hvo:Hc[vid]? = some ⟨ns .u64 v,true,x1,x2,1⟩) (lS:s.length = 8) (lV:v.length = 8) :
  Jl T B (.block 12 (.loop Qbf)) (rsI B tid L kid sid u at_ vid 0 Hc []) = some (.normal,rsI B tid L kid sid u at_ vid 8 (Hc.set sid ⟨ns .u64 (Gc (fun x y => (x + y) % 18446744073709551616) s v),true,true,x3,1⟩) [(358,.bool false)]):=by
 have hsl:=(Q8.1 hso).1
 obtain ⟨st,hb,D,rfl,lD,hD⟩:=Vi (T:=T) (base:=B) (id:=12) (body:=Qbf)
  (fun j st => ∃ D,st = rsI B tid L kid sid u at_ vid j (Hc.set sid ⟨ns .u64 D,true,true,x3,1⟩) [] ∧ D.length = 8 ∧ ∀ k,k < 8 → D[k]? = if k < j then (Gc (fun x y => (x + y) % 18446744073709551616) s v)[k]? else s[k]?)
  (Q:=fun st => ∃ D,st = rsI B tid L kid sid u at_ vid 8 (Hc.set sid ⟨ns .u64 D,true,true,x3,1⟩) [(358,.bool false)] ∧ D.length = 8 ∧ ∀ k,k < 8 → D[k]? = (Gc (fun x y => (x + y) % 18446744073709551616) s v)[k]?)
  8 (s:=rsI B tid L kid sid u at_ vid 0 Hc []) ⟨s,by rw [Qjn hso],lS,fun k hk => by rw [if_neg (Jz _)]⟩
  (fun j st hj hs => by
   obtain ⟨D,rfl,lD,hD⟩:=hs
   obtain ⟨a,ha⟩:∃ a,s[j]? = some a:=⟨_,Q1 (by omega)⟩
   obtain ⟨b,hb⟩:∃ a,v[j]? = some a:=⟨_,Q1 (by omega)⟩
   have hDj:D[j]? = some a:=by rw [hD j hj,if_neg (Xj _)]; exact ha
   refine ⟨_,Qzs hB hsl hne hvo lD hj hDj hb,_,rfl,by rw [Xe]; exact lD,fun k hk => ?_⟩
   by_cases h:j = k
   ·subst h
    rw [Xp (by omega),if_pos (Nat.lt_succ_self _),Qfa,ha,hb]
   ·rw [Jj h,hD k hk]
    by_cases h2:k < j
    ·rw [if_pos h2,if_pos (by omega)]
    ·rw [if_neg h2,if_neg (by omega)])
  (fun st hs => by
   obtain ⟨D,rfl,lD,hD⟩:=hs
   refine ⟨_,?_,D,rfl,lD,fun k hk => by rw [hD k hk,if_pos hk]⟩
   generalize Hc.set sid ⟨ns .u64 D,true,true,x3,1⟩ = G
   simp only [rsI,Qbf,↓Zr,Z0,quiet,cF,↓pF,reduceCtorEq,Qb,Qp,Zi,Zf,Zg,Ze,Zc,Qj,Q3,Qi,Q2,Q6,Q5,↓Zu,↓Zm,↓Z5,↓Z9,↓Z6,↓Z7,cL,Qo,Qn,Qx,Qw,Qu,Ql,Qk,Qv,Qd,Qz,Q0,Qq,Qf,Qh,Qg,Qt,Qs,Qr,Qm,Qe,cJ])
 have:D = Gc (fun x y => (x + y) % 18446744073709551616) s v:=Ym fun k => by
  by_cases h:k < 8
  ·exact hD k h
  ·rw [J0 (by omega),J0 (by rw [Qiz]; omega)]
 rw [← this]
 exact hb
theorem app8 {H:List Ob} {sid:Nat} {s:List Nat} {x3:Bool} (hso:H[sid]? = some ⟨ns .u64 s,true,true,x3,1⟩) (ls:s.length = 8) :
  Y4 1 8 (H ++ [⟨[],true,true,true,1⟩]) (.slice (some ⟨H.length,0,none⟩) 0 0) (.slice (some ⟨sid,0,none⟩) 8 8) = some (.slice (some ⟨H.length + 1,0,none⟩) 8 8,H ++ [⟨[],true,true,true,1⟩,Ob.grown 1 (ns .u64 s)],none,[]):=by
 have h1:liveAt (H ++ [⟨[],true,true,true,1⟩]) sid = some ⟨ns .u64 s,true,true,x3,1⟩:=Br (Yg hso rfl)
 have h2:liveAt (H ++ [⟨[],true,true,true,1⟩]) H.length = some ⟨[],true,true,true,1⟩:=Y8
 have h3:elemsOf (H ++ [⟨[],true,true,true,1⟩]) 1 8 (.slice (some ⟨sid,0,none⟩) 8 8) = some (ns .u64 s):=by
  have:We 8 (ns .u64 s) = ns .u64 s:=Zl (by rw [J2]; omega)
  simp [elemsOf,h1,J2,ls,this]
 have h4:elemsOf (H ++ [⟨[],true,true,true,1⟩]) 1 0 (.slice (some ⟨H.length,0,none⟩) 0 0) = some []:=by simp [elemsOf,h2]
 have k1:Go.Ev.lenV (.slice (some ⟨sid,0,none⟩) 8 8) = some 8:=rfl
 simp only [Y4,k1,h2,h3,h4,Q4]
 rw [if_neg (by decide),if_neg (by decide)]
 simp
def reI (B tid L kid sid u:Nat) (at_:Nat) (Hc:List Ob) (ex:Env):St:=⟨[(3,.pointer (some ⟨B,0,none⟩)),(5,.int .i64 8),(6,.slice (some ⟨tid,0,none⟩) L L),(10,.slice (some ⟨kid,0,none⟩) 80 80),(11,.slice (some ⟨sid,0,none⟩) 8 8),(12,.int .i64 64),(13,.pointer (some ⟨u,0,none⟩)),(14,.int .i64 at_)] ++ ex,Hc,[]⟩
theorem Qz3 {B tid kid sid u at_:Nat} {sh:Value} {Hc:List Ob} {all b s:List Nat} {x4:Bool} {x3:Bool} (hBs:B < sid) (hS:Hc[B]? = some ⟨shC sh,true,true,true,1⟩) (hU:Hc[u]? = some ⟨tuC,true,true,true,1⟩) (hK:Hc[kid]? = some ⟨ns .u64 Du,true,true,true,1⟩) (ht:Hc[tid]? = some ⟨u8s all,true,true,x4,1⟩) (hso:Hc[sid]? = some ⟨ns .u64 s,true,true,x3,1⟩) (hs:s.length = 8) (hsx:∀ x ∈ s,x < 18446744073709551616)
  (hL:all.length < 2 ^ 50) (hb:∀ j,j < 128 → all[at_ + j]? = b[j]?) (hbl:b.length = 128) (hx:∀ y ∈ b,y < 256) (hat:at_ + 128 ≤ all.length) :
  ∃ H',Jl T B Qbd (reI B tid all.length kid sid u at_ Hc []) = some (.normal,reI B tid all.length kid sid u (at_ + 128) H' []) ∧ H'[sid]? = some ⟨ns .u64 (blk s b),true,true,x3,1⟩ ∧ Hc.length ≤ H'.length ∧ ∀ i,i < Hc.length → i ≠ sid → H'[i]? = Hc[i]? := by
 have hsl:=(Q8.1 hso).1
 have hBl:B < Hc.length:=by omega
 have h5:=Qv6 (tb := .slice (some ⟨kid,0,none⟩) 80 80) (sv := .slice (some ⟨sid,0,none⟩) 8 8) hBl hS hU ht hL hb hbl hx hat
 obtain ⟨H5,hH5⟩:∃ X,X = Hc ++ [(⟨ns .u64 (Wc b),true,true,true,1⟩:Ob)]:=⟨_,rfl⟩
 have l5:H5.length = Hc.length + 1:=by rw [hH5]; simp
 have up5:∀ {i:Nat} {o:Ob},Hc[i]? = some o → H5[i]? = some o:=fun {i o} h => by rw [hH5,Qy (Q8.1 h).1]; exact h
 have hq5:H5[Hc.length]? = some ⟨ns .u64 (Wc b),true,true,true,1⟩:=by rw [hH5,Zh (Zj _),Kv]; rfl
 have hap:=app8 (up5 hso) hs
 obtain ⟨H7,hH7⟩:∃ X,X = H5 ++ [(⟨[],true,true,true,1⟩:Ob),Ob.grown 1 (ns .u64 s)]:=⟨_,rfl⟩
 have l7:H7.length = H5.length + 2:=by rw [hH7]; simp
 have up7:∀ {i:Nat} {o:Ob},H5[i]? = some o → H7[i]? = some o:=fun {i o} h => by rw [hH7,Qy (Q8.1 h).1]; exact h
 have hv7:H7[H5.length + 1]? = some ⟨ns .u64 s,true,true,false,1⟩:=by rw [hH7,Zh (by omega),Kb]; rfl
 obtain ⟨vid',l,y1,y2,h3,hvo,hvid⟩:=Qvm (L:=all.length) (tid:=tid) (sv := .slice (some ⟨sid,0,none⟩) 8 8) (at_:=at_) (up7 (up5 hS)) (up7 (up5 hU)) (up7 (up5 hK)) (up7 hq5) hv7 (Hj b) hs hsx
 obtain ⟨H8,hH8⟩:∃ X,X = H7 ++ l:=⟨_,rfl⟩
 have l8:H7.length ≤ H8.length:=by rw [hH8]; simp
 have up8:∀ {i:Nat} {o:Ob},H7[i]? = some o → H8[i]? = some o:=fun {i o} h => by rw [hH8,Qy (Q8.1 h).1]; exact h
 rw [← hH8] at h3 hvo
 have hne:vid' ≠ sid:=by omega
 have h2:=Qvo (tid:=tid) (L:=all.length) (kid:=kid) (u:=u) (at_:=at_) (Wh hBs) (up8 (up7 (up5 hso))) hne hvo hs (Rv hs _ 80)
 rw [show Gc (fun x y => (x + y) % 18446744073709551616) s (T4 80 (Wc b) s) = blk s b from rfl] at h2
 obtain ⟨H9,hH9⟩:∃ X,X = H8.set sid ⟨ns .u64 (blk s b),true,true,x3,1⟩:=⟨_,rfl⟩
 rw [← hH9] at h2
 refine ⟨H9,?_,by rw [hH9,Xp (by omega)],by rw [hH9,Xe]; omega,fun i hi hne => ?_⟩
 ·have gS9:H9[B]? = some ⟨shC sh,true,true,true,1⟩:=by rw [hH9,Jj (by omega)]; exact up8 (up7 (up5 hS))
  have e1:((at_:Int) < ((all.length:Nat):Int)) = True:=eq_true (by omega)
  have w1:IntKind.i64.wrap ((at_:Int) + 128) = ((at_ + 128:Nat):Int):=Y0 (b:=128) (by omega)
  have c1:=Qjm sh
  have c2:=Q3q sh
  have hz80:(Qa 80 [Value.int .u64 0]).flatten = ns .u64 (Qa 80 0):=rfl
  have f0:fillL ([]:List Value) [] = some []:=rfl
  have im1:Xo B [] [H5.length] = []:=Yi (by simp; omega)
  simp only [rhI,rhE,rvI,rvE,rsI,Zb,Za,Xu,← hH5] at h5 h3 h2
  rw [← hH7] at hap
  clear hH5 hH7 hH8 hH9 up5 up7 up8 hv7 hq5 hvo hb hx hso
  generalize shC sh = sc at *
  generalize ns .u64 (Qa 80 0) = Z80 at *
  generalize all.length = LL at *
  generalize hat2:at_ + 128 = at2 at *
  simp only [reI,Qbd,↓Zr,Z0,quiet,cF,↓pF,reduceCtorEq,Qb,Qp,Zi,Zf,Zg,Ze,Zc,Qj,Q3,Qi,Q2,Q6,Q5,↓Zu,↓Zm,↓Z5,↓Z9,↓Z6,↓Z7,cL,Qo,Qn,Qx,Qw,Qu,Ql,Qk,Qv,Qd,Qz,Q0,Qq,Qf,Qh,Qg,Qt,Qs,Qr,Qm,Qe,cJ,hS,c1,e1,hz80,h5,f0,hap,im1,h3,h2,gS9,c2,w1]
 ·rw [hH9,Jj (fun h => hne h.symm)]
  have hi':=Q1 hi
  rw [hi']
  exact up8 (up7 (up5 hi'))
end Go.Ev.YtgacigcbglflkaaGreat
set_option linter.unusedSimpArgs false
set_option linter.unusedVariables false
namespace Go.Ev.YtgacigcbglflkaaGreat
open Go Go.Ev
attribute [local congr] W7 Ul W6 Um Wv
set_option maxRecDepth 100000
theorem Qv0 {B tid kid sid u m:Nat} {sh:Value} {H0:List Ob} {all:List Nat} {x3 x4:Bool} (hBs:B < sid) (hus:u ≠ sid) (hks:kid ≠ sid) (hts:tid ≠ sid) (hS:H0[B]? = some ⟨shC sh,true,true,true,1⟩) (hU:H0[u]? = some ⟨tuC,true,true,true,1⟩) (hK:H0[kid]? = some ⟨ns .u64 Du,true,true,true,1⟩) (ht:H0[tid]? = some ⟨u8s all,true,true,x4,1⟩) (hso:H0[sid]? = some ⟨ns .u64 Hy,true,true,x3,1⟩)
  (hL:all.length < 2 ^ 50) (hx:∀ y ∈ all,y < 256) (hm:all.length = 128 * m) :
  ∃ H',Jl T B (.block 4 (.loop Qbd)) (reI B tid all.length kid sid u 0 H0 []) = some (.normal,reI B tid all.length kid sid u all.length H' [(102,.bool false)]) ∧ H'[sid]? = some ⟨ns .u64 (stK m all),true,true,x3,1⟩ ∧ H0.length ≤ H'.length ∧ ∀ i,i < H0.length → i ≠ sid → H'[i]? = H0[i]? := by
 obtain ⟨st,hb,H',rfl,h1,h2,h3⟩:=Vi (T:=T) (base:=B) (id:=4) (body:=Qbd)
  (fun j st => ∃ H',st = reI B tid all.length kid sid u (128 * j) H' [] ∧ H'[sid]? = some ⟨ns .u64 (stK j all),true,true,x3,1⟩ ∧ H0.length ≤ H'.length ∧ ∀ i,i < H0.length → i ≠ sid → H'[i]? = H0[i]?)
  (Q:=fun st => ∃ H',st = reI B tid all.length kid sid u all.length H' [(102,.bool false)] ∧ H'[sid]? = some ⟨ns .u64 (stK m all),true,true,x3,1⟩ ∧ H0.length ≤ H'.length ∧ ∀ i,i < H0.length → i ≠ sid → H'[i]? = H0[i]?)
  m (s:=reI B tid all.length kid sid u 0 H0 []) ⟨H0,rfl,hso,Zj _,fun _ _ _ => rfl⟩
  (fun j st hj hs => by
   obtain ⟨H',rfl,h1,h2,h3⟩:=hs
   have up:∀ {i:Nat} {o:Ob},H0[i]? = some o → i ≠ sid → H'[i]? = some o:=fun {i o} h hne => (h3 i (Q8.1 h).1 hne).trans h
   have hat:128 * j + 128 ≤ all.length:=by omega
   obtain ⟨H9,k1,k2,k3,k4⟩:=Qz3 (at_:=128 * j) (b:=(all.drop (128 * j)).take 128) hBs (up hS (by omega)) (up hU hus) (up hK hks) (up ht hts) h1 (Qax all j) (Qkt all j) hL (fun i hi => by rw [Ks,if_pos hi,Vx]) (by rw [Js,Vs]; omega) (fun y hy => hx y (Yz (Kp hy))) hat
   exact ⟨_,k1,H9,rfl,k2,by omega,fun i hi hne => (k4 i (by omega) hne).trans (h3 i hi hne)⟩)
  (fun st hs => by
   obtain ⟨H',rfl,h1,h2,h3⟩:=hs
   rw [← hm]
   refine ⟨_,?_,H',rfl,h1,h2,h3⟩
   have e1:((all.length:Int) < ((all.length:Nat):Int)) = False:=eq_false (by omega)
   generalize all.length = LL at *
   simp only [reI,Qbd,↓Zr,Z0,quiet,cF,↓pF,reduceCtorEq,Qb,Qp,Zi,Zf,Zg,Ze,Zc,Qj,Q3,Qi,Q2,Q6,Q5,↓Zu,↓Zm,↓Z5,↓Z9,↓Z6,↓Z7,cL,Qo,Qn,Qx,Qw,Qu,Ql,Qk,Qv,Qd,Qz,Q0,Qq,Qf,Qh,Qg,Qt,Qs,Qr,Qm,Qe,cJ,e1])
 exact ⟨H',hb,h1,h2,h3⟩
def roI (sid:Nat) (s:Value) (i c:Int) (Hc:List Ob) (ex:Env):St:=⟨[(5,.int .i64 8),(11,.slice (some ⟨sid,0,none⟩) 8 8),(30,s),(31,.int .i64 i),(32,.int .i64 c)] ++ ex,Hc,[]⟩
theorem Qzw {B N sid i c w:Nat} {s:Value} {Hc:List Ob} {st bs:List Nat} {x3:Bool} (hBN:B ≤ N) (hsN:sid < N) (hso:Hc[sid]? = some ⟨ns .u64 st,true,true,x3,1⟩) (hg:Grown .u8 N Hc s bs) (hL:N ≤ Hc.length) (hbs:bs.length < 100) (hi:i < 8) (hc:c < 8) (hw:st[i]? = some w) (hw':w < 18446744073709551616) :
  ∃ s' H',Jl T B Qbg (roI sid s i c Hc []) = some (.normal,roI sid s' i ((c:Int) - 1) H' []) ∧ Grown .u8 N H' s' (bs ++ [w / 256 ^ c % 256]) ∧ N ≤ H'.length ∧ ∀ k,k < N → H'[k]? = Hc[k]? := by
 obtain ⟨s',H',M,h1,h2,h3,h4,h5⟩:=Ml (x:=w / 256 ^ c % 256) (bytes:=1) hg hL (by omega) (by decide)
 refine ⟨s',H',?_,h2,h4,h5⟩
 have hm:Xo B [] M = []:=Yi fun i hi => by have:=h3 i hi; omega
 have hp:=Qg1 (n:=8 * c) (by omega)
 have e8:(2:Nat) ^ (8 * c) = 256 ^ c:=by rw [Yp]
 rw [e8] at hp
 have h0:0 < 256 ^ c:=Ws (by decide)
 have hz:(((256 ^ c:Nat):Int) = 0) = False:=eq_false (by omega)
 have hd:IntKind.u64.wrap ((w:Int).tdiv ((256 ^ c:Nat):Int)) = ((w / 256 ^ c:Nat):Int):=D9 (Wk (W9 _ _) hw')
 have hr:((w / 256 ^ c:Nat):Int).tmod 256 = ((w / 256 ^ c % 256:Nat):Int):=rfl
 have w1:IntKind.i64.wrap (8 * (c:Int)) = ((8 * c:Nat):Int):=Vn (n:=8 * c) (by omega)
 have w2:IntKind.u8.wrap ((w / 256 ^ c % 256:Nat):Int) = ((w / 256 ^ c % 256:Nat):Int):=Qmh (Jk _ (by decide))
 have w3:IntKind.i64.wrap ((c:Int) - 1) = (c:Int) - 1:=K9 (by omega) (by omega)
 have e1:(0 ≤ (c:Int)) = True:=eq_true (by omega)
 have e2:((i:Int) < 8) = True:=eq_true (by omega)
 have gw:=Yo (k := .u64) hw
 have f0:fillL [Value.int .u8 0] [(0,1,.int .u8 ((w / 256 ^ c % 256:Nat):Int))] = some [.int .u8 ((w / 256 ^ c % 256:Nat):Int)]:=rfl
 generalize w / 256 ^ c % 256 = r at *
 generalize w / 256 ^ c = d at *
 generalize 256 ^ c = p at *
 generalize 8 * c = c8 at *
 simp only [roI,Qbg,↓Zr,Z0,quiet,cF,↓pF,reduceCtorEq,Qb,Qp,Zi,Zf,Zg,Ze,Zc,Qj,Q3,Qi,Q2,Q6,Q5,↓Zu,↓Zm,↓Z5,↓Z9,↓Z6,↓Z7,cL,Qo,Qn,Qx,Qw,Qu,Ql,Qk,Qv,Qd,Qz,Q0,Qq,Qf,Qh,Qg,Qt,Qs,Qr,Qm,Qe,cJ,e1,e2,w1,w2,w3,hp,hz,hd,hr,hso,gw,f0,h1,hm]
def Qbo (st:List Nat):List Nat:=(Y5 64).map fun i => st.getD (i / 8) 0 / 256 ^ (7 - i % 8) % 256
theorem Qwi (st:List Nat):(Qbo st).length = 64:=by simp [Qbo]
theorem Qwj {st:List Nat} {i j w:Nat} (hi:i < 8) (hj:j < 8) (hw:st[i]? = some w):(Qbo st)[8 * i + j]? = some (w / 256 ^ (7 - j) % 256):=by
 have h1:(8 * i + j) / 8 = i:=by omega
 have h2:(8 * i + j) % 8 = j:=by omega
 have h3:8 * i + j < 64:=by omega
 simp only [Qbo,Uw,Hx h3,Di,h1,h2,Bn hw]
theorem Qvu {B N sid i w:Nat} {s0:Value} {H0:List Ob} {st:List Nat} {x3:Bool} (hBN:B ≤ N) (hsN:sid < N) (hso:H0[sid]? = some ⟨ns .u64 st,true,true,x3,1⟩) (hg0:Grown .u8 N H0 s0 ((Qbo st).take (8 * i))) (hL0:N ≤ H0.length) (hi:i < 8) (hw:st[i]? = some w) (hw':w < 18446744073709551616) :
  ∃ s' H',Jl T B (.block 16 (.loop Qbg)) (roI sid s0 i 7 H0 []) = some (.normal,roI sid s' i (-1) H' [(382,.bool false)]) ∧ Grown .u8 N H' s' ((Qbo st).take (8 * (i + 1))) ∧ N ≤ H'.length ∧ ∀ k,k < N → H'[k]? = H0[k]? := by
 obtain ⟨x,hb,s',H',rfl,h1,h2,h3⟩:=Vi (T:=T) (base:=B) (id:=16) (body:=Qbg)
  (fun j x => ∃ s' H',x = roI sid s' i ((7:Int) - (j:Nat)) H' [] ∧ Grown .u8 N H' s' ((Qbo st).take (8 * i + j)) ∧ N ≤ H'.length ∧ ∀ k,k < N → H'[k]? = H0[k]?)
  (Q:=fun x => ∃ s' H',x = roI sid s' i (-1) H' [(382,.bool false)] ∧ Grown .u8 N H' s' ((Qbo st).take (8 * i + 8)) ∧ N ≤ H'.length ∧ ∀ k,k < N → H'[k]? = H0[k]?)
  8 (s:=roI sid s0 i 7 H0 []) ⟨s0,H0,rfl,hg0,hL0,fun _ _ => rfl⟩
  (fun j x hj hx => by
   obtain ⟨s',H',rfl,h1,h2,h3⟩:=hx
   have e:((7:Int) - (j:Nat)) = ((7 - j:Nat):Int):=by omega
   obtain ⟨s2,H2,k1,k2,k3,k4⟩:=Qzw (c:=7 - j) hBN hsN ((h3 sid hsN).trans hso) h1 h2 (by rw [Js]; omega) hi (by omega) hw hw'
   have hget:=Qwj hi hj hw
   rw [show (Qbo st).take (8 * i) = (Qbo st).take (8 * i) from rfl] at hg0
   have ht:(Qbo st).take (8 * i + (j + 1)) = (Qbo st).take (8 * i + j) ++ [w / 256 ^ (7 - j) % 256]:=by
    rw [← Ka,Yf,hget]; rfl
   rw [← e] at k1
   exact ⟨_,k1,s2,H2,by rw [show (7:Int) - (j:Nat) - 1 = (7:Int) - ((j + 1:Nat):Int) by omega],by rw [ht]; exact k2,k3,fun k hk => (k4 k hk).trans (h3 k hk)⟩)
  (fun x hx => by
   obtain ⟨s',H',rfl,h1,h2,h3⟩:=hx
   refine ⟨_,?_,s',H',rfl,h1,h2,h3⟩
   simp only [roI,Qbg,↓Zr,Z0,quiet,cF,↓pF,reduceCtorEq,Qb,Qp,Zi,Zf,Zg,Ze,Zc,Qj,Q3,Qi,Q2,Q6,Q5,↓Zu,↓Zm,↓Z5,↓Z9,↓Z6,↓Z7,cL,Qo,Qn,Qx,Qw,Qu,Ql,Qk,Qv,Qd,Qz,Q0,Qq,Qf,Qh,Qg,Qt,Qs,Qr,Qm,Qe,cJ])
 exact ⟨s',H',hb,h1,h2,h3⟩
def Qk0 (sid:Nat) (s:Value) (i:Int) (Hc:List Ob) (ex:Env):St:=⟨[(5,.int .i64 8),(11,.slice (some ⟨sid,0,none⟩) 8 8),(30,s),(31,.int .i64 i)] ++ ex,Hc,[]⟩
theorem Qvv {B N sid:Nat} {H0:List Ob} {st:List Nat} {x3:Bool} (hBN:B ≤ N) (hsN:sid < N) (hso:H0[sid]? = some ⟨ns .u64 st,true,true,x3,1⟩) (hL0:N ≤ H0.length) (ls:st.length = 8) (xs:∀ w ∈ st,w < 18446744073709551616) :
  ∃ s' H',Jl T B (.block 14 (.loop Qdq)) (Qk0 sid (.slice none 0 0) 0 H0 []) = some (.normal,Qk0 sid s' 8 H' [(376,.bool false)]) ∧ Grown .u8 N H' s' (Qbo st) ∧ N ≤ H'.length ∧ ∀ k,k < N → H'[k]? = H0[k]? := by
 obtain ⟨x,hb,s',H',rfl,h1,h2,h3⟩:=Vi (T:=T) (base:=B) (id:=14) (body:=Qdq)
  (fun j x => ∃ s' H',x = Qk0 sid s' j H' [] ∧ Grown .u8 N H' s' ((Qbo st).take (8 * j)) ∧ N ≤ H'.length ∧ ∀ k,k < N → H'[k]? = H0[k]?)
  (Q:=fun x => ∃ s' H',x = Qk0 sid s' 8 H' [(376,.bool false)] ∧ Grown .u8 N H' s' (Qbo st) ∧ N ≤ H'.length ∧ ∀ k,k < N → H'[k]? = H0[k]?)
  8 (s:=Qk0 sid (.slice none 0 0) 0 H0 []) ⟨_,_,rfl,.nil,hL0,fun _ _ => rfl⟩
  (fun j x hj hx => by
   obtain ⟨s',H',rfl,h1,h2,h3⟩:=hx
   obtain ⟨w,hw⟩:∃ w,st[j]? = some w:=⟨_,Q1 (by omega)⟩
   obtain ⟨s2,H2,k1,k2,k3,k4⟩:=Qvu hBN hsN ((h3 sid hsN).trans hso) h1 h2 hj hw (xs w (Zk hw))
   refine ⟨Qk0 sid s2 ((j + 1:Nat):Int) H2 [],?_,s2,H2,rfl,k2,k3,fun k hk => (k4 k hk).trans (h3 k hk)⟩
   have e1:((j:Int) < 8) = True:=eq_true (by omega)
   have w3:IntKind.i64.wrap ((j:Int) + 1) = ((j + 1:Nat):Int):=Y0 (b:=1) (by omega)
   simp only [roI,Zb,Za] at k1
   generalize hj1:j + 1 = j1 at *
   simp only [Qk0,Qdq,↓Zr,Z0,quiet,cF,↓pF,reduceCtorEq,Qb,Qp,Zi,Zf,Zg,Ze,Zc,Qj,Q3,Qi,Q2,Q6,Q5,↓Zu,↓Zm,↓Z5,↓Z9,↓Z6,↓Z7,cL,Qo,Qn,Qx,Qw,Qu,Ql,Qk,Qv,Qd,Qz,Q0,Qq,Qf,Qh,Qg,Qt,Qs,Qr,Qm,Qe,cJ,e1,k1,w3,hj1])
  (fun x hx => by
   obtain ⟨s',H',rfl,h1,h2,h3⟩:=hx
   rw [Zl (by rw [Qwi]; decide)] at h1
   refine ⟨_,?_,s',H',rfl,h1,h2,h3⟩
   simp only [Qk0,Qdq,↓Zr,Z0,quiet,cF,↓pF,reduceCtorEq,Qb,Qp,Zi,Zf,Zg,Ze,Zc,Qj,Q3,Qi,Q2,Q6,Q5,↓Zu,↓Zm,↓Z5,↓Z9,↓Z6,↓Z7,cL,Qo,Qn,Qx,Qw,Qu,Ql,Qk,Qv,Qd,Qz,Q0,Qq,Qf,Qh,Qg,Qt,Qs,Qr,Qm,Qe,cJ])
 exact ⟨s',H',hb,h1,h2,h3⟩
theorem Qsf {bs:List Nat} (xb:∀ y ∈ bs,y < 256):((⟨(bs.map UInt8.ofNat).toArray⟩:ByteArray).data.toList.map fun b => Value.int .u8 b.toNat) = u8s bs:=by
 simp only [Ql4,u8s]
 refine List.map_congr_left fun y hy => ?_
 have:=xb y hy
 simp [Function.comp,Z3 this]
theorem Qzl {bs:List Nat} {id:Nat} (xb:∀ y ∈ bs,y < 256) (hb:bs.length ≤ 2 ^ 47):Qy8 id (W8 bs) = some (.slice (some ⟨id,0,none⟩) bs.length bs.length,⟨u8s bs,true,true,false,1⟩):=by
 unfold W8
 rw [Qus,Qsf xb]
 have:(⟨(bs.map UInt8.ofNat).toArray⟩:ByteArray).size = bs.length:=by simp [ByteArray.size]
 rw [this,gate,if_pos hb]
theorem Q6q {G:List Ob} {bs:List Nat} (hb:bs.length < 2 ^ 46) :
  Y4 1 1 (G ++ [⟨u8s bs,true,true,false,1⟩,⟨[.int .u8 128],true,true,true,1⟩]) (.slice (some ⟨G.length,0,none⟩) bs.length bs.length) (.slice (some ⟨G.length + 1,0,none⟩) 1 1) = some (.slice (some ⟨G.length + 2,0,none⟩) (bs.length + 1) (bs.length + 1),G ++ [Ob.dead,⟨[.int .u8 128],true,true,true,1⟩,Ob.grown 1 (u8s (bs ++ [128]))],none,[G.length]):=by
 have h1:liveAt (G ++ [⟨u8s bs,true,true,false,1⟩,⟨[.int .u8 128],true,true,true,1⟩]) (G.length + 1) = some ⟨[.int .u8 128],true,true,true,1⟩:=Wp
 have h2:liveAt (G ++ [⟨u8s bs,true,true,false,1⟩,⟨[.int .u8 128],true,true,true,1⟩]) G.length = some ⟨u8s bs,true,true,false,1⟩:=Y8
 have h3:elemsOf (G ++ [⟨u8s bs,true,true,false,1⟩,⟨[.int .u8 128],true,true,true,1⟩]) 1 1 (.slice (some ⟨G.length + 1,0,none⟩) 1 1) = some [.int .u8 128]:=by simp [elemsOf,h1]
 have h4:elemsOf (G ++ [⟨u8s bs,true,true,false,1⟩,⟨[.int .u8 128],true,true,true,1⟩]) 1 bs.length (.slice (some ⟨G.length,0,none⟩) bs.length bs.length) = some (u8s bs):=by
  have:We bs.length (u8s bs) = u8s bs:=Zl (by rw [X2]; exact Zj _)
  simp [elemsOf,h2,X2,this]
 have k1:Go.Ev.lenV (.slice (some ⟨G.length + 1,0,none⟩) 1 1) = some 1:=rfl
 have e1:¬ ((1:Nat) = 0):=by decide
 have e2:(bs.length + 1) * 1 ≤ 2 ^ 47 ∧ 0 < 1 ∧ 0 < 1:=⟨by omega,by decide,by decide⟩
 have e3:¬ (bs.length + 1 ≤ bs.length):=by omega
 have hap:u8s (bs ++ [128]) = u8s bs ++ [.int .u8 128]:=by simp [u8s]
 simp only [Y4,k1,h2,h3,h4,Q4,if_neg e1,e2,and_self,not_true_eq_false,if_false,if_neg e3,hap]
 simp
theorem Grown.ob {k:IntKind} {B:Nat} {H:List Ob} {s:Value} {bs:List Nat} (h:Grown k B H s bs) (h0:0 < bs.length):∃ id x,s = .slice (some ⟨id,0,none⟩) bs.length bs.length ∧ B ≤ id ∧ H[id]? = some ⟨ns k bs,true,true,x,1⟩:=by
 cases h with
 | nil => exact absurd h0 (by decide)
 | @own id _ h1 h2 h3 => exact ⟨id,false,rfl,h1,h3⟩
 | @new id _ h1 h2 h3 => exact ⟨id,true,rfl,h1,h3⟩
theorem Grown.weak {k:IntKind} {B N:Nat} {H:List Ob} {s:Value} {bs:List Nat} (h:Grown k N H s bs) (hB:B ≤ N):Grown k B H s bs:=by
 cases h with
 | nil => exact .nil
 | own h1 h2 h3 => exact .own (by omega) h2 h3
 | new h1 h2 h3 => exact .new (by omega) h2 h3
theorem Qzr {H:List Ob} {bs:List Nat} {hid:Nat} {xe:Bool} (xb:∀ y ∈ bs,y < 256) (hb:bs.length < 2 ^ 46) (hh:H[hid]? = some ⟨ns .u64 Hy,true,true,xe,1⟩) :
  ∃ s l,V6 T 90 [W8 bs,.agg (shC (.slice (some ⟨hid,0,none⟩) 8 8)).toArray] H = some (s,H ++ l,[]) ∧ Grown .u8 H.length (H ++ l) s (sha bs):=by
 obtain ⟨sv,hsv⟩:∃ v,v = Value.slice (some ⟨hid,0,none⟩) 8 8:=⟨_,rfl⟩
 rw [← hsv]
 have hhl:=(Q8.1 hh).1
 have hok:Yk (.agg (shC sv).toArray) = true:=by rw [hsv]; rfl
 obtain ⟨G1,hG1⟩:∃ X,X = H ++ [(⟨shC sv,true,true,true,1⟩:Ob)]:=⟨_,rfl⟩
 have l1:G1.length = H.length + 1:=by rw [hG1]; simp
 have gB:G1[H.length]? = some ⟨shC sv,true,true,true,1⟩:=by rw [hG1,Zh (Zj _),Kv]; rfl
 have gh:G1[hid]? = some ⟨ns .u64 Hy,true,true,xe,1⟩:=by rw [hG1,Qy hhl]; exact hh
 have h2b:=Qzl (id:=G1.length) xb (by omega:bs.length ≤ 2 ^ 47)
 have h80:=Q6q (G:=G1) hb
 obtain ⟨H3,hH3⟩:∃ X,X = G1 ++ [Ob.dead,(⟨[.int .u8 128],true,true,true,1⟩:Ob),Ob.grown 1 (u8s (bs ++ [128]))]:=⟨_,rfl⟩
 rw [← hH3] at h80
 have hg3:Grown .u8 (H.length + 1) H3 (.slice (some ⟨G1.length + 2,0,none⟩) (bs.length + 1) (bs.length + 1)) (bs ++ [128]):=by
  have:=Grown.own (k := .u8) (B:=H.length + 1) (H:=H3) (id:=G1.length + 2) (bs:=bs ++ [128]) (by omega) (by simp) (by rw [hH3,Zh (by omega),Kb]; rfl)
  rwa [Z4] at this
 have p3:∀ i,i < H.length + 1 → H3[i]? = G1[i]? := fun i hi => by rw [hH3,Qy (by omega)]
 obtain ⟨s4,H4,h4,hg4,l4,p4⟩:=Qvl (B:=H.length) (N:=H.length + 1) (x:=W8 bs) (by omega) gB hb hg3 (by rw [hH3]; simp; omega) p3
 have h7:=Qv2 (B:=H.length) (n:=bs.length) (s:=s4) (Hm:=H4) (by omega) hb
 obtain ⟨H5,hH5⟩:∃ X,X = H4 ++ [(⟨u8s ((Y5 16).map (Mj bs.length)),true,true,true,1⟩:Ob)]:=⟨_,rfl⟩
 have l5:H5.length = H4.length + 1:=by rw [hH5]; simp
 have hg5:Grown .u8 (H.length + 1) H5 s4 (bs ++ 128 :: Qa (Gd bs.length) 0):=by rw [hH5]; exact hg4.app
 have lc:((Y5 16).map (Mj bs.length)).length = 16:=by simp
 have he5:elemsOf H5 1 ((Y5 16).map (Mj bs.length)).length (.slice (some ⟨H4.length,0,none⟩) 16 16) = some (ns .u8 ((Y5 16).map (Mj bs.length))):=by
  rw [lc,hH5]
  have:We 16 (u8s ((Y5 16).map (Mj bs.length))) = ns .u8 ((Y5 16).map (Mj bs.length)):=Zl (by rw [X2,lc]; exact Zj _)
  simp [elemsOf,Y8,X2,this]
 have hz:=Qc1 bs.length
 obtain ⟨s6,H6,M6,ha6,hg6,hM6,l6,p6⟩:=hg5.append (bytes:=1) (x := .slice (some ⟨H4.length,0,none⟩) 16 16) (by omega) (by rw [lc]; rfl) he5 (by rw [lc]; simp; omega) (by decide)
 have hall:bs ++ 128 :: Qa (Gd bs.length) 0 ++ (Y5 16).map (Mj bs.length) = bs ++ Rj bs.length:=by rw [Qrh,Jx]
 rw [hall] at hg6
 have lall:(bs ++ Rj bs.length).length = bs.length + (17 + Gd bs.length):=by rw [Z4,Qc2]
 obtain ⟨tid,x4,rfl,htid,htx⟩:=Grown.ob hg6 (by omega)
 have q6:∀ i,i < H.length + 1 → H6[i]? = G1[i]? := fun i hi => by rw [p6 i hi,hH5,Qy (by omega)]; exact p4 i hi
 have htb:=Qsi H6
 obtain ⟨H7,hH7⟩:∃ X,X = H6 ++ [(⟨ns .u64 Du,true,true,true,1⟩:Ob)]:=⟨_,rfl⟩
 have l7:H7.length = H6.length + 1:=by rw [hH7]; simp
 have u7:∀ {i:Nat} {o:Ob},H6[i]? = some o → H7[i]? = some o:=fun {i o} h => by rw [hH7,Qy (Q8.1 h).1]; exact h
 have k7:H7[H6.length]? = some ⟨ns .u64 Du,true,true,true,1⟩:=by rw [hH7,Zh (Zj _),Kv]; rfl
 have hap:=app8 (u7 ((q6 hid (by omega)).trans gh)) Qsg
 obtain ⟨H8,hH8⟩:∃ X,X = H7 ++ [(⟨[],true,true,true,1⟩:Ob),Ob.grown 1 (ns .u64 Hy)]:=⟨_,rfl⟩
 have l8:H8.length = H7.length + 2:=by rw [hH8]; simp
 have u8':∀ {i:Nat} {o:Ob},H7[i]? = some o → H8[i]? = some o:=fun {i o} h => by rw [hH8,Qy (Q8.1 h).1]; exact h
 have k8:H8[H7.length + 1]? = some ⟨ns .u64 Hy,true,true,false,1⟩:=by rw [hH8,Zh (by omega),Kb]; rfl
 rw [← hH8] at hap
 obtain ⟨H9,hH9⟩:∃ X,X = H8 ++ [(⟨tuC,true,true,true,1⟩:Ob)]:=⟨_,rfl⟩
 have l9:H9.length = H8.length + 1:=by rw [hH9]; simp
 have u9:∀ {i:Nat} {o:Ob},H8[i]? = some o → H9[i]? = some o:=fun {i o} h => by rw [hH9,Qy (Q8.1 h).1]; exact h
 have k9:H9[H8.length]? = some ⟨tuC,true,true,true,1⟩:=by rw [hH9,Zh (Zj _),Kv]; rfl
 have htl:=(Q8.1 htx).1
 have xall:∀ y ∈ bs ++ Rj bs.length,y < 256:=fun y hy => (Jb.1 hy).elim (xb y) (Qrg _ y)
 have hm:(bs ++ Rj bs.length).length = 128 * ((bs ++ Rj bs.length).length / 128):=by
  have:=Qg5 bs.length
  rw [lall]; omega
 obtain ⟨H10,hre,hst,l10,p10⟩:=Qv0 (B:=H.length) (tid:=tid) (kid:=H6.length) (sid:=H7.length + 1) (u:=H8.length) (by omega) (by omega) (by omega) (by omega) (u9 (u8' (u7 ((q6 _ (by omega)).trans gB)))) k9 (u9 (u8' k7)) (u9 (u8' (u7 htx))) (u9 k8) (by omega) xall hm
 obtain ⟨s',H11,hro,hg11,l11,p11⟩:=Qvv (B:=H.length) (N:=H9.length) (by omega) (by omega) hst l10 (Qax _ _) (Qkt _ _)
 have hsha:Qbo (stK ((bs ++ Rj bs.length).length / 128) (bs ++ Rj bs.length)) = sha bs:=rfl
 rw [hsha] at hg11
 have pH:∀ i,i < H.length → H11[i]? = H[i]? := fun i hi => by
  rw [p11 i (by omega),p10 i (by omega) (by omega),hH9,Qy (by omega),hH8,Qy (by omega),hH7,Qy (by omega),q6 i (by omega),hG1,Qy hi]
 obtain ⟨l,rfl⟩:=Dz (H:=H) (by omega) pH
 refine ⟨s',l,?_,Grown.weak hg11 (by omega)⟩
 have F1:H ++ [(⟨shC sv,true,true,true,1⟩:Ob)] = G1:=hG1.symm
 have F7:H6 ++ [(⟨ns .u64 Du,true,true,true,1⟩:Ob)] = H7:=hH7.symm
 have F9:H8 ++ [(⟨tuC,true,true,true,1⟩:Ob)] = H9:=hH9.symm
 have B7:∀ m:List Ob,(H7 ++ m)[H.length]? = some ⟨shC sv,true,true,true,1⟩:=fun m => by rw [Qy (by omega)]; exact u7 ((q6 _ (by omega)).trans gB)
 have B8:H8[H.length]? = some ⟨shC sv,true,true,true,1⟩:=u8' (u7 ((q6 _ (by omega)).trans gB))
 have c0:=shC_0 sv
 have c3:=shC_3 sv
 have lsh:=Qq7 sv
 have htu:((shC sv).drop 4).take 12 = tuC:=rfl
 have hz16:(Qa 16 [Value.int .u8 0]).flatten = u8s (Qa 16 0):=rfl
 have f128:fillL [Value.int .u8 0] [(0,1,.int .u8 128)] = some [.int .u8 128]:=rfl
 have f0:fillL ([]:List Value) [] = some []:=rfl
 have hlen:=Qcq (bs:=bs)
 have w1:IntKind.u64.wrap (bs.length:Int) = (bs.length:Nat):=D9 (by omega)
 have im1:Xo H.length [] [G1.length] = []:=Yi (by simp; omega)
 have im2:Xo H.length [] M6 = []:=Yi fun i hi => by have:=hM6 i hi; omega
 have im3:Xo H.length [] [H8.length] = []:=Yi (by simp; omega)
 have ltu:=Qq3
 rw [F7] at htb
 simp only [rzI,rcI,reI,Qk0,Zb,Za,Xu,← hH5] at h4 h7 hre hro
 rw [← hsv] at hap
 clear hG1 hH3 hH5 hH7 hH8 hH9 hg3 hg4 hg5 hg6 hg11 he5 p3 p4 p6 p10 p11 pH q6 u7 u8' u9 gh hh k7 k8 k9 htx hst hsha xall hm hall
 generalize shC sv = sc at *
 generalize tuC = tc at *
 generalize u8s (Qa 16 0) = Z16 at *
 generalize hbl:bs.length = n at *
 generalize (bs ++ Rj n).length = LL at *
 rw [Jc (fn:=Q20) rfl]
 simp only [Q20,↓Zr,Z0,quiet,cF,↓pF,reduceCtorEq,Qb,Qp,Zi,Zf,Zg,Ze,Zc,Qj,Q3,Qi,Q2,Q6,Q5,↓Zu,↓Zm,↓Z5,↓Z9,↓Z6,↓Z7,cL,Qo,Qn,Qx,Qw,Qu,Ql,Qk,Qv,Qd,Qz,Q0,Qq,Qf,Qh,Qg,Qt,Qs,Qr,Qm,Qe,cJ,hok,F1,gB,c0,c3,h2b,f128,h80,h4,hz16,hlen,w1,h7,ha6,htb,f0,hap,B7,B8,htu,lsh,ltu,F9,hre,hro,im1,im2,im3,Xd,Zd]
def rtI (tid:Nat) (Hm:List Ob) (X:List Nat) (i:Nat) (ex:Env):St:=⟨[(2,.pointer (some ⟨0,0,none⟩)),(4,.slice (some ⟨tid,0,none⟩) 64 64),(5,.pointer (some ⟨Hm.length,0,none⟩)),(6,.int .i64 i)] ++ ex,Hm ++ [⟨u8s X,true,true,true,1⟩],[]⟩
theorem Qvn {tid:Nat} {Hm:List Ob} {S:List Nat} {x:Bool} (ht:Hm[tid]? = some ⟨u8s S,true,true,x,1⟩) (lS:S.length = 64) :
  Jl T 0 (.block 0 (.loop Qdr)) (rtI tid Hm (Qa 64 0) 0 []) = some (.normal,rtI tid Hm S 64 [(17,.bool false)]):=by
 have h:=Wb (T:=T) (base:=0) (id:=0) (body:=Qdr) (fun i => rtI tid Hm (pf 64 S i) i []) (s':=rtI tid Hm S 64 [(17,.bool false)]) 64
  (fun i hi => by
   obtain ⟨w,hw⟩:∃ w,S[i]? = some w:=⟨_,Q1 (by omega)⟩
   have hstep:=Gu lS hi hw
   have hset:=U3 (pf 64 S i) i w
   rw [hstep] at hset
   have hle:i + 1 ≤ (u8s (pf 64 S i)).length:=by rw [X2,Db lS (by omega)]; omega
   have e1:((i:Int) < 64) = True:=eq_true (by omega)
   have w3:IntKind.i64.wrap ((i:Int) + 1) = ((i + 1:Nat):Int):=Y0 (b:=1) (by omega)
   have gt:∀ m:List Ob,(Hm ++ m)[tid]? = some ⟨u8s S,true,true,x,1⟩:=fun m => by rw [Qy (Q8.1 ht).1]; exact ht
   have gw:(u8s S)[i]? = some (.int .u8 (w:Nat)):=Wo hw
   have im:Xo 0 [] [Hm.length] = []:=Yi (by simp)
   generalize pf 64 S i = O1 at *
   generalize pf 64 S (i + 1) = O2 at *
   generalize hi1:i + 1 = i1 at *
   simp only [rtI,Qdr,↓Zr,Z0,quiet,cF,↓pF,reduceCtorEq,Qb,Qp,Zi,Zf,Zg,Ze,Zc,Qj,Q3,Qi,Q2,Q6,Q5,↓Zu,↓Zm,↓Z5,↓Z9,↓Z6,↓Z7,cL,Qo,Qn,Qx,Qw,Qu,Ql,Qk,Qv,Qd,Qz,Q0,Qq,Qf,Qh,Qg,Qt,Qs,Qr,Qm,Qe,cJ,e1,w3,gt,gw,hset,hle,im,hi1])
  (by
   rw [De lS]
   simp only [rtI,Qdr,↓Zr,Z0,quiet,cF,↓pF,reduceCtorEq,Qb,Qp,Zi,Zf,Zg,Ze,Zc,Qj,Q3,Qi,Q2,Q6,Q5,↓Zu,↓Zm,↓Z5,↓Z9,↓Z6,↓Z7,cL,Qo,Qn,Qx,Qw,Qu,Ql,Qk,Qv,Qd,Qz,Q0,Qq,Qf,Qh,Qg,Qt,Qs,Qr,Qm,Qe,cJ])
 rw [Dd] at h
 exact h
theorem Qjo {bs:List Nat} (xb:∀ y ∈ bs,y < 256) (hb:bs.length < 2 ^ 46):Vd T 53 [W8 bs] = some (.agg (u8s (sha bs)).toArray):=by
 have hz64:Qa 64 (Value.int .u8 0) = u8s (Qa 64 0):=rfl
 have lz64:(Qa 64 0).length = 64:=Zd
 obtain ⟨G,hG⟩:∃ X,X = [(⟨u8s (Qa 64 0),true,true,true,1⟩:Ob),⟨shC (.slice (some ⟨2,0,none⟩) 8 8),true,true,true,1⟩,⟨ns .u64 Hy,true,true,true,1⟩]:=⟨_,rfl⟩
 obtain ⟨s,l,h1,hg⟩:=Qzr (H:=G) (hid:=2) (xe:=true) xb hb (by rw [hG]; rfl)
 have lS:=Hn bs
 obtain ⟨tid,x,rfl,h2,h3⟩:=Grown.ob hg (by omega)
 rw [lS] at h1
 have h4:=Qvn (tid:=tid) h3 lS
 obtain ⟨G2,hG2⟩:∃ X,X = G ++ l:=⟨_,rfl⟩
 have g0:∀ m:List Ob,(G2 ++ m)[0]? = some ⟨u8s (Qa 64 0),true,true,true,1⟩:=fun m => by rw [hG2,hG]; rfl
 have s1:∀ (m:List Ob) (o:Ob),(G2.set 0 o ++ m)[0]? = some o:=fun m o => by rw [hG2,hG]; rfl
 have s0:∀ (m:List Ob) (o:Ob),(G2 ++ m).set 0 o = (G2.set 0 o) ++ m:=fun m o => by rw [hG2,hG]; rfl
 rw [← hG2] at h1 h4
 simp only [rtI,Zb,Za,Xu] at h4
 have fI:fillL (Qa 8 (Value.int .u64 0)) [(0,1,.int .u64 7640891576956012808),(1,1,.int .u64 13503953896175478587),(2,1,.int .u64 4354685564936845355),(3,1,.int .u64 11912009170470909681),(4,1,.int .u64 5840696475078001361),(5,1,.int .u64 11170449401992604703),(6,1,.int .u64 2270897969802886507),(7,1,.int .u64 6620516959819538809)] = some (ns .u64 Hy):=rfl
 rw [hG] at h1
 clear hg h3 hG hG2
 have fT:fillL [Value.int .i64 0,.int .i64 0,.int .i64 0,.slice none 0 0,.int .i64 0,.int .i64 0,.int .i64 0,.int .i64 0,.int .i64 0,.int .i64 0,.int .i64 0,.int .i64 0,.int .i64 0,.int .i64 0,.int .i64 0,.int .i64 0] [(0,1,.int .i64 64),(1,1,.int .i64 80),(2,1,.int .i64 128)] = some ([Value.int .i64 64,.int .i64 80,.int .i64 128,.slice none 0 0] ++ Qa 12 (.int .i64 0)):=rfl
 have f12:fillL (Qa 12 (Value.int .i64 0)) [(0,1,.int .i64 1),(1,1,.int .i64 8),(2,1,.int .i64 7),(3,1,.int .i64 19),(4,1,.int .i64 61),(5,1,.int .i64 6),(6,1,.int .i64 28),(7,1,.int .i64 34),(8,1,.int .i64 39),(9,1,.int .i64 14),(10,1,.int .i64 18),(11,1,.int .i64 41)] = some tuC:=rfl
 have hs3:([Value.int .i64 64,.int .i64 80,.int .i64 128,.slice none 0 0] ++ Qa 12 (Value.int .i64 0)).set 3 (Value.slice (some ⟨2,0,none⟩) 8 8) = [Value.int .i64 64,.int .i64 80,.int .i64 128,.slice (some ⟨2,0,none⟩) 8 8] ++ Qa 12 (Value.int .i64 0):=rfl
 have hs4:splice ([Value.int .i64 64,.int .i64 80,.int .i64 128,.slice (some ⟨2,0,none⟩) 8 8] ++ Qa 12 (Value.int .i64 0)) 4 tuC = shC (.slice (some ⟨2,0,none⟩) 8 8):=rfl
 have lc1:([Value.int .i64 64,.int .i64 80,.int .i64 128,.slice none 0 0] ++ Qa 12 (Value.int .i64 0)).length = 16:=rfl
 have lc2:([Value.int .i64 64,.int .i64 80,.int .i64 128,.slice (some ⟨2,0,none⟩) 8 8] ++ Qa 12 (Value.int .i64 0)).length = 16:=rfl
 have lsh:=Qq7 (.slice (some ⟨2,0,none⟩) 8 8)
 have ltu:=Qq3
 have fz:fillL (u8s (Qa 64 0)) [] = some (u8s (Qa 64 0)):=rfl
 generalize [Value.int .i64 64,.int .i64 80,.int .i64 128,.slice none 0 0] ++ Qa 12 (Value.int .i64 0) = C1 at *
 generalize [Value.int .i64 64,.int .i64 80,.int .i64 128,.slice (some ⟨2,0,none⟩) 8 8] ++ Qa 12 (Value.int .i64 0) = C2 at *
 generalize shC (.slice (some ⟨2,0,none⟩) 8 8) = C3 at *
 generalize tuC = TU at *
 generalize sha bs = S at *
 generalize Qa 64 0 = Z64 at *
 apply Xg
 apply Zt
 rw [Jc (fn:=Q21) rfl]
 simp only [Q21,↓Zr,Z0,quiet,cF,↓pF,reduceCtorEq,Qb,Qp,Zi,Zf,Zg,Ze,Zc,Qj,Q3,Qi,Q2,Q6,Q5,↓Zu,↓Zm,↓Z5,↓Z9,↓Z6,↓Z7,cL,Qo,Qn,Qx,Qw,Qu,Ql,Qk,Qv,Qd,Qz,Q0,Qq,Qf,Qh,Qg,Qt,Qs,Qr,Qm,Qe,cJ,hz64,fz,fI,fT,f12,hs3,hs4,lc1,lc2,lsh,ltu,h1,h4,g0,s0,s1,Jy,Xs,Vm,Xt,X2,lz64,lS,Xd,Zd,Vl]
 rfl
theorem Qb8 (p:Go.Cv.Pt Go.Fp.P Go.Fp.d):W3 p U2 = p:=Go.Cv.add_zero Go.Fp.fld p
theorem Qc0 (p:Go.Cv.Pt Go.Fp.P Go.Fp.d):W3 p p.neg = U2:=Go.Cv.add_neg Go.Fp.fld p
theorem Mh (a b:Nat) (p:Go.Cv.Pt Go.Fp.P Go.Fp.d):V9 (a + b) p = W3 (V9 a p) (V9 b p):=Go.Cv.mul_add Go.Fp.fld a b p
theorem T8 (a b:Nat) (p:Go.Cv.Pt Go.Fp.P Go.Fp.d):V9 (a * b) p = V9 a (V9 b p):=Go.Cv.Qrp Go.Fp.fld a b p
theorem Hp {l:Nat} {p:Go.Cv.Pt Go.Fp.P Go.Fp.d} (hl:V9 l p = U2) (k:Nat):V9 (k % l) p = V9 k p:=Go.Cv.mul_mod Go.Fp.fld hl k
theorem Qju (k:Nat):V9 k U2 = U2:=Go.Cv.mul_zero Go.Fp.fld k
abbrev LtN (n:Nat):Nat → Prop:=fun i => i < n
theorem HPart.arr {n id off m c:Nat} {H:List Ob} {b:List Nat} {w e:Bool} {s:Nat} (hid:id < n) (h:H[id]? = some ⟨u8s b,true,w,e,s⟩) (hb:∀ y ∈ b,y < 256) (hl:off + m ≤ b.length) (hm:m ≤ 2 ^ 47 - 4096):HPart (LtN n) H (.slice (some ⟨id,off,none⟩) m c) ((b.drop off).take m):=by
 have hlen:((b.drop off).take m).length = m:=by rw [Js,Vs]; omega
 refine ⟨⟨_,_,by rw [hlen]⟩,fun G hG => ?_,fun y hy => hb y (Yz (Kp hy)),by rw [hlen]; omega⟩
 have hg:=(hG id hid).trans h
 rw [hlen]
 simp [elemsOf,Yg hg rfl,X2,hl]
 simp [u8s,List.map_take,List.map_drop]
theorem HPart.whole {n id c:Nat} {H:List Ob} {b:List Nat} {w e:Bool} {s:Nat} (hid:id < n) (h:H[id]? = some ⟨u8s b,true,w,e,s⟩) (hb:∀ y ∈ b,y < 256) (hm:b.length ≤ 2 ^ 47 - 4096):HPart (LtN n) H (.slice (some ⟨id,0,none⟩) b.length c) b:=by
 have:=HPart.arr (off:=0) (m:=b.length) (c:=c) hid h hb (by omega) hm
 rwa [Q2,Hu] at this
theorem HPart.ext {n m:Nat} {H G:List Ob} {x:Value} {p:List Nat} (h:HPart (LtN n) H x p) (hg:∀ i,i < n → G[i]? = H[i]?) (hnm:n ≤ m):HPart (LtN m) G x p :=
 ⟨h.shape,fun G' hG' => h.reads G' fun i hi => (hG' i (X1 hi hnm)).trans (hg i hi),h.lt,h.le⟩
theorem HParts.ext {n m:Nat} {H G:List Ob} {xs:List Value} {ps:List (List Nat)} (h:HParts (LtN n) H xs ps) (hg:∀ i,i < n → G[i]? = H[i]?) (hnm:n ≤ m):HParts (LtN m) G xs ps:=by
 induction h with
 | nil => exact .nil
 | cons a _ ih => exact .cons (a.ext hg hnm) ih
theorem HParts.append {K:Nat → Prop} {H:List Ob} {xs ys:List Value} {ps qs:List (List Nat)} (h:HParts K H xs ps) (k:HParts K H ys qs):HParts K H (xs ++ ys) (ps ++ qs):=by
 induction h with
 | nil => exact k
 | cons a _ ih => exact .cons a ih
structure Args1 (H:List Ob) (pv:Value) (ps:List (List Nat)) (xs:List Value):Prop where
 inPv:PV (LtN H.length) H pv xs
 parts:HParts (LtN H.length) H xs ps
 few:xs.length < 2 ^ 40
 len:Go.Ev.lenV pv = some xs.length
 reads:∀ G:List Ob,(∀ i,i < H.length → G[i]? = H[i]?) → elemsOf G 1 xs.length pv = some xs
def Args (H:List Ob) (pv:Value) (ps:List (List Nat)):Prop:=∃ xs,Args1 H pv ps xs
theorem Args.ext {H G:List Ob} {pv:Value} {ps:List (List Nat)} (h:Args H pv ps) (hg:∀ i,i < H.length → G[i]? = H[i]?) (hl:H.length ≤ G.length):Args G pv ps:=by
 obtain ⟨xs,h1,h2,h3,h4,h5⟩:=h
 refine ⟨xs,?_,h2.ext hg hl,h3,h4,fun G' hG' => h5 G' fun i hi => (hG' i (X1 hi hl)).trans (hg i hi)⟩
 rcases h1 with h | ⟨pid,off,cap,o,a1,a2,a3,a4,a5⟩
 ·exact .inl h
 ·exact .inr ⟨pid,off,cap,o,a1,X1 a2 hl,(hg pid a2).trans a3,a4,a5⟩
theorem Args.app {H l:List Ob} {pv:Value} {ps:List (List Nat)} (h:Args H pv ps):Args (H ++ l) pv ps:=h.ext (fun i hi => Qy hi) (by simp)
theorem Args.nothing (H:List Ob):Args H (.slice none 0 0) []:=⟨[],.inl ⟨rfl,rfl⟩,.nil,by decide,rfl,fun _ _ => rfl⟩
theorem Args.arr {H:List Ob} {a n c:Nat} {e:Bool} {s:Nat} {ys:List Value} {qs:List (List Nat)} (ha:H[a]? = some ⟨ys,true,true,e,s⟩) (hn:ys.length = n) (hys:HParts (LtN H.length) H ys qs) (hf:n < 2 ^ 40):Args H (.slice (some ⟨a,0,none⟩) n c) qs:=by
 subst hn
 refine ⟨ys,.inr ⟨a,0,c,_,rfl,(Q8.1 ha).1,ha,rfl,fun i _ => by rw [Z1]⟩,hys,hf,rfl,fun G hG => ?_⟩
 have hg:=(hG a (Q8.1 ha).1).trans ha
 simp [elemsOf,Yg hg rfl]
theorem Qap {H:List Ob} {a n:Nat} {ys:List Value} {pv:Value} {qs ps:List (List Nat)} (ha:H[a]? = some ⟨ys,true,true,true,1⟩) (hn:ys.length = n) (hys:HParts (LtN H.length) H ys qs) (hp:Args H pv ps) (h10:n ≤ 10) (hps:ps.length ≤ 1000) :
  ∃ v' l,Y4 1 24 H (.slice (some ⟨a,0,none⟩) n n) pv = some (v',H ++ l,none,[]) ∧ Args (H ++ l) v' (qs ++ ps):=by
 have hAr:Args H (.slice (some ⟨a,0,none⟩) n n) qs:=Args.arr ha hn hys (by omega)
 subst hn
 obtain ⟨xs,hp⟩:=hp
 have h4:liveAt H a = some ⟨ys,true,true,true,1⟩:=Yg ha rfl
 have h8:elemsOf H 1 ys.length (.slice (some ⟨a,0,none⟩) ys.length ys.length) = some ys:=by simp [elemsOf,h4]
 have k1:=hp.len
 have k2:=hp.reads H (fun _ _ => rfl)
 have k3:=hp.few
 have k4:=hp.parts.len
 rcases Yd xs.length with h0 | h0
 ·have hx:xs = []:=Yl h0
  have hps':ps = []:=Yl (by rw [hp.parts.len,h0])
  subst hx hps'
  refine ⟨.slice (some ⟨a,0,none⟩) ys.length ys.length,[],?_,by rw [Kw,Kw]; exact hAr⟩
  rw [Jf] at k1 k2
  simp only [Y4,k1,k2,Q4,if_true,Kw]
 ·have h1:¬ xs.length = 0:=by omega
  have h2:(ys.length + xs.length) * 24 ≤ 2 ^ 47:=by omega
  have h7:¬ (ys.length + xs.length ≤ ys.length):=by omega
  refine ⟨.slice (some ⟨H.length,0,none⟩) (ys.length + xs.length) (ys.length + xs.length),[Ob.grown 1 (ys ++ xs)],?_,?_⟩
  ·simp only [Y4,k1,k2,Q4,if_neg h1,h2,Qoo,Qug,R5,and_self,not_true_eq_false,if_false,if_true,h4,h8,if_neg h7]
  ·refine Args.arr (ys:=ys ++ xs) (e:=false) (s:=1) (by rw [Zh (Zj _),Kv]; rfl) (by simp) ?_ (by omega)
   exact (hys.ext (fun i hi => Qy hi) (by simp)).append (hp.parts.ext (fun i hi => Qy hi) (by simp))
theorem Qmk {H:List Ob} {pv:Value} {ps:List (List Nat)} (h:Args H pv ps) (hb:ps.flatten.length < 2 ^ 49):∃ l,V6 T 35 [pv] H = some (.agg (u8s (sha ps.flatten)).toArray,H ++ l,[]):=by
 obtain ⟨xs,h⟩:=h
 have:=h.few
 exact Qse h.inPv h.parts (by omega) hb
def Qcy (b:List Nat):List Nat:=rd (sha b)
theorem T7 {b:List Nat}:(Qcy b).length = 32:=Qpi
theorem Qcx {b:List Nat}:∀ x ∈ Qcy b,x < 256:=rd_lt
theorem Rg {H:List Ob} {pv:Value} {ps:List (List Nat)} (h:Args H pv ps) (hb:ps.flatten.length < 2 ^ 49) :
  ∃ l,V6 T 17 [pv] H = some (.agg (u8s (Qcy ps.flatten)).toArray,H ++ l,[]):=by
 have hz:Qa 32 (Value.int .u8 0) = u8s (dig 256 32 0):=rfl
 have lz:(dig 256 32 0).length = 32:=rfl
 have hz64:=Ty
 have lz64:(Qa 64 0).length = 64:=Zd
 obtain ⟨l1,h1⟩:=Qmk (h.app (l:=[⟨u8s (dig 256 32 0),true,true,true,1⟩])) hb
 have ls:=Hn ps.flatten
 have xs:=Qb2 ps.flatten
 obtain ⟨G,hG⟩:∃ X,X = H ++ (⟨u8s (dig 256 32 0),true,true,true,1⟩ :: (l1 ++ [⟨u8s (sha ps.flatten),true,true,true,1⟩,⟨[.slice (some ⟨H.length + (l1.length + 1),0,none⟩) 64 64],true,true,true,1⟩])):=⟨_,rfl⟩
 have hGl:G.length = H.length + (l1.length + 3):=by rw [hG]; simp
 have hg1:G[H.length + (l1.length + 1)]? = some ⟨u8s (sha ps.flatten),true,true,true,1⟩:=by
  rw [hG,Zh (by omega),Kb,Zp,Zh (Zj _),Kv]; rfl
 have hg2:G[H.length + (l1.length + 1 + 1)]? = some ⟨[.slice (some ⟨H.length + (l1.length + 1),0,none⟩) 64 64],true,true,true,1⟩:=by
  rw [hG,Zh (by omega),Kb,Zp,Zh (by omega),Kb]; rfl
 have hP:Qy1 .u8 G (H.length + (l1.length + 1 + 1)) 0 [sha ps.flatten]:=by
  refine ⟨_,Yg hg2 rfl,fun i p hi => ?_⟩
  cases i with
  | zero =>
   simp at hi; subst hi
   refine ⟨_,rfl,?_⟩
   have:=Sl.mk (k := .u8) (c:=64) (off:=0) (l:=sha ps.flatten) (Yg hg1 rfl) (by simp [X2]) (fun i x hx => by rw [Z1]; exact Wo hx)
   rwa [ls] at this
  | succ i => simp at hi
 obtain ⟨l2,h2⟩:=Qsp (c:=1) (n:=1) hP rfl (by decide) (by simp [ls]) (by simpa using xs)
 rw [Vj,Ud,Kw] at h2
 have hfr:∀ i,i < H.length → ((G ++ l2).set H.length (⟨u8s (Qcy ps.flatten),true,true,true,1⟩:Ob))[i]? = H[i]? := fun i hi => by
  rw [Jj (by omega),Qy (by omega),hG,Qy hi]
 obtain ⟨l,hl⟩:=Dz (H:=H) (by rw [Xe,Z4]; omega) hfr
 refine ⟨l,?_⟩
 rw [← hl]
 have g4:∀ o:Ob,((G ++ l2).set H.length o)[H.length]? = some o:=fun o => Xp (by rw [Z4]; omega)
 have f1:fillL [Value.slice none 0 0] [(0,1,.slice (some ⟨H.length + (l1.length + 1),0,none⟩) 64 64)] = some [.slice (some ⟨H.length + (l1.length + 1),0,none⟩) 64 64]:=rfl
 have lr:=T7 (b:=ps.flatten)
 rw [show dig 256 32 (num 256 (sha ps.flatten) % ell) = Qcy ps.flatten from rfl] at h2
 have F1:H ++ (⟨u8s (dig 256 32 0),true,true,true,1⟩ :: (l1 ++ [⟨u8s (sha ps.flatten),true,true,true,1⟩,⟨[.slice (some ⟨H.length + (l1.length + 1),0,none⟩) 64 64],true,true,true,1⟩])) = G:=hG.symm
 have hg3:(G ++ l2)[H.length]? = some ⟨u8s (dig 256 32 0),true,true,true,1⟩:=by
  rw [Qy (by omega),hG,Zh (Zj _),Kv]; rfl
 rw [Jx,Zb,Za] at h1
 generalize Qcy ps.flatten = R at *
 generalize sha ps.flatten = S at *
 generalize dig 256 32 0 = Z at *
 generalize Qa 64 0 = Z64 at *
 rw [Jc (fn:=Q3e) rfl]
 simp only [Q3e,↓Zr,Z0,quiet,cF,↓pF,reduceCtorEq,Qb,Qp,Zi,Zf,Zg,Ze,Zc,Qj,Q3,Qi,Q2,Q6,Q5,↓Zu,↓Zm,↓Z5,↓Z9,↓Z6,↓Z7,cL,Qo,Qn,Qx,Qw,Qu,Ql,Qk,Qv,Qd,Qz,Q0,Qq,Qf,Qh,Qg,Qt,Qs,Qr,Qm,Qe,cJ,hz,hz64,h1,f1,F1,h2,hg3,g4,Jy,Xs,Vm,Xt,X2,lz,lz64,ls,lr,Xd,Zd]
def scL (s:List Nat):List Nat:=Gh ((sha s).take 32) ((sha s).getD 0 0) ((sha s).getD 31 0)
def pfL (s:List Nat):List Nat:=(sha s).drop 32
theorem Qaz (s:List Nat):(scL s).length = 32:=by simp [scL,Gh,Hn]
theorem Qf3 (s:List Nat):(pfL s).length = 32:=by simp [pfL,Hn]
theorem Qei (s:List Nat) {i:Nat} (h:i < 64):∃ x,(sha s)[i]? = some x ∧ (sha s).getD i 0 = x ∧ x < 256:=by
 obtain ⟨x,hx⟩:∃ x,(sha s)[i]? = some x:=⟨_,Q1 (by rw [Hn]; exact h)⟩
 exact ⟨x,hx,Bn hx,Qb2 s x (Zk hx)⟩
theorem Qkw (s:List Nat):∀ y ∈ scL s,y < 256:=by
 obtain ⟨x,-,e1,lx⟩:=Qei s (i:=0) (by decide)
 obtain ⟨z,-,e2,lz⟩:=Qei s (i:=31) (by decide)
 have h1:x &&& 248 < 256:=Dr (n:=8) _ (by decide)
 have h2:(z &&& 127) ||| 64 < 256:=Qbk (n:=8) (Dr (n:=8) _ (by decide)) (by decide)
 rw [scL,Gh,e1,e2]
 exact Da (Da (fun y hy => Qb2 s y (Kp hy)) h1) h2
theorem Q5j (s:List Nat):∀ y ∈ pfL s,y < 256:=fun y hy => Qb2 s y (Yz hy)
theorem Dk (n:Nat) (l:List Nat):We n (u8s l) = u8s (l.take n):=by simp [u8s,List.map_take]
theorem Qgg (n:Nat) (l:List Nat):Bs n (u8s l) = u8s (l.drop n):=by simp [u8s,List.map_drop]
theorem Qgh (a b:List Nat):u8s (a ++ b) = u8s a ++ u8s b:=by simp [u8s]
theorem Qx7 {a b:List Nat} (la:a.length = 32) (lb:b.length = 32):fillL (u8s (Qa 64 0)) [(0,32,.agg (u8s a).toArray),(32,32,.agg (u8s b).toArray)] = some (u8s (a ++ b)):=by
 have l64:(u8s (Qa 64 0)).length = 64:=by rw [X2,Zd]
 have lA:(u8s a).length = 32:=by rw [X2,la]
 have lB:(u8s b).length = 32:=by rw [X2,lb]
 have ca:∀ l:List Nat,(Value.agg (u8s l).toArray).cells.toList = u8s l:=fun _ => rfl
 have cz:∀ l:List Nat,(Value.agg (u8s l).toArray).cells.size = (u8s l).length:=fun _ => rfl
 have ok:∀ l:List Nat,Yk (Value.agg (u8s l).toArray) = true:=fun _ => rfl
 have s1:splice (u8s (Qa 64 0)) 0 (u8s a) = u8s a ++ (u8s (Qa 64 0)).drop 32:=by
  rw [Mc _ _ _ (by omega),Q3,Za,Z1,lA]
 have s2:splice (u8s a ++ (u8s (Qa 64 0)).drop 32) 32 (u8s b) = u8s (a ++ b):=by
  rw [Mc _ _ _ (by rw [Z4,Vs]; omega),Wt (by omega),Zl (by omega),Yb (by rw [Z4,Vs]; omega),Kw,Qgh]
 have e1:(u8s a).length = 32 ∧ 0 + 32 ≤ (u8s (Qa 64 0)).length ∧ True:=⟨lA,by omega,trivial⟩
 have e2:(u8s b).length = 32 ∧ 32 + 32 ≤ (u8s a ++ (u8s (Qa 64 0)).drop 32).length ∧ True:=⟨lB,by rw [Z4,Vs]; omega,trivial⟩
 simp only [fillL,ca,cz,ok,s1,s2,if_pos e1,if_pos e2]
theorem Qnr {s:List Nat} (ls:s.length = 32) (xs:∀ y ∈ s,y < 256):Vd T 13 [.agg (u8s s).toArray] = some (.agg (u8s (scL s ++ pfL s)).toArray):=by
 have hz64:=Ty
 have lz64:(Qa 64 0).length = 64:=Zd
 obtain ⟨G,hG⟩:∃ X,X = [(⟨u8s s,true,true,true,1⟩:Ob),⟨u8s (Qa 64 0),true,true,true,1⟩,⟨[.slice (some ⟨0,0,none⟩) 32 32],true,true,true,1⟩]:=⟨_,rfl⟩
 have hA:Args G (.slice (some ⟨2,0,none⟩) 1 1) [s]:=by
  have hp:HPart (LtN G.length) G (.slice (some ⟨0,0,none⟩) 32 32) s:=by
   have:=HPart.whole (n:=G.length) (H:=G) (id:=0) (c:=32) (b:=s) (by rw [hG]; exact Qoo _) (by rw [hG]; rfl) xs (by rw [ls]; decide)
   rwa [ls] at this
  exact Args.arr (ys:=[.slice (some ⟨0,0,none⟩) 32 32]) (e:=true) (s:=1) (by rw [hG]; rfl) rfl (.cons hp .nil) (by decide)
 obtain ⟨l,h1⟩:=Qmk hA (by simp [ls])
 rw [Vj,Ud,Kw,hG] at h1
 simp only [Zb,Za] at h1
 obtain ⟨x,g0,d0,lx⟩:=Qei s (i:=0) (by decide)
 obtain ⟨z,g31,d31,lz⟩:=Qei s (i:=31) (by decide)
 have lS:=Hn s
 have lt32:((sha s).take 32).length = 32:=by rw [Js,lS]; rfl
 obtain ⟨lc,hc⟩:=Qym (a:=(sha s).take 32) (x:=x) (y:=z) lt32 (by rw [Ks,if_pos (by decide)]; exact g0) (by rw [Ks,if_pos (by decide)]; exact g31) lx lz
 have hcv:=R0 hc
 rw [show Gh ((sha s).take 32) x z = scL s by rw [scL,d0,d31]] at hcv
 have hf:=Qx7 (Qaz s) (Qf3 s)
 have f1:fillL [Value.slice none 0 0] [(0,1,.slice (some ⟨0,0,none⟩) 32 32)] = some [.slice (some ⟨0,0,none⟩) 32 32]:=rfl
 have t1:We 32 (u8s (sha s)) = u8s ((sha s).take 32):=Dk _ _
 have t2:We 32 (Bs 32 (u8s (sha s))) = u8s (pfL s):=by rw [Qgg,Dk,Zl (by rw [Vs,lS]; decide)]; rfl
 have l1:=Qaz s
 have l2:=Qf3 s
 have l3:(scL s ++ pfL s).length = 64:=by rw [Z4,l1,l2]
 clear hG hA
 generalize (sha s).take 32 = S1 at *
 generalize pfL s = S2 at *
 generalize scL s = S3 at *
 generalize S3 ++ S2 = R at *
 generalize sha s = S at *
 generalize Qa 64 0 = Z64 at *
 apply Xg
 apply Zt
 rw [Jc (fn:=Q3f) rfl]
 simp only [Q3f,↓Zr,Z0,quiet,cF,↓pF,reduceCtorEq,Qb,Qp,Zi,Zf,Zg,Ze,Zc,Qj,Q3,Qi,Q2,Q6,Q5,↓Zu,↓Zm,↓Z5,↓Z9,↓Z6,↓Z7,cL,Qo,Qn,Qx,Qw,Qu,Ql,Qk,Qv,Qd,Qz,Q0,Qq,Qf,Qh,Qg,Qt,Qs,Qr,Qm,Qe,cJ,hz64,h1,f1,t1,t2,hcv,hf,Jy,Xs,Vm,Xt,X2,ls,lS,lz64,l1,l2,l3,lt32,Xd,Zd]
 rfl
def Ut (s:List Nat):List Nat:=enc (V9 (num 256 (scL s)) Wd)
theorem Qgw {s:List Nat} (ls:s.length = 32) (xs:∀ y ∈ s,y < 256):Vd T 9 [.agg (u8s s).toArray] = some (.agg (u8s (Ut s)).toArray):=by
 have hz:Qa 32 (Value.int .u8 0) = u8s (dig 256 32 0):=rfl
 have lz:(dig 256 32 0).length = 32:=rfl
 have hh:=Qnr ls xs
 obtain ⟨B,hB,rB⟩:=Qqs
 obtain ⟨P,hP,rP⟩:=Mk rB (Qaz s) (Qkw s)
 have hE:=Qdc rP
 have lE:=Dh (V9 (num 256 (scL s)) Wd)
 have l1:=Qaz s
 have l2:=Qf3 s
 have t1:We 32 (u8s (scL s ++ pfL s)) = u8s (scL s):=by rw [Dk,Wt (by omega),Zl (by omega)]
 have l3:(scL s ++ pfL s).length = 64:=by rw [Z4,l1,l2]
 unfold Ut
 generalize enc (V9 (num 256 (scL s)) Wd) = E at *
 generalize scL s ++ pfL s = R at *
 generalize scL s = S3 at *
 generalize dig 256 32 0 = Z at *
 apply Xg
 apply Zt
 rw [Jc (fn:=Q3g) rfl]
 simp only [Q3g,↓Zr,Z0,quiet,cF,↓pF,reduceCtorEq,Qb,Qp,Zi,Zf,Zg,Ze,Zc,Qj,Q3,Qi,Q2,Q6,Q5,↓Zu,↓Zm,↓Z5,↓Z9,↓Z6,↓Z7,cL,Qo,Qn,Qx,Qw,Qu,Ql,Qk,Qv,Qd,Qz,Q0,Qq,Qf,Qh,Qg,Qt,Qs,Qr,Qm,Qe,cJ,hz,hh,hB,hP,hE,t1,Jy,Xs,Vm,Xt,X2,ls,lz,l1,l3,lE,Xd,Zd,Vl]
 rfl
def rL (s m:List Nat):List Nat:=Qcy (pfL s ++ m)
def frL (s m:List Nat):List Nat:=enc (V9 (num 256 (rL s m)) Wd)
def chL (front pub m:List Nat):List Nat:=Qcy (front ++ (pub ++ m))
def bkL (s m:List Nat):List Nat:=mA (chL (frL s m) (Ut s) m) (scL s) (rL s m)
def Mt (s m:List Nat):List Nat:=frL s m ++ bkL s m
theorem M0 (s m:List Nat):(frL s m).length = 32:=Dh _
theorem Qca (s m:List Nat):∀ y ∈ frL s m,y < 256:=Qqj _
theorem G7 (s:List Nat):(Ut s).length = 32:=Dh _
theorem Tc (s:List Nat):∀ y ∈ Ut s,y < 256:=Qqj _
theorem D2 (s m:List Nat):(bkL s m).length = 32:=Q54
theorem Qcg (s m:List Nat):∀ y ∈ bkL s m,y < 256:=mA_lt
theorem Qgm (s m:List Nat):(Mt s m).length = 64:=by rw [Mt,Z4,M0,D2]
theorem Quc {H:List Ob} {a b n m c:Nat} {fa fb:List Nat} {e:Bool} {s:Nat} (ha:H[a]? = some ⟨u8s fa,true,true,true,1⟩) (hb:H[b]? = some ⟨u8s fb,true,true,e,s⟩) (hn:fa.length = n) (hm:fb.length = m) (h0:0 < m) (hs:n + m ≤ 1000) :
  Y4 1 1 H (.slice (some ⟨a,0,none⟩) n n) (.slice (some ⟨b,0,none⟩) m c) = some (.slice (some ⟨H.length,0,none⟩) (n + m) (n + m),H ++ [⟨u8s (fa ++ fb),true,true,false,1⟩],none,[]):=by
 have h4:liveAt H a = some ⟨u8s fa,true,true,true,1⟩:=Yg ha rfl
 have k2:elemsOf H 1 m (.slice (some ⟨b,0,none⟩) m c) = some (u8s fb):=by
  simp [elemsOf,Yg hb rfl,X2,hm]
  exact Zl (by rw [X2,hm]; exact Zj _)
 have h8:elemsOf H 1 n (.slice (some ⟨a,0,none⟩) n n) = some (u8s fa):=by
  simp [elemsOf,h4,X2,hn]
  exact Zl (by rw [X2,hn]; exact Zj _)
 have h1:¬ m = 0:=by omega
 have h2:(n + m) * 1 ≤ 2 ^ 47:=by omega
 have h7:¬ (n + m ≤ n):=by omega
 have k1:Go.Ev.lenV (.slice (some ⟨b,0,none⟩) m c) = some m:=rfl
 simp only [Y4,k1,k2,Q4,if_neg h1,h2,Qoo,Qug,R5,and_self,not_true_eq_false,if_false,if_true,h4,h8,if_neg h7,Ob.grown,← Qgh]
theorem Qrr {H:List Ob} {s:List Nat} {pv:Value} {ps:List (List Nat)} (ls:s.length = 32) (xs:∀ y ∈ s,y < 256) (hp:Args H pv ps) (hn:ps.length ≤ 1000) (hb:ps.flatten.length < 2 ^ 48) :
  ∃ l,V6 T 7 [.agg (u8s s).toArray,pv] H = some (.agg (u8s (Mt s ps.flatten)).toArray,H ++ l,[]):=by
 have hz:Qa 32 (Value.int .u8 0) = u8s (dig 256 32 0):=rfl
 have lz:(dig 256 32 0).length = 32:=rfl
 have hz64:=Ty
 have lz64:(Qa 64 0).length = 64:=Zd
 have hh:=Qnr ls xs
 have l1:=Qaz s
 have l2:=Qf3 s
 have l3:(scL s ++ pfL s).length = 64:=by rw [Z4,l1,l2]
 have x3:∀ y ∈ scL s ++ pfL s,y < 256:=fun y hy => (Jb.1 hy).elim (Qkw s y) (Q5j s y)
 obtain ⟨B,hB,rB⟩:=Qqs
 obtain ⟨P,hP,rP⟩:=Mk rB (Qaz s) (Qkw s)
 have hE:=Qdc rP
 rw [show enc (V9 (num 256 (scL s)) Wd) = Ut s from rfl] at hE
 have lA:=G7 s
 obtain ⟨G1,hG1⟩:∃ X,X = H ++ [(⟨u8s s,true,true,true,1⟩:Ob),⟨u8s (Qa 64 0),true,true,true,1⟩,⟨u8s (scL s ++ pfL s),true,true,true,1⟩,⟨u8s (Ut s),true,true,true,1⟩,⟨[.slice (some ⟨H.length + 2,32,none⟩) 32 32],true,true,true,1⟩]:=⟨_,rfl⟩
 have lG1:G1.length = H.length + 5:=by rw [hG1]; simp
 have gz:G1[H.length + 1]? = some ⟨u8s (Qa 64 0),true,true,true,1⟩:=by rw [hG1,Zh (by omega),Kb]; rfl
 have gh:G1[H.length + 2]? = some ⟨u8s (scL s ++ pfL s),true,true,true,1⟩:=by rw [hG1,Zh (by omega),Kb]; rfl
 have gA:G1[H.length + 3]? = some ⟨u8s (Ut s),true,true,true,1⟩:=by rw [hG1,Zh (by omega),Kb]; rfl
 have ga:G1[H.length + 4]? = some ⟨[.slice (some ⟨H.length + 2,32,none⟩) 32 32],true,true,true,1⟩:=by rw [hG1,Zh (by omega),Kb]; rfl
 have hp1:Args G1 pv ps:=by rw [hG1]; exact hp.app
 have part1:HPart (LtN G1.length) G1 (.slice (some ⟨H.length + 2,32,none⟩) 32 32) (pfL s):=by
  have:=HPart.arr (n:=G1.length) (off:=32) (m:=32) (c:=32) (by omega) gh x3 (by rw [l3]; decide) (by decide)
  rwa [Uj (by omega),Yb (by omega),Za,Zl (by omega)] at this
 obtain ⟨v1,k1,ha1,hA1⟩:=Qap (n:=1) ga rfl (.cons part1 .nil) hp1 (by decide) hn
 obtain ⟨k2,hr⟩:=Rg hA1 (by rw [Wa,Vj,Ud,Kw,Z4,l2]; omega)
 rw [Wa,Vj,Ud,Kw,show Qcy (pfL s ++ ps.flatten) = rL s ps.flatten from rfl] at hr
 have lr:(rL s ps.flatten).length = 32:=T7
 obtain ⟨G2,hG2⟩:∃ X,X = G1 ++ (k1 ++ k2):=⟨_,rfl⟩
 have lG2:G1.length ≤ G2.length:=by rw [hG2]; simp
 obtain ⟨P2,hP2,rP2⟩:=Mk rB lr Qcx
 have hE2:=Qdc rP2
 rw [show enc (V9 (num 256 (rL s ps.flatten)) Wd) = frL s ps.flatten from rfl] at hE2
 have lF:=M0 s ps.flatten
 obtain ⟨G3,hG3⟩:∃ X,X = G2 ++ [(⟨u8s (rL s ps.flatten),true,true,true,1⟩:Ob),⟨u8s (frL s ps.flatten),true,true,true,1⟩,⟨[.slice (some ⟨G2.length + 1,0,none⟩) 32 32,.slice (some ⟨H.length + 3,0,none⟩) 32 32],true,true,true,1⟩]:=⟨_,rfl⟩
 have lG3:G3.length = G2.length + 3:=by rw [hG3]; simp
 have up13:∀ i,i < G1.length → G3[i]? = G1[i]? := fun i hi => by rw [hG3,Qy (by omega),hG2,Qy hi]
 have hr3:G3[G2.length]? = some ⟨u8s (rL s ps.flatten),true,true,true,1⟩:=by rw [hG3,Zh (Zj _),Kv]; rfl
 have hf3:G3[G2.length + 1]? = some ⟨u8s (frL s ps.flatten),true,true,true,1⟩:=by rw [hG3,Zh (by omega),Kb]; rfl
 have harr3:G3[G2.length + 2]? = some ⟨[.slice (some ⟨G2.length + 1,0,none⟩) 32 32,.slice (some ⟨H.length + 3,0,none⟩) 32 32],true,true,true,1⟩:=by rw [hG3,Zh (by omega),Kb]; rfl
 have hp3:Args G3 pv ps:=hp1.ext up13 (by omega)
 have partF:HPart (LtN G3.length) G3 (.slice (some ⟨G2.length + 1,0,none⟩) 32 32) (frL s ps.flatten):=by
  have:=HPart.whole (n:=G3.length) (c:=32) (by omega) hf3 (Qca s _) (by rw [lF]; decide)
  rwa [lF] at this
 have partA:HPart (LtN G3.length) G3 (.slice (some ⟨H.length + 3,0,none⟩) 32 32) (Ut s):=by
  have:=HPart.whole (n:=G3.length) (c:=32) (by omega) ((up13 _ (by omega)).trans gA) (Tc s) (by rw [lA]; decide)
  rwa [lA] at this
 obtain ⟨v3,k3,ha3,hA3⟩:=Qap (n:=2) harr3 rfl (.cons partF (.cons partA .nil)) hp3 (by decide) hn
 obtain ⟨k4,hk⟩:=Rg hA3 (by rw [Wa,Vj,Vj,Ud,Kw,Z4,Z4,lF,lA]; omega)
 rw [Wa,Vj,Vj,Ud,Kw,Jx,show Qcy (frL s ps.flatten ++ (Ut s ++ ps.flatten)) = chL (frL s ps.flatten) (Ut s) ps.flatten from rfl] at hk
 have lk:(chL (frL s ps.flatten) (Ut s) ps.flatten).length = 32:=T7
 obtain ⟨G4,hG4⟩:∃ X,X = G3 ++ (k3 ++ k4):=⟨_,rfl⟩
 have lG4:G3.length ≤ G4.length:=by rw [hG4]; simp
 have up34:∀ i,i < G3.length → G4[i]? = G3[i]? := fun i hi => by rw [hG4,Qy hi]
 obtain ⟨q,hm⟩:=Qs9 lk l1 lr Qcx (Qkw s) Qcx
 have hmv:=R0 hm
 rw [show mA (chL (frL s ps.flatten) (Ut s) ps.flatten) (scL s) (rL s ps.flatten) = bkL s ps.flatten from rfl] at hmv
 have lB:=D2 s ps.flatten
 obtain ⟨G5,hG5⟩:∃ X,X = G4 ++ [(⟨u8s (chL (frL s ps.flatten) (Ut s) ps.flatten),true,true,true,1⟩:Ob),⟨u8s (bkL s ps.flatten),true,true,true,1⟩]:=⟨_,rfl⟩
 have lG5:G5.length = G4.length + 2:=by rw [hG5]; simp
 have hf5:G5[G2.length + 1]? = some ⟨u8s (frL s ps.flatten),true,true,true,1⟩:=by rw [hG5,Qy (by omega),up34 _ (by omega)]; exact hf3
 have hb5:G5[G4.length + 1]? = some ⟨u8s (bkL s ps.flatten),true,true,true,1⟩:=by rw [hG5,Zh (by omega),Kb]; rfl
 have hap:=Quc (c:=32) hf5 hb5 lF lB (by decide) (by decide)
 rw [show frL s ps.flatten ++ bkL s ps.flatten = Mt s ps.flatten from rfl] at hap
 have lS:=Qgm s ps.flatten
 have g4h:∀ l:List Ob,(G4 ++ l)[H.length + 2]? = some ⟨u8s (scL s ++ pfL s),true,true,true,1⟩:=fun l => by rw [Qy (by omega),up34 _ (by omega),up13 _ (by omega)]; exact gh
 have g4r:∀ l:List Ob,(G4 ++ l)[G2.length]? = some ⟨u8s (rL s ps.flatten),true,true,true,1⟩:=fun l => by rw [Qy (by omega),up34 _ (by omega)]; exact hr3
 have g5z:∀ l:List Ob,(G5 ++ l)[H.length + 1]? = some ⟨u8s (Qa 64 0),true,true,true,1⟩:=fun l => by rw [Qy (by omega),hG5,Qy (by omega),up34 _ (by omega),up13 _ (by omega)]; exact gz
 have hfr:∀ i,i < H.length → ((G5 ++ [(⟨u8s (Mt s ps.flatten),true,true,false,1⟩:Ob)]).set (H.length + 1) (⟨u8s (Mt s ps.flatten),true,true,true,1⟩:Ob))[i]? = H[i]? := fun i hi => by
  rw [Jj (by omega),Qy (by omega),hG5,Qy (by omega),up34 _ (by omega),up13 _ (by omega),hG1,Qy hi]
 obtain ⟨l,hl⟩:=Dz (H:=H) (by rw [Xe,Z4]; omega) hfr
 refine ⟨l,?_⟩
 rw [← hl]
 have g6:∀ o:Ob,((G5 ++ [(⟨u8s (Mt s ps.flatten),true,true,false,1⟩:Ob)]).set (H.length + 1) o)[H.length + 1]? = some o:=fun o => Xp (by rw [Z4]; omega)
 have f1:fillL [Value.slice none 0 0] [(0,1,.slice (some ⟨H.length + 2,32,none⟩) 32 32)] = some [.slice (some ⟨H.length + 2,32,none⟩) 32 32]:=rfl
 have f2:fillL [Value.slice none 0 0,.slice none 0 0] [(0,1,.slice (some ⟨G2.length + 1,0,none⟩) 32 32),(1,1,.slice (some ⟨H.length + 3,0,none⟩) 32 32)] = some [.slice (some ⟨G2.length + 1,0,none⟩) 32 32,.slice (some ⟨H.length + 3,0,none⟩) 32 32]:=rfl
 have t1:We 32 (u8s (scL s ++ pfL s)) = u8s (scL s):=by rw [Dk,Wt (by omega),Zl (by omega)]
 have F1:H ++ [(⟨u8s s,true,true,true,1⟩:Ob),⟨u8s (Qa 64 0),true,true,true,1⟩,⟨u8s (scL s ++ pfL s),true,true,true,1⟩,⟨u8s (Ut s),true,true,true,1⟩,⟨[.slice (some ⟨H.length + 2,32,none⟩) 32 32],true,true,true,1⟩] = G1:=hG1.symm
 have F2:G1 ++ (k1 ++ k2) = G2:=hG2.symm
 have F3:G2 ++ [(⟨u8s (rL s ps.flatten),true,true,true,1⟩:Ob),⟨u8s (frL s ps.flatten),true,true,true,1⟩,⟨[.slice (some ⟨G2.length + 1,0,none⟩) 32 32,.slice (some ⟨H.length + 3,0,none⟩) 32 32],true,true,true,1⟩] = G3:=hG3.symm
 have F4:G3 ++ (k3 ++ k4) = G4:=hG4.symm
 have F5:G4 ++ [(⟨u8s (chL (frL s ps.flatten) (Ut s) ps.flatten),true,true,true,1⟩:Ob),⟨u8s (bkL s ps.flatten),true,true,true,1⟩] = G5:=hG5.symm
 have im1:Xo H.length [] [G2.length] = []:=Yi (by simp; omega)
 have im2:Xo H.length [] [G2.length + 1] = []:=Yi (by simp; omega)
 have im3:Xo H.length [] [G4.length] = []:=Yi (by simp; omega)
 have im4:Xo H.length [] [G4.length + 1] = []:=Yi (by simp; omega)
 have ls1:[Value.slice (some ⟨H.length + 2,32,none⟩) 32 32].length = 1:=rfl
 clear hG1 hG2 hG3 hG4 hG5 hl hfr hm hA1 hA3 partF partA part1
 rw [Jx] at hr hk
 generalize Mt s ps.flatten = S at *
 generalize bkL s ps.flatten = Bk at *
 generalize chL (frL s ps.flatten) (Ut s) ps.flatten = Ck at *
 generalize frL s ps.flatten = Fr at *
 generalize rL s ps.flatten = R at *
 generalize Ut s = A at *
 generalize scL s ++ pfL s = Hv at *
 generalize scL s = Sc at *
 generalize dig 256 32 0 = Z at *
 generalize Qa 64 0 = Z64 at *
 rw [Jc (fn:=Q3h) rfl]
 simp only [Q3h,↓Zr,Z0,quiet,cF,↓pF,reduceCtorEq,Qb,Qp,Zi,Zf,Zg,Ze,Zc,Qj,Q3,Qi,Q2,Q6,Q5,↓Zu,↓Zm,↓Z5,↓Z9,↓Z6,↓Z7,cL,Qo,Qn,Qx,Qw,Qu,Ql,Qk,Qv,Qd,Qz,Q0,Qq,Qf,Qh,Qg,Qt,Qs,Qr,Qm,Qe,cJ,hz,hz64,hh,hB,hP,hE,f1,F1,ha1,hr,F2,hP2,hE2,f2,F3,ha3,hk,F4,g4h,g4r,t1,hmv,F5,hap,g5z,g6,im1,im2,im3,im4,Jy,Xs,Vm,Xt,X2,ls,lz,lz64,l1,l3,lA,lr,lF,lk,lB,lS,Xd,Zd,Vl]
end Go.Ev.YtgacigcbglflkaaGreat
set_option linter.unusedSimpArgs false
set_option linter.unusedVariables false
namespace Go.Ev.YtgacigcbglflkaaGreat
open Go Go.Ev
attribute [local congr] W7 Ul W6 Um Wv
set_option maxRecDepth 100000
def Qd3 (pub front back m:List Nat) (c:Int):Prop :=
 ((∀ A,enc A ≠ pub) ∧ c = 60) ∨ ∃ A,enc A = pub ∧
  (((V9 8 A = U2 ∨ ¬ num 256 back < ell) ∧ c = 70) ∨ (V9 8 A ≠ U2 ∧ num 256 back < ell ∧
   (((∀ R,enc R ≠ front) ∧ c = 70) ∨ ∃ R,enc R = front ∧ c = if W3 (V9 (num 256 back) Wd) (V9 (num 256 (chL front pub m)) A.neg) = R then 0 else 70)))
theorem Qux {k l:List Nat} (lk:k.length = 32) (ll:l.length = 32):vEq (some (Qa 32 true)) true (.agg (u8s k).toArray) (.agg (u8s l).toArray) = some (.bool (!(k == l))):=by
 rw [Qcp,Ga lk ll]
 rfl
theorem Qdg {H:List Ob} {pub front back:List Nat} {pv:Value} {ps:List (List Nat)} (lp:pub.length = 32) (xp:∀ y ∈ pub,y < 256) (lf:front.length = 32) (xf:∀ y ∈ front,y < 256) (lb:back.length = 32) (xb:∀ y ∈ back,y < 256) (hp:Args H pv ps) (hn:ps.length ≤ 1000) (hb:ps.flatten.length < 2 ^ 48) :
  ∃ l c,V6 T 11 [.agg (u8s pub).toArray,.agg (u8s (front ++ back)).toArray,pv] H = some (.int .i64 c,H ++ l,[]) ∧ Qd3 pub front back ps.flatten c:=by
 have hz:Qa 32 (Value.int .u8 0) = u8s (dig 256 32 0):=rfl
 have lz:(dig 256 32 0).length = 32:=rfl
 have hz20:∃ O,Qa 20 (Value.int .u64 0) = ns .u64 O ∧ O.length = 20:=⟨Qa 20 0,rfl,rfl⟩
 obtain ⟨O,hz20,lO⟩:=hz20
 have rft:∀ (r:List Nat) (c:Int),rf (Value.tuple #[eV r,.int .i64 c]) = true:=fun r c => Ta (a:=eV r) (b := .int .i64 c) (Vl r) rfl
 have lS:(front ++ back).length = 64:=by rw [Z4,lf,lb]
 have t1:We 32 (u8s (front ++ back)) = u8s front:=by rw [Dk,Wt (by omega),Zl (by omega)]
 have t2:We 32 (Bs 32 (u8s (front ++ back))) = u8s back:=by rw [Qgg,Uj (by omega),Yb (by omega),Za,Dk,Zl (by omega)]
 rcases Qn7 lp xp with ⟨A,a,hA,rA,eA⟩ | ⟨A,hA,lA,hno⟩
 ·have p1:=rA.len
  have ht:=Q4e rA
  obtain ⟨qc,hcn⟩:=Qls lb xb
  have hcv:=R0 hcn
  unfold Rm at hA
  by_cases htiny:V9 8 a = U2
  ·rw [decide_eq_true htiny] at ht
   have hx:∃ l,V6 T 11 [.agg (u8s pub).toArray,.agg (u8s (front ++ back)).toArray,pv] H = some (.int .i64 70,H ++ l,[]):=by
    generalize front ++ back = S at *
    generalize dig 256 32 0 = Z at *
    apply Zt
    rw [Jc (fn:=Qd0) rfl]
    simp only [Qd0,↓Zr,Z0,quiet,cF,↓pF,reduceCtorEq,Qb,Qp,Zi,Zf,Zg,Ze,Zc,Qj,Q3,Qi,Q2,Q6,Q5,↓Zu,↓Zm,↓Z5,↓Z9,↓Z6,↓Z7,cL,Qo,Qn,Qx,Qw,Qu,Ql,Qk,Qv,Qd,Qz,Q0,Qq,Qf,Qh,Qg,Qt,Qs,Qr,Qm,Qe,cJ,hz,hz20,hA,t1,t2,ht, Jy,Xs,Vm,Xt,J2,X2,lp,lf,lb,lS,lz,lO,p1,Xd,Zd,rft,Vl]
    rfl
   obtain ⟨l,hx⟩:=hx
   exact ⟨l,70,hx,.inr ⟨a,eA,.inl ⟨.inl htiny,rfl⟩⟩⟩
  ·rw [decide_eq_false htiny] at ht
   by_cases hc:num 256 back < ell
   ·rw [decide_eq_true hc] at hcv
    rcases Qn7 lf xf with ⟨R,r,hR,rR,eR⟩ | ⟨R,hR,lR,hnR⟩
    ·have p2:=rR.len
     unfold Rm at hR
     obtain ⟨G1,hG1⟩:∃ X,X = H ++ [(⟨u8s pub,true,true,true,1⟩:Ob),⟨u8s (front ++ back),true,true,true,1⟩,⟨ns .u64 A,true,true,true,1⟩,⟨u8s front,true,true,true,1⟩,⟨u8s back,true,true,true,1⟩,⟨ns .u64 R,true,true,true,1⟩,⟨[.slice (some ⟨H.length + 3,0,none⟩) 32 32,.slice (some ⟨H.length,0,none⟩) 32 32],true,true,true,1⟩]:=⟨_,rfl⟩
     have lG1:G1.length = H.length + 7:=by rw [hG1]; simp
     have gp:G1[H.length]? = some ⟨u8s pub,true,true,true,1⟩:=by rw [hG1,Zh (by omega),Kv]; rfl
     have gA:G1[H.length + 2]? = some ⟨ns .u64 A,true,true,true,1⟩:=by rw [hG1,Zh (by omega),Kb]; rfl
     have gf:G1[H.length + 3]? = some ⟨u8s front,true,true,true,1⟩:=by rw [hG1,Zh (by omega),Kb]; rfl
     have gb:G1[H.length + 4]? = some ⟨u8s back,true,true,true,1⟩:=by rw [hG1,Zh (by omega),Kb]; rfl
     have ga:G1[H.length + 6]? = some ⟨[.slice (some ⟨H.length + 3,0,none⟩) 32 32,.slice (some ⟨H.length,0,none⟩) 32 32],true,true,true,1⟩:=by rw [hG1,Zh (by omega),Kb]; rfl
     have hp1:Args G1 pv ps:=by rw [hG1]; exact hp.app
     have partF:HPart (LtN G1.length) G1 (.slice (some ⟨H.length + 3,0,none⟩) 32 32) front:=by
      have:=HPart.whole (n:=G1.length) (c:=32) (by omega) gf xf (by rw [lf]; decide)
      rwa [lf] at this
     have partP:HPart (LtN G1.length) G1 (.slice (some ⟨H.length,0,none⟩) 32 32) pub:=by
      have:=HPart.whole (n:=G1.length) (c:=32) (by omega) gp xp (by rw [lp]; decide)
      rwa [lp] at this
     obtain ⟨v1,k1,ha1,hA1⟩:=Qap (n:=2) ga rfl (.cons partF (.cons partP .nil)) hp1 (by decide) hn
     obtain ⟨k2,hk⟩:=Rg hA1 (by rw [Wa,Vj,Vj,Ud,Kw,Z4,Z4,lf,lp]; omega)
     rw [Wa,Vj,Vj,Ud,Kw,Jx,show Qcy (front ++ (pub ++ ps.flatten)) = chL front pub ps.flatten from rfl,Jx] at hk
     have lk:(chL front pub ps.flatten).length = 32:=T7
     obtain ⟨G2,hG2⟩:∃ X,X = G1 ++ (k1 ++ k2):=⟨_,rfl⟩
     have lG2:G1.length ≤ G2.length:=by rw [hG2]; simp
     have up:∀ i,i < G1.length → ∀ l:List Ob,(G2 ++ l)[i]? = G1[i]? := fun i hi l => by rw [Qy (by omega),hG2,Qy hi]
     obtain ⟨B,hB,rB⟩:=Qqs
     obtain ⟨X,hX,rX⟩:=Mk rB lb xb
     obtain ⟨NA,hNA,rNA⟩:=Q5v rA
     obtain ⟨Y,hY,rY⟩:=Mk rNA lk Qcx
     obtain ⟨S,dS,hS,ES⟩:=Q2u (H:=G2 ++ [(⟨u8s (chL front pub ps.flatten),true,true,true,1⟩:Ob),⟨ns .u64 [X,Y].flatten,true,true,true,1⟩]) (id:=G2.length + 1) (n:=2) (xs:=[X,Y]) rfl (by decide) (.cons rX (.cons rY .nil)) (by rw [Zh (by omega),Kb]; rfl)
     simp only [Y9,Uo,Zb,Jx,Za] at hS
     rw [fold2] at ES
     have hE:=Qdc ES
     have lE:=Dh (W3 (V9 (num 256 back) Wd) (V9 (num 256 (chL front pub ps.flatten)) a.neg))
     have g1:=Q6f rX rY
     have q1:=rX.len
     have q2:=rY.len
     have q3:=ES.len
     have hq:=Qux lE lf
     have hd:(enc (W3 (V9 (num 256 back) Wd) (V9 (num 256 (chL front pub ps.flatten)) a.neg)) == front) = decide (W3 (V9 (num 256 back) Wd) (V9 (num 256 (chL front pub ps.flatten)) a.neg) = r):=by rw [← eR,Qde]
     rw [hd] at hq
     have uA:=fun l => (up _ (by omega) l).trans gA
     have uf:=fun l => (up _ (by omega) l).trans gf
     have ub:=fun l => (up _ (by omega) l).trans gb
     have f2:fillL [Value.slice none 0 0,.slice none 0 0] [(0,1,.slice (some ⟨H.length + 3,0,none⟩) 32 32),(1,1,.slice (some ⟨H.length,0,none⟩) 32 32)] = some [.slice (some ⟨H.length + 3,0,none⟩) 32 32,.slice (some ⟨H.length,0,none⟩) 32 32]:=rfl
     have F1:H ++ [(⟨u8s pub,true,true,true,1⟩:Ob),⟨u8s (front ++ back),true,true,true,1⟩,⟨ns .u64 A,true,true,true,1⟩,⟨u8s front,true,true,true,1⟩,⟨u8s back,true,true,true,1⟩,⟨ns .u64 R,true,true,true,1⟩,⟨[.slice (some ⟨H.length + 3,0,none⟩) 32 32,.slice (some ⟨H.length,0,none⟩) 32 32],true,true,true,1⟩] = G1:=hG1.symm
     have F2:G1 ++ (k1 ++ k2) = G2:=hG2.symm
     have im1:Xo H.length [] [G2.length] = []:=Yi (by simp; omega)
     have hfr:∀ l:List Ob,∃ l',G2 ++ l = H ++ l':=fun l => ⟨_,by rw [hG2,hG1,Jx,Jx]⟩
     by_cases hfin:W3 (V9 (num 256 back) Wd) (V9 (num 256 (chL front pub ps.flatten)) a.neg) = r
     ·rw [decide_eq_true hfin] at hq
      have hx:∃ l,V6 T 11 [.agg (u8s pub).toArray,.agg (u8s (front ++ back)).toArray,pv] H = some (.int .i64 0,G2 ++ l,[]):=by
       clear hG1 hG2 hd up hfr
       generalize front ++ back = SG at *
       generalize dig 256 32 0 = Z at *
       generalize chL front pub ps.flatten = Ck at *
       generalize enc (W3 (V9 (num 256 back) Wd) (V9 (num 256 Ck) a.neg)) = E at *
       apply Zt
       rw [Jc (fn:=Qd0) rfl]
       simp only [Qd0,↓Zr,Z0,quiet,cF,↓pF,reduceCtorEq,Qb,Qp,Zi,Zf,Zg,Ze,Zc,Qj,Q3,Qi,Q2,Q6,Q5,↓Zu,↓Zm,↓Z5,↓Z9,↓Z6,↓Z7,cL,Qo,Qn,Qx,Qw,Qu,Ql,Qk,Qv,Qd,Qz,Q0,Qq,Qf,Qh,Qg,Qt,Qs,Qr,Qm,Qe,cJ,hz,hz20,hA,t1,t2,ht,hcv,hR,f2,F1,ha1,hk,F2,im1,hB,hX,hNA,hY,g1,hS,hE,hq,uA,uf,ub,Jy,Xs,Vm,Xt,J2,X2,lp,lf,lb,lS,lz,lO,lk,lE,p1,p2,q1,q2,q3,Xd,Zd,rft,Vl]
       rfl
      obtain ⟨l,hx⟩:=hx
      obtain ⟨l',hl'⟩:=hfr l
      rw [hl'] at hx
      exact ⟨l',0,hx,.inr ⟨a,eA,.inr ⟨htiny,hc,.inr ⟨r,eR,by rw [if_pos hfin]⟩⟩⟩⟩
     ·rw [decide_eq_false hfin] at hq
      have hx:∃ l,V6 T 11 [.agg (u8s pub).toArray,.agg (u8s (front ++ back)).toArray,pv] H = some (.int .i64 70,G2 ++ l,[]):=by
       clear hG1 hG2 hd up hfr
       generalize front ++ back = SG at *
       generalize dig 256 32 0 = Z at *
       generalize chL front pub ps.flatten = Ck at *
       generalize enc (W3 (V9 (num 256 back) Wd) (V9 (num 256 Ck) a.neg)) = E at *
       apply Zt
       rw [Jc (fn:=Qd0) rfl]
       simp only [Qd0,↓Zr,Z0,quiet,cF,↓pF,reduceCtorEq,Qb,Qp,Zi,Zf,Zg,Ze,Zc,Qj,Q3,Qi,Q2,Q6,Q5,↓Zu,↓Zm,↓Z5,↓Z9,↓Z6,↓Z7,cL,Qo,Qn,Qx,Qw,Qu,Ql,Qk,Qv,Qd,Qz,Q0,Qq,Qf,Qh,Qg,Qt,Qs,Qr,Qm,Qe,cJ,hz,hz20,hA,t1,t2,ht,hcv,hR,f2,F1,ha1,hk,F2,im1,hB,hX,hNA,hY,g1,hS,hE,hq,uA,uf,ub,Jy,Xs,Vm,Xt,J2,X2,lp,lf,lb,lS,lz,lO,lk,lE,p1,p2,q1,q2,q3,Xd,Zd,rft,Vl]
       rfl
      obtain ⟨l,hx⟩:=hx
      obtain ⟨l',hl'⟩:=hfr l
      rw [hl'] at hx
      exact ⟨l',70,hx,.inr ⟨a,eA,.inr ⟨htiny,hc,.inr ⟨r,eR,by rw [if_neg hfin]⟩⟩⟩⟩
    ·unfold Rm at hR
     have hx:∃ l,V6 T 11 [.agg (u8s pub).toArray,.agg (u8s (front ++ back)).toArray,pv] H = some (.int .i64 70,H ++ l,[]):=by
      generalize front ++ back = S at *
      generalize dig 256 32 0 = Z at *
      apply Zt
      rw [Jc (fn:=Qd0) rfl]
      simp only [Qd0,↓Zr,Z0,quiet,cF,↓pF,reduceCtorEq,Qb,Qp,Zi,Zf,Zg,Ze,Zc,Qj,Q3,Qi,Q2,Q6,Q5,↓Zu,↓Zm,↓Z5,↓Z9,↓Z6,↓Z7,cL,Qo,Qn,Qx,Qw,Qu,Ql,Qk,Qv,Qd,Qz,Q0,Qq,Qf,Qh,Qg,Qt,Qs,Qr,Qm,Qe,cJ,hz,hz20,hA,t1,t2,ht,hcv,hR,lR,Jy,Xs,Vm,Xt,J2,X2,lp,lf,lb,lS,lz,lO,p1,Xd,Zd,rft,Vl]
      rfl
     obtain ⟨l,hx⟩:=hx
     exact ⟨l,70,hx,.inr ⟨a,eA,.inr ⟨htiny,hc,.inl ⟨hnR,rfl⟩⟩⟩⟩
   ·rw [decide_eq_false hc] at hcv
    have hx:∃ l,V6 T 11 [.agg (u8s pub).toArray,.agg (u8s (front ++ back)).toArray,pv] H = some (.int .i64 70,H ++ l,[]):=by
     generalize front ++ back = S at *
     generalize dig 256 32 0 = Z at *
     apply Zt
     rw [Jc (fn:=Qd0) rfl]
     simp only [Qd0,↓Zr,Z0,quiet,cF,↓pF,reduceCtorEq,Qb,Qp,Zi,Zf,Zg,Ze,Zc,Qj,Q3,Qi,Q2,Q6,Q5,↓Zu,↓Zm,↓Z5,↓Z9,↓Z6,↓Z7,cL,Qo,Qn,Qx,Qw,Qu,Ql,Qk,Qv,Qd,Qz,Q0,Qq,Qf,Qh,Qg,Qt,Qs,Qr,Qm,Qe,cJ,hz,hz20,hA,t1,t2,ht,hcv,Jy,Xs,Vm,Xt,J2,X2,lp,lf,lb,lS,lz,lO,p1,Xd,Zd,rft,Vl]
     rfl
    obtain ⟨l,hx⟩:=hx
    exact ⟨l,70,hx,.inr ⟨a,eA,.inl ⟨.inr hc,rfl⟩⟩⟩
 ·unfold Rm at hA
  have hx:V6 T 11 [.agg (u8s pub).toArray,.agg (u8s (front ++ back)).toArray,pv] H = some (.int .i64 60,H ++ [⟨u8s pub,true,true,true,1⟩,⟨u8s (front ++ back),true,true,true,1⟩,⟨ns .u64 A,true,true,true,1⟩],[]):=by
   generalize front ++ back = S at *
   generalize dig 256 32 0 = Z at *
   rw [Jc (fn:=Qd0) rfl]
   simp only [Qd0,↓Zr,Z0,quiet,cF,↓pF,reduceCtorEq,Qb,Qp,Zi,Zf,Zg,Ze,Zc,Qj,Q3,Qi,Q2,Q6,Q5,↓Zu,↓Zm,↓Z5,↓Z9,↓Z6,↓Z7,cL,Qo,Qn,Qx,Qw,Qu,Ql,Qk,Qv,Qd,Qz,Q0,Qq,Qf,Qh,Qg,Qt,Qs,Qr,Qm,Qe,cJ,hz,hz20,hA,t1,t2,Jy,Xs,Vm,Xt,J2,X2,lp,lS,lz,lO,lA,Xd,Zd,rft,Vl]
  exact ⟨_,60,hx,.inl ⟨hno,rfl⟩⟩
theorem Qhb {B:Nat} {a:List Nat} {m x:Nat} (h:a[m]? = some x):num B a = num B (a.take m) + x * B ^ m + B ^ (m + 1) * num B (a.drop (m + 1)):=by
 have hm:m < a.length:=(Q8.1 h).1
 conv => lhs; rw [← W1 (m + 1) a,B9,Wn h]
 rw [Js,V8 (by omega)]
theorem Qc7 {B:Nat} {a:List Nat} {m:Nat} (ha:∀ x ∈ a,x < B) (hm:m ≤ a.length):num B (a.take m) < B ^ m:=by
 have:=num_lt (B:=B) (l:=a.take m) fun x hx => ha x (Kp hx)
 rwa [Js,V8 hm] at this
theorem Qw8 {B:Nat} {a b:List Nat} {m x y:Nat} (hl:a.length = b.length) (ha:∀ x ∈ a,x < B) (hb:∀ x ∈ b,x < B) (hx:a[m]? = some x) (hy:b[m]? = some y) (hne:x ≠ y) (hd:a.drop (m + 1) = b.drop (m + 1)):(num B a < num B b) ↔ x < y:=by
 have hm:m < a.length:=(Q8.1 hx).1
 rw [Qhb hx,Qhb hy,hd]
 have h1:=Qc7 (m:=m) ha (by omega)
 have h2:=Qc7 (m:=m) hb (by omega)
 rcases V5 x y with h | h
 ·have:(x + 1) * B ^ m ≤ y * B ^ m:=Vt _ h
  rw [Kt,Wm] at this
  constructor <;> intro <;> omega
 ·have:(y + 1) * B ^ m ≤ x * B ^ m:=Vt _ (by omega)
  rw [Kt,Wm] at this
  constructor <;> intro <;> omega
def Qsm (a b:List Nat) (i:Int) (ex:Env):St:=⟨[(2,.pointer (some ⟨0,0,none⟩)),(3,.pointer (some ⟨1,0,none⟩)),(5,.int .i64 i)] ++ ex,[⟨ns .u64 a,true,true,true,1⟩,⟨ns .u64 b,true,true,true,1⟩],[]⟩
theorem Qgr {a b:List Nat} (ha:Nm a) (hb:Nm b) :
  ∀ m,m ≤ 16 → a.drop m = b.drop m → Jl T 0 (.loop Qhy) (Qsm a b ((m:Int) - 1) []) =
   if a = b then some (.exit 0,Qsm a b (-1) [(7,.bool false)]) else some (.ret,⟨[(4,.bool (decide (num 65536 a < num 65536 b)))],[⟨ns .u64 a,true,true,true,1⟩,⟨ns .u64 b,true,true,true,1⟩],[]⟩)
 | 0,_,hd => by
  rw [Q2,Q2] at hd
  rw [if_pos hd,Yy]
  have e:((0:Int) ≤ -1) = False:=by decide
  simp only [Qsm,Qhy,Z0,quiet,cF,↓pF,reduceCtorEq,Qb,Qp,Zi,Zf,Zg,Ze,Zc,Qj,Q3,Qi,Q2,Q6,Q5,↓Zo,↓Zn,↓Zw,↓Zz,↓Zx,↓Zy,cL,Qo,Qn,Qx,Qw,Qu,Ql,Qk,Qv,Qd,Qz,Q0,Qq,Qf,Qh,Qg,Qt,Qs,Qr,Qm,Qe,Int.zero_sub,e]
 | m + 1,hm,hd => by
  obtain ⟨x,hx⟩:∃ x,a[m]? = some x:=⟨_,Q1 (by rw [ha.len]; omega)⟩
  obtain ⟨y,hy⟩:∃ y,b[m]? = some y:=⟨_,Q1 (by rw [hb.len]; omega)⟩
  have c1:=Yo (k := .u64) hx
  have c2:=Yo (k := .u64) hy
  have l1:=ha.len
  have l2:=hb.len
  have e0:(((m + 1:Nat):Int) - 1) = (m:Int):=by omega
  have e1:((0:Int) ≤ (m:Int)) = True:=eq_true (by omega)
  have e2:((m:Int) < 16) = True:=eq_true (by omega)
  have e3:IntKind.i64.wrap ((m:Int) - 1) = (m:Int) - 1:=K9 (by omega) (by omega)
  rw [e0,Yy]
  by_cases hxy:x = y
  ·subst hxy
   have hd':a.drop m = b.drop m:=by
    rw [Yr,hx,hd,← hy,← Yr]
   have ih:=Qgr ha hb m (by omega) hd'
   rw [← ih]
   simp only [Qsm,Qhy,Z0,quiet,cF,↓pF,reduceCtorEq,Qb,Qp,Zi,Zf,Zg,Ze,Zc,Qj,Q3,Qi,Q2,Q6,Q5,↓Zo,↓Zn,↓Zw,↓Zz,↓Zx,↓Zy,cL,Qo,Qn,Qx,Qw,Qu,Ql,Qk,Qv,Qd,Qz,Q0,Qq,Qf,Qh,Qg,Qt,Qs,Qr,Qm,Qe,e1,e2,e3,c1,c2,l1,l2,J2]
  ·have hab:¬ a = b:=fun h => by subst h; rw [hx] at hy; cases hy; exact hxy rfl
   rw [if_neg hab]
   have hne:((x:Int) != (y:Int)) = true:=by simp; omega
   have hlt:=Qw8 (by rw [l1,l2]) ha.lt hb.lt hx hy hxy hd
   have hdec:decide ((x:Int) < (y:Int)) = decide (num 65536 a < num 65536 b):=by
    by_cases h:x < y
    ·rw [decide_eq_true (hlt.2 h),decide_eq_true (by omega)]
    ·rw [decide_eq_false (fun k => h (hlt.1 k)),decide_eq_false (by omega)]
   simp only [Qsm,Qhy,Z0,quiet,cF,↓pF,reduceCtorEq,Qb,Qp,Zi,Zf,Zg,Ze,Zc,Qj,Q3,Qi,Q2,Q6,Q5,↓Zo,↓Zn,↓Zw,↓Zz,↓Zx,↓Zy,cL,Qo,Qn,Qx,Qw,Qu,Ql,Qk,Qv,Qd,Qz,Q0,Qq,Qf,Qh,Qg,Qt,Qs,Qr,Qm,Qe,e1,e2,e3,c1,c2,hne,hdec,l1,l2,J2]
theorem Qra {a b:List Nat} (ha:Nm a) (hb:Nm b):Vd T 108 [eV a,eV b] = some (.bool (decide (num 65536 a < num 65536 b))):=by
 have hl:=Qgr ha hb 16 (Zj _) (by rw [Yb (by rw [ha.len]; omega),Yb (by rw [hb.len]; omega)])
 have l1:=ha.len
 have l2:=hb.len
 have e0:(((16:Nat):Int) - 1) = 15:=by decide
 rw [e0] at hl
 simp only [Qsm,Zb,Za] at hl
 by_cases hab:a = b
 ·rw [if_pos hab] at hl
  subst hab
  apply Xg
  apply Zt
  rw [Jc (fn:=a93) rfl]
  have hd:decide (num 65536 a < num 65536 a) = false:=by simp
  simp only [a93,↓Zr,Z0,quiet,cF,↓pF,reduceCtorEq,Qb,Qp,Zi,Zf,Zg,Ze,Zc,Qj,Q3,Qi,Q2,Q6,Q5,↓Zu,↓Zm,↓Z5,↓Z9,↓Z6,↓Z7,cL,Qo,Qn,Qx,Qw,Qu,Ql,Qk,Qv,Qd,Qz,Q0,Qq,Qf,Qh,Qg,Qt,Qs,Qr,Qm,Qe,cJ,Jq,hl,hd,Zd,Xd,Jy,Xs,Vm,Xt,J2,l1,l2,Vl]
  rfl
 ·rw [if_neg hab] at hl
  apply Xg
  apply Zt
  rw [Jc (fn:=a93) rfl]
  simp only [a93,↓Zr,Z0,quiet,cF,↓pF,reduceCtorEq,Qb,Qp,Zi,Zf,Zg,Ze,Zc,Qj,Q3,Qi,Q2,Q6,Q5,↓Zu,↓Zm,↓Z5,↓Z9,↓Z6,↓Z7,cL,Qo,Qn,Qx,Qw,Qu,Ql,Qk,Qv,Qd,Qz,Q0,Qq,Qf,Qh,Qg,Qt,Qs,Qr,Qm,Qe,cJ,Jq,hl,Zd,Xd,Jy,Xs,Vm,Xt,J2,l1,l2,Vl]
  rfl
def Qsq (a:List Nat) (ex:Env):St:=⟨[(1,.pointer (some ⟨0,0,none⟩)),(2,.pointer (some ⟨1,0,none⟩))] ++ ex,[⟨ns .u64 a,true,true,true,1⟩,⟨ns .u64 Ys,true,true,true,1⟩],[]⟩
theorem Mf {a:List Nat} (ha:Nm a):Vd T 94 [eV a] = some (eV (dig 65536 16 (num 65536 a % Go.Fp.P))):=by
 have hp:=T3
 have hP:=Hd
 have hPn:=Mg
 have hlt:=ha.num_lt
 obtain ⟨V,hV⟩:∃ V,V = num 65536 a:=⟨_,rfl⟩
 rw [← hV] at hlt ⊢
 have haV:a = dig 65536 16 V:=by rw [hV]; exact ha.eq
 have hdm:=Vr V Go.Fp.P
 have lP:=hP.len
 obtain ⟨st,hl,rfl⟩:=Vi (T:=T) (base:=0) (id:=0) (body:=Qlz)
  (fun i st => st = Qsq (dig 65536 16 (V - i * Go.Fp.P)) [])
  (Q:=fun st => st = Qsq (dig 65536 16 (V % Go.Fp.P)) [(6,.bool false)])
  (V / Go.Fp.P) (s:=Qsq a []) (by rw [Xi,Xw,← haV])
  (fun i st hi hs => by
   subst hs
   have h1:(i + 1) * Go.Fp.P ≤ V:=Un (Vt _ hi) (Nat.div_mul_le_self V Go.Fp.P)
   rw [Kt,Wm] at h1
   have hN:=Nm.dig (V - i * Go.Fp.P)
   have hn:=Gz (v:=V - i * Go.Fp.P) (by omega)
   have g1:=Qra hN hP
   have g2:=Qgq hN hP (by rw [hn,hPn]; omega)
   rw [hn,hPn,decide_eq_false (by omega)] at g1
   rw [hn,hPn,show V - i * Go.Fp.P - Go.Fp.P = V - (i + 1) * Go.Fp.P by rw [Kt,Wm]; omega] at g2
   have l1:=hN.len
   have l2:=Kc 65536 16 (V - (i + 1) * Go.Fp.P)
   generalize dig 65536 16 (V - i * Go.Fp.P) = A at *
   generalize dig 65536 16 (V - (i + 1) * Go.Fp.P) = A' at *
   generalize By = PL at *
   refine ⟨_,?_,rfl⟩
   simp only [Qsq,Qlz,Z0,quiet,cF,↓pF,reduceCtorEq,Qb,Qp,Zi,Zf,Zg,Ze,Zc,Qj,Q3,Qi,Q2,Q6,Q5,↓Zo,↓Zn,↓Zw,↓Zz,↓Zx,↓Zy,cL,Qo,Qn,Qx,Qw,Qu,Ql,Qk,Qv,Qd,Qz,Q0,Qq,Qf,Qh,Qg,Qt,Qs,Qr,Qm,Qe,cJ,hp,g1,g2,Jy,Xs,Vm,Xt,J2,l1,l2,lP,Xd,Vl])
  (fun st hs => by
   subst hs
   have e:V - V / Go.Fp.P * Go.Fp.P = V % Go.Fp.P:=by rw [K7]; omega
   rw [e]
   have hm:=Jk V (by decide:0 < Go.Fp.P)
   have hN:=Nm.dig (V % Go.Fp.P)
   have hn:=Gz (v:=V % Go.Fp.P) (X1 hm (by decide))
   have g1:=Qra hN hP
   rw [hn,hPn,decide_eq_true hm] at g1
   have l1:=hN.len
   generalize dig 65536 16 (V % Go.Fp.P) = A at *
   generalize By = PL at *
   refine ⟨_,?_,rfl⟩
   simp only [Qsq,Qlz,Z0,quiet,cF,↓pF,reduceCtorEq,Qb,Qp,Zi,Zf,Zg,Ze,Zc,Qj,Q3,Qi,Q2,Q6,Q5,↓Zo,↓Zn,↓Zw,↓Zz,↓Zx,↓Zy,cL,Qo,Qn,Qx,Qw,Qu,Ql,Qk,Qv,Qd,Qz,Q0,Qq,Qf,Qh,Qg,Qt,Qs,Qr,Qm,Qe,cJ,hp,g1,Jy,Xs,Vm,Xt,J2,l1,lP,Xd,Vl])
 have hz:=Gf
 have lz:=Bi
 have l1:=ha.len
 have l2:=Kc 65536 16 (V % Go.Fp.P)
 simp only [Qsq,Zb,Za] at hl
 generalize Ys = Z at *
 generalize dig 65536 16 (V % Go.Fp.P) = R at *
 apply Xg
 apply Zt
 rw [Jc (fn:=a85) rfl]
 simp only [a85,↓Zr,Z0,quiet,cF,↓pF,reduceCtorEq,Qb,Qp,Zi,Zf,Zg,Ze,Zc,Qj,Q3,Qi,Q2,Q6,Q5,↓Zu,↓Zm,↓Z5,↓Z9,↓Z6,↓Z7,cL,Qo,Qn,Qx,Qw,Qu,Ql,Qk,Qv,Qd,Qz,Q0,Qq,Qf,Qh,Qg,Qt,Qs,Qr,Qm,Qe,cJ,hz,hl,Zd,Xd,Jy,Xs,Vm,Xt,J2,l1,l2,lz,Vl]
 rfl
theorem Quk:Qa 32 (Value.int .u8 0) = u8s (dig 256 32 0):=rfl
theorem Ql6:fillL (u8s (dig 256 32 0)) [] = some (u8s (dig 256 32 0)):=rfl
theorem w8n {n:Nat} (h:n < 256):IntKind.u8.wrap (n:Int) = n:=by rw [Qp4,Z3 h]
def Qpj (c o:List Nat) (i:Int) (ex:Env):St:=⟨[(1,.pointer (some ⟨0,0,none⟩)),(2,.pointer (some ⟨1,0,none⟩)),(3,.pointer (some ⟨2,0,none⟩)),(4,.int .i64 i)] ++ ex,[⟨ns .u64 c,true,true,true,1⟩,⟨u8s (dig 256 32 0),true,true,true,1⟩,⟨u8s o,true,true,true,1⟩],[]⟩
theorem Qv3 {V i:Nat} (hi:i < 16) :
  Jl T 0 Qid (Qpj (dig 65536 16 V) (pf 32 (dig 256 32 V) (2 * i)) i []) = some (.normal,Qpj (dig 65536 16 V) (pf 32 (dig 256 32 V) (2 * (i + 1))) ((i + 1:Nat):Int) []):=by
 obtain ⟨x,hx0⟩:∃ x,x = V / 65536 ^ i % 65536:=⟨_,rfl⟩
 have hx:(dig 65536 16 V)[i]? = some x:=by rw [Uz hi,hx0]
 have hx':x < 65536:=by rw [hx0]; exact Jk _ (by decide)
 have e:(65536:Nat) ^ i = 256 ^ (2 * i):=by rw [show (65536:Nat) = 256 ^ 2 from rfl,← Yp]
 rw [e] at hx0
 have hd1:(dig 256 32 V)[2 * i]? = some (x % 256):=by rw [Uz (by omega),hx0]; congr 1; omega
 have hd2:(dig 256 32 V)[2 * i + 1]? = some (x / 256):=by
  rw [Uz (by omega),hx0,Kq,← X9]
  congr 1; omega
 have hs1:=Gu (Kc 256 32 V) (by omega:2 * i < 32) hd1
 have hs2:=Gu (Kc 256 32 V) (by omega:2 * i + 1 < 32) hd2
 have hl1:=Db (Kc 256 32 V) (by omega:2 * i ≤ 32)
 have hl2:=Db (Kc 256 32 V) (by omega:2 * i + 1 ≤ 32)
 have hset1:=U3 (pf 32 (dig 256 32 V) (2 * i)) (2 * i) (x % 256)
 have hset2:=U3 (pf 32 (dig 256 32 V) (2 * i + 1)) (2 * i + 1) (x / 256)
 rw [hs1] at hset1
 rw [hs2] at hset2
 rw [show 2 * (i + 1) = 2 * i + 1 + 1 by omega]
 have hxc:=Yo (k := .u64) hx
 have w1:IntKind.i64.wrap ((i:Int) + 1) = ((i + 1:Nat):Int):=Y0 (b:=1) (by omega)
 have w2:IntKind.i64.wrap (2 * (i:Int)) = ((2 * i:Nat):Int):=Qgb (a:=2) (by omega)
 have w3:IntKind.i64.wrap (((2 * i:Nat):Int) + 1) = ((2 * i + 1:Nat):Int):=Y0 (b:=1) (by omega)
 have w4:(x:Int).tmod 256 = ((x % 256:Nat):Int):=rfl
 have w5:IntKind.u8.wrap ((x % 256:Nat):Int) = ((x % 256:Nat):Int):=w8n (by omega)
 have w6:IntKind.u64.wrap ((x:Int).tdiv 256) = ((x / 256:Nat):Int):=D9 (n:=x / 256) (by omega)
 have w7:IntKind.u8.wrap ((x / 256:Nat):Int) = ((x / 256:Nat):Int):=w8n (by omega)
 have e1:((i:Int) < 16) = True:=eq_true (by omega)
 have e2:(((2 * i:Nat):Int) < 32) = True:=eq_true (by omega)
 have e3:(((2 * i + 1:Nat):Int) < 32) = True:=eq_true (by omega)
 have e5:(2 * i ≤ 31) = True:=eq_true (by omega)
 have e6:(2 * i + 1 ≤ 31) = True:=eq_true (by omega)
 have l1:=Kc 65536 16 V
 generalize dig 65536 16 V = C at *
 generalize pf 32 (dig 256 32 V) (2 * i) = o1 at *
 generalize pf 32 (dig 256 32 V) (2 * i + 1) = o2 at *
 generalize pf 32 (dig 256 32 V) (2 * i + 1 + 1) = o3 at *
 generalize hj1:2 * i + 1 = j1 at *
 generalize hj:2 * i = j at *
 simp only [Qpj,Qid,Z0,quiet,cF,↓pF,reduceCtorEq,Qb,Qp,Zi,Zf,Zg,Ze,Zc,Qj,Q3,Qi,Q2,Q6,Q5,↓Zo,↓Zn,↓Zw,↓Zz,↓Zx,↓Zy,cL,Qo,Qn,Qx,Qw,Qu,Ql,Qk,Qv,Qd,Qz,Q0,Qq,Qf,Qh,Qg,Qt,Qs,Qr,Qm,Qe,cJ,hxc,w1,w2,w3,w4,w5,w6,w7,e1,e2,e3,e5,e6,hset1,hset2,J2,X2,hl1,hl2,l1]
theorem Qcz {a:List Nat} (ha:Nm a):Vd T 56 [eV a] = some (.agg (u8s (dig 256 32 (nf a).val)).toArray):=by
 have hc:=Mf ha
 have hv:(nf a).val = num 65536 a % Go.Fp.P:=rfl
 rw [hv]
 generalize num 65536 a % Go.Fp.P = V at *
 have hb:=Wb (T:=T) (base:=0) (id:=0) (body:=Qid) (fun i => Qpj (dig 65536 16 V) (pf 32 (dig 256 32 V) (2 * i)) i []) (s':=Qpj (dig 65536 16 V) (dig 256 32 V) 16 [(9,.bool false)]) 16
  (fun i hi => Qv3 hi) (by
   rw [show 2 * 16 = 32 from rfl,De (Kc _ _ _)]
   simp only [Qpj,Qid,Z0,quiet,cF,↓pF,reduceCtorEq,Qb,Qp,Zi,Zf,Zg,Ze,Zc,Qj,Q3,Qi,Q2,Q6,Q5,↓Zo,↓Zn,↓Zw,↓Zz,↓Zx,↓Zy,cL,Qo,Qn,Qx,Qw,Qu,Ql,Qk,Qv,Qd,Qz,Q0,Qq,Qf,Qh,Qg,Qt,Qs,Qr,Qm,Qe])
 rw [To,Dd,show Qa 32 0 = dig 256 32 0 from rfl] at hb
 simp only [Qpj,Zb,Za,Xu] at hb
 have hz:=Quk
 have hf:=Ql6
 have lz:=Kc 256 32 0
 have l1:=ha.len
 have l2:=Kc 65536 16 V
 have l3:=Kc 256 32 V
 generalize dig 65536 16 V = C at *
 generalize dig 256 32 V = R at *
 generalize dig 256 32 0 = Z at *
 apply Xg
 apply Zt
 rw [Jc (fn:=a66) rfl]
 simp only [a66,↓Zr,Z0,quiet,cF,↓pF,reduceCtorEq,Qb,Qp,Zi,Zf,Zg,Ze,Zc,Qj,Q3,Qi,Q2,Q6,Q5,↓Zu,↓Zm,↓Z5,↓Z9,↓Z6,↓Z7,cL,Qo,Qn,Qx,Qw,Qu,Ql,Qk,Qv,Qd,Qz,Q0,Qq,Qf,Qh,Qg,Qt,Qs,Qr,Qm,Qe,cJ,hz,hf,hc,hb,Zd,Xd,Jy,Xs,Vm,Xt,J2,X2,l1,l2,l3,lz,Vl]
 rfl
def fH (d:List Nat) (l:List Ob):List Ob:=⟨ns .u64 d,true,true,true,1⟩ :: ⟨ns .u64 Ys,true,true,true,1⟩ :: l
def f2I (d:List Nat) (l:List Ob) (c:Nat) (i:Int) (ex:Env):St:=⟨[(1,.pointer (some ⟨0,0,none⟩)),(2,.pointer (some ⟨1,0,none⟩)),(3,.int .u64 c),(4,.int .i64 i)] ++ ex,fH d l,[]⟩
theorem Qyb {d:List Nat} {l:List Ob} (hd:d.length = 32) (hM:∀ x ∈ d,x < 2 ^ 44) (hN:num 65536 d < 65536 ^ 32) :
  ∃ o c,Jl T 0 (.block 2 (.loop Qh4)) (f2I d l 0 0 []) = some (.normal,f2I o l c 32 [(11,.bool false)]) ∧ o.length = 32 ∧ (∀ x ∈ o,x < 65536) ∧ num 65536 o = num 65536 d:=by
 obtain ⟨st,hl,o,c,rfl,h1,h2,h3⟩:=Vi (T:=T) (base:=0) (id:=2) (body:=Qh4)
  (fun i st => ∃ (o:List Nat) (c:Nat),st = f2I (o ++ d.drop i) l c i [] ∧ o.length = i ∧ (∀ x ∈ o,x < 65536) ∧ c < 2 ^ 30 ∧ num 65536 (d.take i) = num 65536 o + 65536 ^ i * c)
  (Q:=fun st => ∃ (o:List Nat) (c:Nat),st = f2I o l c 32 [(11,.bool false)] ∧ o.length = 32 ∧ (∀ x ∈ o,x < 65536) ∧ num 65536 d = num 65536 o + 65536 ^ 32 * c)
  32 (s:=f2I d l 0 0 []) ⟨[],0,by rw [Q2]; rfl,rfl,by simp,by omega,by simp [num]⟩
  (fun i st hi hs => by
   obtain ⟨o,c,rfl,h1,h2,h3,h4⟩:=hs
   obtain ⟨x,hx⟩:∃ x,d[i]? = some x:=⟨_,Q1 (by omega)⟩
   have hx':=hM x (Zk hx)
   have hxo:(o ++ d.drop i)[i]? = some x:=by
    rw [Zh (by omega),h1,Kv,Vx]; exact hx
   have hstep:(o ++ d.drop i).set i ((x + c) % 65536) = (o ++ [(x + c) % 65536]) ++ d.drop (i + 1):=by
    rw [Uk _ _ (by omega),h1,Kv,Yr (i:=i),hx]
    simp
   have hset:=Ux .u64 (o ++ d.drop i) i ((x + c) % 65536)
   rw [hstep] at hset
   have hlen:(o ++ d.drop i).length = 32:=by simp; omega
   have hxc:=Yo (k := .u64) hxo
   have w1:IntKind.i64.wrap ((i:Int) + 1) = ((i + 1:Nat):Int):=Y0 (b:=1) (by omega)
   have w2:IntKind.u64.wrap ((x:Int) + (c:Int)) = ((x + c:Nat):Int):=Dy (by omega)
   have w3:((x + c:Nat):Int).tmod 65536 = (((x + c) % 65536:Nat):Int):=rfl
   have w4:IntKind.u64.wrap (((x + c:Nat):Int).tdiv 65536) = (((x + c) / 65536:Nat):Int):=D9 (n:=(x + c) / 65536) (by omega)
   have e1:((i:Int) < 32) = True:=eq_true (by omega)
   have e4:(i ≤ 31) = True:=eq_true (by omega)
   refine ⟨f2I ((o ++ [(x + c) % 65536]) ++ d.drop (i + 1)) l ((x + c) / 65536) ((i + 1:Nat):Int) [],?_,o ++ [(x + c) % 65536],(x + c) / 65536,rfl,by simp [h1],?_,by omega,?_⟩
   ·generalize (o ++ [(x + c) % 65536]) ++ d.drop (i + 1) = O' at *
    generalize o ++ d.drop i = O at *
    generalize (x + c) / 65536 = q at *
    generalize (x + c) % 65536 = m at *
    generalize x + c = v at *
    generalize i + 1 = i1 at *
    simp only [f2I,fH,Qh4,Z0,quiet,cF,↓pF,reduceCtorEq,Qb,Qp,Zi,Zf,Zg,Ze,Zc,Qj,Q3,Qi,Q2,Q6,Q5,↓Zo,↓Zn,↓Zw,↓Zz,↓Zx,↓Zy,cL,Qo,Qn,Qx,Qw,Qu,Ql,Qk,Qv,Qd,Qz,Q0,Qq,Qf,Qh,Qg,Qt,Qs,Qr,Qm,Qe,cJ,hxc,w1,w2,w3,w4,e1,e4,hset,J2,hlen]
   ·intro y hy
    rcases Jb.1 hy with hy | hy
    ·exact h2 y hy
    ·rw [Bu.1 hy]; exact Jk _ (by decide)
   ·rw [Wn hx,Qnh,h1,h4,Kq]
    have h5:x + c = 65536 * ((x + c) / 65536) + (x + c) % 65536:=(Vr _ _).symm
    generalize (x + c) / 65536 = q at *
    generalize (x + c) % 65536 = m at *
    generalize (65536:Nat) ^ i = p at *
    have h6:=congrArg (fun t => t * p) h5
    simp only [Kt] at h6
    rw [Vo p,K7 p c,K7 p m,K7 p (65536 * q)]
    omega)
  (fun st hs => by
   obtain ⟨o,c,rfl,h1,h2,h3,h4⟩:=hs
   rw [Zl (by omega)] at h4
   refine ⟨_,?_,o,c,rfl,h1,h2,h4⟩
   rw [Yb (by omega),Kw]
   simp only [f2I,fH,Qh4,Z0,quiet,cF,↓pF,reduceCtorEq,Qb,Qp,Zi,Zf,Zg,Ze,Zc,Qj,Q3,Qi,Q2,Q6,Q5,↓Zo,↓Zn,↓Zw,↓Zz,↓Zx,↓Zy,cL,Qo,Qn,Qx,Qw,Qu,Ql,Qk,Qv,Qd,Qz,Q0,Qq,Qf,Qh,Qg,Qt,Qs,Qr,Qm,Qe])
 refine ⟨o,c,hl,h1,h2,?_⟩
 rcases Yd c with h | h
 ·rw [h3,h]; omega
 ·exfalso
  have:=Ug (65536 ^ 32) h
  generalize (65536:Nat) ^ 32 = M at *
  omega
def Dx (l:List Nat):Bool := !(l.all (· == 0))
theorem Qqv (l:List Nat) (x:Nat):Dx (l ++ [x]) = (Dx l || !(x == 0)):=by simp [Dx]
def f1I (d o:List Nat) (l:List Ob) (b:Bool) (i:Int) (ex:Env):St:=⟨[(1,.pointer (some ⟨0,0,none⟩)),(2,.pointer (some ⟨1,0,none⟩)),(6,.pointer (some ⟨l.length + 1 + 1,0,none⟩)),(7,.bool b),(8,.int .i64 i)] ++ ex,fH d (l ++ [⟨ns .u64 o,true,true,true,1⟩]),[]⟩
theorem Q1v {d:List Nat} {l:List Ob} {i:Nat} {b:Bool} (hd:d.length = 32) (hi:i < 16) (hb:b = Dx ((d.drop 16).take i)) :
  Jl T 0 Qch (f1I d (pf 16 (d.take 16) i) l b i []) = some (.normal,f1I d (pf 16 (d.take 16) (i + 1)) l (Dx ((d.drop 16).take (i + 1))) ((i + 1:Nat):Int) []):=by
 obtain ⟨x,hx⟩:∃ x,d[i]? = some x:=⟨_,Q1 (by omega)⟩
 obtain ⟨y,hy⟩:∃ y,d[i + 16]? = some y:=⟨_,Q1 (by omega)⟩
 have hx2:(d.take 16)[i]? = some x:=by rw [Ks,if_pos hi]; exact hx
 have hy2:(d.drop 16)[i]? = some y:=by rw [Vx,Gb]; exact hy
 have hL:(d.take 16).length = 16:=by simp; omega
 have hstep:=Gu hL hi hx2
 have hlen:=Db hL (Wh hi)
 have hset:=Ux .u64 (pf 16 (d.take 16) i) i x
 rw [hstep] at hset
 have hxc:=Yo (k := .u64) hx
 have hyc:=Yo (k := .u64) hy
 have hnz:Dx ((d.drop 16).take (i + 1)) = (b || !(y == 0)):=by
  rw [Yf,hy2,hb]; exact Qqv _ _
 rw [hnz]
 have w1:IntKind.i64.wrap ((i:Int) + 1) = ((i + 1:Nat):Int):=Y0 (b:=1) (by omega)
 have w2:IntKind.i64.wrap ((i:Int) + 16) = ((i + 16:Nat):Int):=Y0 (b:=16) (by omega)
 have e1:((i:Int) < 16) = True:=eq_true (by omega)
 have e2:((i:Int) < 32) = True:=eq_true (by omega)
 have e3:(((i + 16:Nat):Int) < 32) = True:=eq_true (by omega)
 have e4:(i ≤ 15) = True:=eq_true (by omega)
 have e5:((y:Int) != 0) = !(y == 0):=by
  by_cases h:y = 0
  ·subst h; rfl
  ·have h':¬ (y:Int) = 0:=by omega
   rw [beq_eq_false_iff_ne.2 h,bne_iff_ne.2 h']; rfl
 generalize pf 16 (d.take 16) i = o1 at *
 generalize pf 16 (d.take 16) (i + 1) = o2 at *
 generalize i + 16 = j at *
 generalize (!(y == 0)) = nz at *
 clear hb hnz
 cases b with
 | false => simp only [f1I,fH,Qch,Z0,quiet,cF,↓pF,reduceCtorEq,Qb,Qp,Zi,Zf,Zg,Ze,Zc,Qj,Q3,Qi,Q2,Q6,Q5,↓Zu,↓Zm,↓Z5,↓Z9,↓Z6,↓Z7,cL,Qo,Qn,Qx,Qw,Qu,Ql,Qk,Qv,Qd,Qz,Q0,Qq,Qf,Qh,Qg,Qt,Qs,Qr,Qm,Qe,cJ,hxc,hyc,w1,w2,e1,e2,e3,e4,e5,hset,J2,hlen,hd,Bool.false_or]
 | true => simp only [f1I,fH,Qch,Z0,quiet,cF,↓pF,reduceCtorEq,Qb,Qp,Zi,Zf,Zg,Ze,Zc,Qj,Q3,Qi,Q2,Q6,Q5,↓Zu,↓Zm,↓Z5,↓Z9,↓Z6,↓Z7,cL,Qo,Qn,Qx,Qw,Qu,Ql,Qk,Qv,Qd,Qz,Q0,Qq,Qf,Qh,Qg,Qt,Qs,Qr,Qm,Qe,cJ,hxc,hyc,w1,w2,e1,e2,e3,e4,e5,hset,J2,hlen,hd,Bool.true_or]
theorem Qyc {d:List Nat} {l:List Ob} (hd:d.length = 32) :
  Jl T 0 (.block 4 (.loop Qch)) (f1I d Ys l false 0 []) = some (.normal,f1I d (d.take 16) l (Dx (d.drop 16)) 16 [(27,.bool false)]):=by
 have hL:(d.take 16).length = 16:=by simp; omega
 have hb:=Wb (T:=T) (base:=0) (id:=4) (body:=Qch) (fun i => f1I d (pf 16 (d.take 16) i) l (Dx ((d.drop 16).take i)) i []) (s':=f1I d (d.take 16) l (Dx (d.drop 16)) 16 [(27,.bool false)]) 16
  (fun i hi => Q1v hd hi rfl) (by
   rw [De hL,Zl (l:=d.drop 16) (by simp; omega)]
   simp only [f1I,Qch,Z0,quiet,cF,↓pF,reduceCtorEq,Qb,Qp,Zi,Zf,Zg,Ze,Zc,Qj,Q3,Qi,Q2,Q6,Q5,↓Zo,↓Zn,↓Zw,↓Zz,↓Zx,↓Zy,cL,Qo,Qn,Qx,Qw,Qu,Ql,Qk,Qv,Qd,Qz,Q0,Qq,Qf,Qh,Qg,Qt,Qs,Qr,Qm,Qe])
 rw [Dd] at hb
 exact hb
def f0I (d:List Nat) (l:List Ob) (i:Int) (ex:Env):St:=⟨[(1,.pointer (some ⟨0,0,none⟩)),(2,.pointer (some ⟨1,0,none⟩)),(9,.int .i64 i)] ++ ex,fH d l,[]⟩
theorem Qyd {d:List Nat} {l:List Ob} (hd:d.length = 32) (hM:∀ x ∈ d,x < 65536) :
  ∃ o,Jl T 0 (.block 6 (.loop Qh5)) (f0I d l 0 []) = some (.normal,f0I o l 16 [(47,.bool false)]) ∧ o.length = 32 ∧ (∀ x ∈ o,x < 2 ^ 44) ∧ num 65536 o + 65536 ^ 16 * num 65536 (d.drop 16) = num 65536 d + 38 * num 65536 (d.drop 16):=by
 obtain ⟨st,hl,o,rfl,h1,h2,h3⟩:=Vi (T:=T) (base:=0) (id:=6) (body:=Qh5)
  (fun i st => ∃ o:List Nat,st = f0I o l i [] ∧ o.length = 32 ∧ (∀ x ∈ o,x < 2 ^ 44) ∧ (∀ j,i ≤ j → j < 16 → o[j]? = d[j]? ∧ o[j + 16]? = d[j + 16]?) ∧ num 65536 o + 65536 ^ 16 * num 65536 ((d.drop 16).take i) = num 65536 d + 38 * num 65536 ((d.drop 16).take i))
  (Q:=fun st => ∃ o:List Nat,st = f0I o l 16 [(47,.bool false)] ∧ o.length = 32 ∧ (∀ x ∈ o,x < 2 ^ 44) ∧ num 65536 o + 65536 ^ 16 * num 65536 (d.drop 16) = num 65536 d + 38 * num 65536 (d.drop 16))
  16 (s:=f0I d l 0 []) ⟨d,rfl,hd,fun x hx => Uc (hM x hx) (by decide),fun _ _ _ => ⟨rfl,rfl⟩,by simp [num]⟩
  (fun i st hi hs => by
   obtain ⟨o,rfl,h1,h2,h3,h4⟩:=hs
   obtain ⟨x,hx⟩:∃ x,d[i]? = some x:=⟨_,Q1 (by omega)⟩
   obtain ⟨y,hy⟩:∃ y,d[i + 16]? = some y:=⟨_,Q1 (by omega)⟩
   have hx':=hM x (Zk hx)
   have hy':=hM y (Zk hy)
   obtain ⟨ox,oy⟩:=h3 i (Zj _) hi
   rw [hx] at ox
   rw [hy] at oy
   have oy':(o.set i (x + 38 * y))[i + 16]? = some y:=by rw [Jj (by omega)]; exact oy
   have n1:=Gj (B:=65536) (x + 38 * y) ox
   have n2:=Gj (B:=65536) 0 oy'
   have s1:=Ux .u64 o i (x + 38 * y)
   have s2:(ns .u64 (o.set i (x + 38 * y))).set (i + 16) (.int .u64 0) = ns .u64 ((o.set i (x + 38 * y)).set (i + 16) 0):=Ux .u64 (o.set i (x + 38 * y)) (i + 16) 0
   have l2:(o.set i (x + 38 * y)).length = 32:=by rw [Xe]; exact h1
   have hxc:=Yo (k := .u64) ox
   have hyc:=Yo (k := .u64) oy
   have hy2:(d.drop 16)[i]? = some y:=by rw [Vx,Gb]; exact hy
   have w1:IntKind.i64.wrap ((i:Int) + 1) = ((i + 1:Nat):Int):=Y0 (b:=1) (by omega)
   have w2:IntKind.i64.wrap ((i:Int) + 16) = ((i + 16:Nat):Int):=Y0 (b:=16) (by omega)
   have w3:IntKind.u64.wrap (38 * (y:Int)) = ((38 * y:Nat):Int):=R8 (a:=38) (by omega)
   have w4:IntKind.u64.wrap ((x:Int) + ((38 * y:Nat):Int)) = ((x + 38 * y:Nat):Int):=Dy (by omega)
   have e1:((i:Int) < 16) = True:=eq_true (by omega)
   have e2:((i:Int) < 32) = True:=eq_true (by omega)
   have e3:(((i + 16:Nat):Int) < 32) = True:=eq_true (by omega)
   have e4:(i ≤ 31) = True:=eq_true (by omega)
   have e5:(i + 16 ≤ 31) = True:=eq_true (by omega)
   refine ⟨f0I ((o.set i (x + 38 * y)).set (i + 16) 0) l ((i + 1:Nat):Int) [],?_,_,rfl,by rw [Xe]; exact l2,?_,?_,?_⟩
   ·generalize (o.set i (x + 38 * y)).set (i + 16) 0 = O2 at *
    generalize o.set i (x + 38 * y) = O1 at *
    generalize hj:i + 16 = j at *
    generalize x + 38 * y = v at *
    generalize 38 * y = u at *
    generalize i + 1 = i1 at *
    simp only [f0I,fH,Qh5,Z0,quiet,cF,↓pF,reduceCtorEq,Qb,Qp,Zi,Zf,Zg,Ze,Zc,Qj,Q3,Qi,Q2,Q6,Q5,↓Zo,↓Zn,↓Zw,↓Zz,↓Zx,↓Zy,cL,Qo,Qn,Qx,Qw,Qu,Ql,Qk,Qv,Qd,Qz,Q0,Qq,Qf,Qh,Qg,Qt,Qs,Qr,Qm,Qe,cJ,hxc,hyc,w1,w2,w3,w4,e1,e2,e3,e4,e5,s1,s2,J2,h1,l2]
   ·exact Da (Da h2 (by omega)) (by decide)
   ·intro j hj hj'
    obtain ⟨g1,g2⟩:=h3 j (by omega) hj'
    rw [Jj (by omega),Jj (by omega),Jj (by omega),Jj (by omega)]
    exact ⟨g1,g2⟩
   ·rw [Wn hy2]
    rw [Wl] at n2
    generalize num 65536 ((o.set i (x + 38 * y)).set (i + 16) 0) = N2 at *
    generalize num 65536 (o.set i (x + 38 * y)) = N1 at *
    generalize num 65536 (We i (Bs 16 d)) = S at *
    generalize (65536:Nat) ^ i = p at *
    have e16:(65536:Nat) ^ 16 = 115792089237316195423570985008687907853269984665640564039457584007913129639936:=by decide
    rw [e16] at *
    rw [Kt,Vo] at n1
    rw [← Vo] at n2
    rw [Hg,Hg]
    generalize y * p = yp at *
    omega)
  (fun st hs => by
   obtain ⟨o,rfl,h1,h2,h3,h4⟩:=hs
   rw [Zl (by simp; omega)] at h4
   refine ⟨_,?_,o,rfl,h1,h2,h4⟩
   simp only [f0I,fH,Qh5,Z0,quiet,cF,↓pF,reduceCtorEq,Qb,Qp,Zi,Zf,Zg,Ze,Zc,Qj,Q3,Qi,Q2,Q6,Q5,↓Zo,↓Zn,↓Zw,↓Zz,↓Zx,↓Zy,cL,Qo,Qn,Qx,Qw,Qu,Ql,Qk,Qv,Qd,Qz,Q0,Qq,Qf,Qh,Qg,Qt,Qs,Qr,Qm,Qe])
 exact ⟨o,hl,h1,h2,h3⟩
def f3I (d:List Nat) (l:List Ob) (ex:Env):St:=⟨[(1,.pointer (some ⟨0,0,none⟩)),(2,.pointer (some ⟨1,0,none⟩))] ++ ex,fH d l,[]⟩
theorem Qdm:∀ {l:List Nat},Dx l = false → num 65536 l = 0
 | [],_ => rfl
 | x :: l,h => by
  have h':((x :: l).all (· == 0)) = true:=by simpa [Dx] using h
  rw [J4,Vw] at h'
  have hx:x = 0:=by simpa using h'.1
  have ih:=Qdm (l:=l) (by unfold Dx; rw [h'.2]; rfl)
  rw [num,ih,hx]
theorem Qw0:∀ {l:List Nat},Dx l = true → 0 < num 65536 l
 | [],h => by cases h
 | x :: l,h => by
  rw [num]
  by_cases hx:x = 0
  ·have:=Qw0 (l:=l) (by
    subst hx
    simpa [Dx] using h)
   omega
  ·omega
theorem Qx4 {V W H:Nat} (h:W + 65536 ^ 16 * H = V + 38 * H):Go.Fp.fp W = Go.Fp.fp V:=by
 have h1:=congrArg Go.Fp.fp h
 rw [Go.Fp.Gg,Go.Fp.Gg,Go.Fp.U1,Go.Fp.U1] at h1
 have h2:Go.Fp.fp (65536 ^ 16) = Go.Fp.fp 38:=by decide +kernel
 rw [h2] at h1
 generalize Go.Fp.fp W = a at *
 generalize Go.Fp.fp V = b at *
 generalize Go.Fp.fp 38 * Go.Fp.fp H = c at *
 clear h h2
 grobner
theorem Qpg:∀ (v:Nat) (d:List Nat) (l:List Ob) (ex:Env),num 65536 d = v → d.length = 32 → (∀ x ∈ d,x < 2 ^ 44) → v < 65536 ^ 32 →
  ∃ r d' l',Jl T 0 (.loop Qly) (f3I d l ex) = some (.ret,⟨[(2,.pointer (some ⟨1,0,none⟩))],⟨ns .u64 d',true,true,true,1⟩ :: ⟨ns .u64 r,true,true,true,1⟩ :: l',[]⟩) ∧ Nm r ∧ nf r = Go.Fp.fp v:=by
 intro v
 induction v using Qd5 with
 | ind v ih =>
  intro d l ex hv hd hM hN
  obtain ⟨o,c,h2,lo,xo,no⟩:=Qyb (l:=l) hd hM (by rw [hv]; exact hN)
  have h1:=Qyc (d:=o) (l:=l) lo
  simp only [f2I,f1I,fH,Zb,Za,Xu] at h2 h1
  have hz:=Gf
  have lz:=Bi
  have hf:=Rs
  by_cases hnz:Dx (o.drop 16) = true
  ·rw [hnz] at h1
   obtain ⟨o2,h0,lo2,xo2,no2⟩:=Qyd (l:=l ++ [⟨ns .u64 (o.take 16),true,true,true,1⟩]) lo xo
   simp only [f0I,fH,Zb,Za,Xu] at h0
   have hpos:=Qw0 hnz
   rw [no,hv] at no2
   have hlt:num 65536 o2 < v:=by
    have e16:(65536:Nat) ^ 16 = 115792089237316195423570985008687907853269984665640564039457584007913129639936:=by decide
    rw [e16] at no2
    omega
   obtain ⟨r,d',l',hr,hr1,hr2⟩   := ih _ hlt o2 (l ++ [⟨ns .u64 (o.take 16),true,true,true,1⟩]) [(9,.int .i64 16),(47,.bool false)] rfl lo2 xo2 (Uc hlt hN)
   refine ⟨r,d',l',?_,hr1,by rw [hr2]; exact Qx4 no2⟩
   rw [← hr,Yy]
   simp only [f3I,fH,Zb,Za]
   generalize Ys = Z at *
   simp only [f3I,fH,Qly,Z0,quiet,cF,↓pF,reduceCtorEq,Qb,Qp,Zi,Zf,Zg,Ze,Zc,Qj,Q3,Qi,Q2,Q6,Q5,↓Zu,↓Zm,↓Z5,↓Z9,↓Z6,↓Z7,cL,Qo,Qn,Qx,Qw,Qu,Ql,Qk,Qv,Qd,Qz,Q0,Qq,Qf,Qh,Qg,Qt,Qs,Qr,Qm,Qe,cJ,hz,hf,h2,h1,h0,Zd,J2,lz,Xd,Jy,Xs,Vm,Xt,Vl]
  ·have hnz':Dx (o.drop 16) = false:=by simpa using hnz
   rw [hnz'] at h1
   have hn0:=Qdm hnz'
   have hnum:num 65536 (o.take 16) = v:=by
    have:=B9 65536 (o.take 16) (o.drop 16)
    rw [W1,hn0,no,hv] at this
    omega
   have lt:(o.take 16).length = 16:=by simp; omega
   refine ⟨o.take 16,o,l ++ [⟨ns .u64 (o.take 16),true,true,true,1⟩],?_,⟨lt,fun x hx => xo x (Kp hx)⟩,by unfold nf; rw [hnum]⟩
   rw [Yy]
   simp only [f3I,fH,Zb,Za]
   generalize We 16 o = R at *
   generalize Ys = Z at *
   simp only [f3I,fH,Qly,Z0,quiet,cF,↓pF,reduceCtorEq,Qb,Qp,Zi,Zf,Zg,Ze,Zc,Qj,Q3,Qi,Q2,Q6,Q5,↓Zu,↓Zm,↓Z5,↓Z9,↓Z6,↓Z7,cL,Qo,Qn,Qx,Qw,Qu,Ql,Qk,Qv,Qd,Qz,Q0,Qq,Qf,Qh,Qg,Qt,Qs,Qr,Qm,Qe,cJ,hz,hf,h2,h1,Zd,J2,lz,lt,Xd,Jy,Xs,Vm,Xt,Vl]
theorem Qrb {d:List Nat} (hd:d.length = 32) (hM:∀ x ∈ d,x < 2 ^ 44) (hN:num 65536 d < 65536 ^ 32):∃ r,Vd T 95 [eV d] = some (eV r) ∧ Nm r ∧ nf r = Go.Fp.fp (num 65536 d):=by
 obtain ⟨r,d',l',hr,h1,h2⟩:=Qpg _ d [] [] rfl hd hM hN
 refine ⟨r,?_,h1,h2⟩
 simp only [f3I,fH,Zb,Za] at hr
 have hz:=Gf
 have lz:=Bi
 have l1:=h1.len
 generalize Ys = Z at *
 apply Xg
 apply Zt
 rw [Jc (fn:=a86) rfl]
 simp only [a86,↓Zr,Z0,quiet,cF,↓pF,reduceCtorEq,Qb,Qp,Zi,Zf,Zg,Ze,Zc,Qj,Q3,Qi,Q2,Q6,Q5,↓Zu,↓Zm,↓Z5,↓Z9,↓Z6,↓Z7,cL,Qo,Qn,Qx,Qw,Qu,Ql,Qk,Qv,Qd,Qz,Q0,Qq,Qf,Qh,Qg,Qt,Qs,Qr,Qm,Qe,cJ,Jq,hz,hr,Zd,Xd,Jy,Xs,Vm,Xt,J2,hd,l1,lz,Vl]
 rfl
theorem Qkp {n:Nat} {p q:List Nat} (hp:p.length = n) (hq:q.length = n):vEq (some (Qa n true)) false (eV p) (eV q) = some (.bool (p == q)):=by
 unfold eV
 rw [Qq2,Qfo hp hq]
 rfl
theorem Qzf {n:Nat} {p q:List Nat} (hp:p.length = n) (hq:q.length = n):vEq (some (Qa n true)) true (eV p) (eV q) = some (.bool (!(p == q))):=by
 unfold eV
 rw [Qcp,Qfo hp hq]
 rfl
theorem Qqh (x y:Go.Fp.Fe):x + -y = x - y:=by grobner
theorem Qn2 (x:Go.Fp.Fe):0 - x = -x:=by grobner
def D7:List Nat:=Qa 32 0
theorem Qq1:Qa 32 (Value.int .u64 0) = ns .u64 D7:=rfl
theorem Ql5:D7.length = 32:=rfl
def abI (a b d:List Nat) (i:Int) (ex:Env):St:=⟨[(2,.pointer (some ⟨0,0,none⟩)),(3,.pointer (some ⟨1,0,none⟩)),(4,.pointer (some ⟨2,0,none⟩)),(5,.pointer (some ⟨3,0,none⟩)),(6,.int .i64 i)] ++ ex,[⟨ns .u64 a,true,true,true,1⟩,⟨ns .u64 b,true,true,true,1⟩,⟨ns .u64 Ys,true,true,true,1⟩,⟨ns .u64 d,true,true,true,1⟩],[]⟩
theorem Qpk {a b:List Nat} (ha:Nm a) (hb:Nm b) :
  ∃ d,Jl T 0 (.block 0 (.loop Qh8)) (abI a b D7 0 []) = some (.normal,abI a b d 16 [(8,.bool false)]) ∧ d.length = 32 ∧ (∀ x ∈ d,x < 2 ^ 44) ∧ num 65536 d = num 65536 a + num 65536 b:=by
 obtain ⟨st,hl,o,rfl,h1,h2,h3⟩:=Vi (T:=T) (base:=0) (id:=0) (body:=Qh8)
  (fun i st => ∃ o:List Nat,st = abI a b o i [] ∧ o.length = 32 ∧ (∀ x ∈ o,x < 2 ^ 44) ∧ (∀ j,i ≤ j → j < 16 → o[j]? = some 0) ∧ num 65536 o = num 65536 (a.take i) + num 65536 (b.take i))
  (Q:=fun st => ∃ o:List Nat,st = abI a b o 16 [(8,.bool false)] ∧ o.length = 32 ∧ (∀ x ∈ o,x < 2 ^ 44) ∧ num 65536 o = num 65536 a + num 65536 b)
  16 (s:=abI a b D7 0 []) ⟨D7,rfl,rfl,by decide,fun j _ hj => by unfold D7; rw [Qcm,if_pos (by omega)],by simp [num]; decide⟩
  (fun i st hi hs => by
   obtain ⟨o,rfl,h1,h2,h3,h4⟩:=hs
   obtain ⟨x,hx⟩:∃ x,a[i]? = some x:=⟨_,Q1 (by rw [ha.len]; omega)⟩
   obtain ⟨y,hy⟩:∃ y,b[i]? = some y:=⟨_,Q1 (by rw [hb.len]; omega)⟩
   have hx':=ha.lt x (Zk hx)
   have hy':=hb.lt y (Zk hy)
   have n1:=Gj (B:=65536) (x + y) (h3 i (Zj _) hi)
   have s1:=Ux .u64 o i (x + y)
   have hxc:=Yo (k := .u64) hx
   have hyc:=Yo (k := .u64) hy
   have l1:=ha.len
   have l2:=hb.len
   have w1:IntKind.i64.wrap ((i:Int) + 1) = ((i + 1:Nat):Int):=Y0 (b:=1) (by omega)
   have w2:IntKind.u64.wrap ((x:Int) + (y:Int)) = ((x + y:Nat):Int):=Dy (by omega)
   have e1:((i:Int) < 16) = True:=eq_true (by omega)
   have e2:((i:Int) < 32) = True:=eq_true (by omega)
   have e4:(i ≤ 31) = True:=eq_true (by omega)
   refine ⟨abI a b (o.set i (x + y)) ((i + 1:Nat):Int) [],?_,_,rfl,by rw [Xe]; exact h1,Da h2 (by omega),?_,?_⟩
   ·generalize o.set i (x + y) = O1 at *
    generalize x + y = v at *
    generalize i + 1 = i1 at *
    simp only [abI,Qh8,Z0,quiet,cF,↓pF,reduceCtorEq,Qb,Qp,Zi,Zf,Zg,Ze,Zc,Qj,Q3,Qi,Q2,Q6,Q5,↓Zo,↓Zn,↓Zw,↓Zz,↓Zx,↓Zy,cL,Qo,Qn,Qx,Qw,Qu,Ql,Qk,Qv,Qd,Qz,Q0,Qq,Qf,Qh,Qg,Qt,Qs,Qr,Qm,Qe,cJ,hxc,hyc,w1,w2,e1,e2,e4,s1,J2,h1,l1,l2]
   ·intro j hj hj'
    rw [Jj (by omega)]
    exact h3 j (by omega) hj'
   ·rw [Wn hx,Wn hy]
    rw [Kt] at n1
    omega)
  (fun st hs => by
   obtain ⟨o,rfl,h1,h2,h3,h4⟩:=hs
   rw [Zl (by rw [ha.len]; omega),Zl (by rw [hb.len]; omega)] at h4
   refine ⟨_,?_,o,rfl,h1,h2,h4⟩
   simp only [abI,Qh8,Z0,quiet,cF,↓pF,reduceCtorEq,Qb,Qp,Zi,Zf,Zg,Ze,Zc,Qj,Q3,Qi,Q2,Q6,Q5,↓Zo,↓Zn,↓Zw,↓Zz,↓Zx,↓Zy,cL,Qo,Qn,Qx,Qw,Qu,Ql,Qk,Qv,Qd,Qz,Q0,Qq,Qf,Qh,Qg,Qt,Qs,Qr,Qm,Qe])
 exact ⟨o,hl,h1,h2,h3⟩
theorem Qen {a b:List Nat} (ha:Nm a) (hb:Nm b):∃ r,Vd T 73 [eV a,eV b] = some (eV r) ∧ Nm r ∧ nf r = nf a + nf b:=by
 obtain ⟨d,hd,l1,h2,h3⟩:=Qpk ha hb
 have hal:=ha.num_lt
 have hbl:=hb.num_lt
 obtain ⟨r,hr,hN,hf⟩:=Qrb l1 h2 (by
  rw [h3]
  have e:(65536:Nat) ^ 32 = 2 ^ 256 * 2 ^ 256:=by decide
  rw [e]
  have:(2:Nat) ≤ 2 ^ 256:=by decide
  have:=Vt (2 ^ 256) this
  generalize (2:Nat) ^ 256 = M at *
  omega)
 refine ⟨r,?_,hN,by rw [hf,h3,Go.Fp.Gg]; rfl⟩
 simp only [abI,Zb,Za,Xu] at hd
 have hz:=Gf
 have lz:=Bi
 have hz2:=Qq1
 have lz2:=Ql5
 have la:=ha.len
 have lb:=hb.len
 have lr:=hN.len
 generalize Ys = Z at *
 generalize D7 = Z2 at *
 apply Xg
 apply Zt
 rw [Jc (fn:=a72) rfl]
 simp only [a72,↓Zr,Z0,quiet,cF,↓pF,reduceCtorEq,Qb,Qp,Zi,Zf,Zg,Ze,Zc,Qj,Q3,Qi,Q2,Q6,Q5,↓Zu,↓Zm,↓Z5,↓Z9,↓Z6,↓Z7,cL,Qo,Qn,Qx,Qw,Qu,Ql,Qk,Qv,Qd,Qz,Q0,Qq,Qf,Qh,Qg,Qt,Qs,Qr,Qm,Qe,cJ,hz,hz2,hd,hr,Zd,Xd,Jy,Xs,Vm,Xt,J2,la,lb,l1,lr,lz,lz2,Vl]
 rfl
theorem Qd7:Nm Ys:=⟨rfl,by decide⟩
theorem Qby:num 65536 Ys = 0:=by decide
theorem Qad {a:List Nat}:nf a = 0 ↔ num 65536 a % Go.Fp.P = 0:=by
 unfold nf
 rw [← Go.Fp.Qrw,Go.Fp.Qbt,Nat.zero_mod]
theorem Qn6 {v w:Nat} (hv:v < 2 ^ 256) (hw:w < 2 ^ 256):(dig 65536 16 v == dig 65536 16 w) = decide (v = w):=by
 by_cases h:v = w
 ·subst h; simp
 ·rw [decide_eq_false h,beq_eq_false_iff_ne.2]
  intro e
  have:=congrArg (num 65536) e
  rw [Gz hv,Gz hw] at this
  exact h this
theorem Qon:Go.Fp.P < 2 ^ 256:=by decide
theorem Qiy:0 < Go.Fp.P:=by decide
theorem Qje (a:List Nat):(dig 65536 16 (num 65536 a % Go.Fp.P) == Ys) = decide (nf a = 0):=by
 have hz:Ys = dig 65536 16 0:=by decide
 have h1:=Jk (num 65536 a) Qiy
 have h2:=Qon
 rw [hz,Qn6 (by omega) (by omega)]
 by_cases h:nf a = 0
 ·rw [decide_eq_true h,decide_eq_true (Qad.1 h)]
 ·rw [decide_eq_false h,decide_eq_false (fun e => h (Qad.2 e))]
theorem Qpd {a:List Nat} (ha:Nm a):∃ r,Vd T 74 [eV a] = some (eV r) ∧ Nm r ∧ nf r = -nf a:=by
 have hc:=Mf ha
 have hq:=Qje a
 have h1:=Jk (num 65536 a) Qiy
 have hPl:=Qon
 have hC:=Nm.dig (num 65536 a % Go.Fp.P)
 have hCn:=Gz (v:=num 65536 a % Go.Fp.P) (by omega)
 have hp:=T3
 have hm:=Qgq Hd hC (by rw [hCn,Mg]; omega)
 have lP:=Hd.len
 have lC:=hC.len
 have la:=ha.len
 have hz:=Gf
 have lz:=Bi
 have hf:=Rs
 rw [hCn,Mg] at hm
 have hceq:=Qkp lC lz
 rw [hq] at hceq
 by_cases h:nf a = 0
 ·rw [decide_eq_true h] at hceq
  refine ⟨dig 65536 16 (num 65536 a % Go.Fp.P),?_,hC,?_⟩
  ·generalize dig 65536 16 (num 65536 a % Go.Fp.P) = C at *
   generalize Ys = Z at *
   apply Xg
   apply Zt
   rw [Jc (fn:=a73) rfl]
   simp only [a73,↓Zr,Z0,quiet,cF,↓pF,reduceCtorEq,Qb,Qp,Zi,Zf,Zg,Ze,Zc,Qj,Q3,Qi,Q2,Q6,Q5,↓Zu,↓Zm,↓Z5,↓Z9,↓Z6,↓Z7,cL,Qo,Qn,Qx,Qw,Qu,Ql,Qk,Qv,Qd,Qz,Q0,Qq,Qf,Qh,Qg,Qt,Qs,Qr,Qm,Qe,cJ,hz,hf,hc,hceq,Zd,Xd,Jy,Xs,Vm,Xt,J2,la,lC,lz,Vl]
   rfl
  ·unfold nf
   rw [hCn,Go.Fp.Hs]
   show nf a = - nf a
   rw [h]; grobner
 ·rw [decide_eq_false h] at hceq
  have hR:=Nm.dig (Go.Fp.P - num 65536 a % Go.Fp.P)
  have hRn:=Gz (v:=Go.Fp.P - num 65536 a % Go.Fp.P) (by omega)
  refine ⟨dig 65536 16 (Go.Fp.P - num 65536 a % Go.Fp.P),?_,hR,?_⟩
  ·have lR:=hR.len
   generalize dig 65536 16 (num 65536 a % Go.Fp.P) = C at *
   generalize dig 65536 16 (Go.Fp.P - num 65536 a % Go.Fp.P) = R at *
   generalize By = PL at *
   generalize Ys = Z at *
   apply Xg
   apply Zt
   rw [Jc (fn:=a73) rfl]
   simp only [a73,↓Zr,Z0,quiet,cF,↓pF,reduceCtorEq,Qb,Qp,Zi,Zf,Zg,Ze,Zc,Qj,Q3,Qi,Q2,Q6,Q5,↓Zu,↓Zm,↓Z5,↓Z9,↓Z6,↓Z7,cL,Qo,Qn,Qx,Qw,Qu,Ql,Qk,Qv,Qd,Qz,Q0,Qq,Qf,Qh,Qg,Qt,Qs,Qr,Qm,Qe,cJ,hz,hf,hc,hceq,hp,hm,Zd,Xd,Jy,Xs,Vm,Xt,J2,la,lC,lR,lP,lz,Vl]
   rfl
  ·show Go.Fp.fp (num 65536 _) = _
   rw [hRn,Go.Fp.Qx3 (by omega),Go.Fp.Hs,Go.Fp.Q6d]
   exact Qn2 _
theorem Qkx {a b:List Nat} (ha:Nm a) (hb:Nm b):∃ r,Vd T 72 [eV a,eV b] = some (eV r) ∧ Nm r ∧ nf r = nf a - nf b:=by
 obtain ⟨n,hn,hN,hnf⟩:=Qpd hb
 obtain ⟨r,hr,hR,hrf⟩:=Qen ha hN
 refine ⟨r,?_,hR,by rw [hrf,hnf,Qqh]⟩
 have hz:=Gf
 have lz:=Bi
 have la:=ha.len
 have lb:=hb.len
 have lr:=hR.len
 generalize Ys = Z at *
 apply Xg
 apply Zt
 rw [Jc (fn:=a69) rfl]
 simp only [a69,↓Zr,Z0,quiet,cF,↓pF,reduceCtorEq,Qb,Qp,Zi,Zf,Zg,Ze,Zc,Qj,Q3,Qi,Q2,Q6,Q5,↓Zu,↓Zm,↓Z5,↓Z9,↓Z6,↓Z7,cL,Qo,Qn,Qx,Qw,Qu,Ql,Qk,Qv,Qd,Qz,Q0,Qq,Qf,Qh,Qg,Qt,Qs,Qr,Qm,Qe,cJ,hz,hn,hr,Zd,Xd,Jy,Xs,Vm,Xt,J2,la,lb,lr,lz,Vl]
 rfl
def Qlx (a b d:List Nat) (i k:Int) (ex:Env):St:=⟨[(2,.pointer (some ⟨0,0,none⟩)),(3,.pointer (some ⟨1,0,none⟩)),(4,.pointer (some ⟨2,0,none⟩)),(5,.pointer (some ⟨3,0,none⟩)),(6,.int .i64 i),(7,.int .i64 k)] ++ ex,[⟨ns .u64 a,true,true,true,1⟩,⟨ns .u64 b,true,true,true,1⟩,⟨ns .u64 Ys,true,true,true,1⟩,⟨ns .u64 d,true,true,true,1⟩],[]⟩
theorem Qpe {a b d:List Nat} {i x S:Nat} (ha:Nm a) (hb:Nm b) (hi:i < 16) (hx:a[i]? = some x) (hd:d.length = 32) (hM:∀ x ∈ d,x ≤ S * 4294967296) (hS:S ≤ 256) :
  ∃ d',Jl T 0 (.block 2 (.loop Qic)) (Qlx a b d i 0 []) = some (.normal,Qlx a b d' i 16 [(13,.bool false)]) ∧ d'.length = 32 ∧ (∀ x ∈ d',x ≤ (S + 16) * 4294967296) ∧ num 65536 d' = num 65536 d + x * num 65536 b * 65536 ^ i:=by
 have hx':=ha.lt x (Zk hx)
 obtain ⟨st,hl,d',rfl,h2,h3,h4⟩:=Vi (T:=T) (base:=0) (id:=2) (body:=Qic)
  (fun k st => ∃ d':List Nat,st = Qlx a b d' i k [] ∧ d'.length = 32 ∧ (∀ x ∈ d',x ≤ (S + k) * 4294967296) ∧ num 65536 d' = num 65536 d + x * num 65536 (b.take k) * 65536 ^ i)
  (Q:=fun st => ∃ d':List Nat,st = Qlx a b d' i 16 [(13,.bool false)] ∧ d'.length = 32 ∧ (∀ x ∈ d',x ≤ (S + 16) * 4294967296) ∧ num 65536 d' = num 65536 d + x * num 65536 b * 65536 ^ i)
  16 (s:=Qlx a b d i 0 []) ⟨d,rfl,hd,by simpa using hM,by simp [num]⟩
  (fun k st hk hs => by
   obtain ⟨d',rfl,h2,h3,h4⟩:=hs
   obtain ⟨y,hy⟩:∃ y,b[k]? = some y:=⟨_,Q1 (by rw [hb.len]; omega)⟩
   obtain ⟨v,hv⟩:∃ y,d'[i + k]? = some y:=⟨_,Q1 (by omega)⟩
   have hy':=hb.lt y (Zk hy)
   have hv':=h3 v (Zk hv)
   have hxy:x * y ≤ 65535 * 65535:=Wg (by omega) (by omega)
   have hxc:=Yo (k := .u64) hx
   have hyc:=Yo (k := .u64) hy
   have hvc:=Yo (k := .u64) hv
   have l1:=ha.len
   have l2:=hb.len
   have e1:((k:Int) < 16) = True:=eq_true (by omega)
   have e3:((i:Int) < 16) = True:=eq_true (by omega)
   have w1:IntKind.i64.wrap ((k:Int) + 1) = ((k + 1:Nat):Int):=Y0 (b:=1) (by omega)
   have w2:IntKind.i64.wrap ((i:Int) + (k:Int)) = ((i + k:Nat):Int):=Y0 (by omega)
   have w5:IntKind.u64.wrap ((x:Int) * (y:Int)) = ((x * y:Nat):Int):=R8 (by omega)
   have w6:IntKind.u64.wrap ((v:Int) + ((x * y:Nat):Int)) = ((v + x * y:Nat):Int):=Dy (by omega)
   have hset:=Ux .u64 d' (i + k) (v + x * y)
   have hn:=Gj (B:=65536) (v + x * y) hv
   refine ⟨Qlx a b (d'.set (i + k) (v + x * y)) i ((k + 1:Nat):Int) [],?_,d'.set (i + k) (v + x * y),rfl,by rw [Xe]; exact h2,?_,?_⟩
   ·have e5:(((i + k:Nat):Int) < 32) = True:=eq_true (by omega)
    have e7:(i + k ≤ 31) = True:=eq_true (by omega)
    generalize d'.set (i + k) (v + x * y) = D' at *
    generalize v + x * y = u at *
    generalize x * y = xy at *
    generalize i + k = j at *
    generalize k + 1 = k1 at *
    simp only [Qlx,Qic,Z0,quiet,cF,↓pF,reduceCtorEq,Qb,Qp,Zi,Zf,Zg,Ze,Zc,Qj,Q3,Qi,Q2,Q6,Q5,↓Zo,↓Zn,↓Zw,↓Zz,↓Zx,↓Zy,cL,Qo,Qn,Qx,Qw,Qu,Ql,Qk,Qv,Qd,Qz,Q0,Qq,Qf,Qh,Qg,Qt,Qs,Qr,Qm,Qe,cJ,e1,e3,e5,e7,w1,w2,w5,w6,hxc,hyc,hvc,hset,J2,h2,l1,l2]
   ·intro z hz
    rcases Hw hz with h | h
    ·exact Un (h3 z h) (Vt _ (Nat.le_succ _))
    ·omega
   ·rw [Wn hy]
    have e8:(v + x * y) * 65536 ^ (i + k) = v * 65536 ^ (i + k) + x * y * 65536 ^ k * 65536 ^ i:=by
     rw [Kt,Vo (x * y),← Wl,Gb k i]
    rw [Hg,Kt,← Vo x y]
    omega)
  (fun st hs => by
   obtain ⟨d',rfl,h2,h3,h4⟩:=hs
   rw [Zl (by rw [hb.len]; omega)] at h4
   refine ⟨_,?_,d',rfl,h2,h3,h4⟩
   simp only [Qlx,Qic,Z0,quiet,cF,↓pF,reduceCtorEq,Qb,Qp,Zi,Zf,Zg,Ze,Zc,Qj,Q3,Qi,Q2,Q6,Q5,↓Zo,↓Zn,↓Zw,↓Zz,↓Zx,↓Zy,cL,Qo,Qn,Qx,Qw,Qu,Ql,Qk,Qv,Qd,Qz,Q0,Qq,Qf,Qh,Qg,Qt,Qs,Qr,Qm,Qe])
 exact ⟨d',hl,h2,h3,h4⟩
theorem Qpf {a b:List Nat} (ha:Nm a) (hb:Nm b) :
  ∃ d,Jl T 0 (.block 0 (.loop Qib)) (abI a b D7 0 []) = some (.normal,abI a b d 16 [(9,.bool false)]) ∧ d.length = 32 ∧ (∀ x ∈ d,x < 2 ^ 44) ∧ num 65536 d = num 65536 a * num 65536 b:=by
 obtain ⟨st,hl,o,rfl,h1,h2,h3⟩:=Vi (T:=T) (base:=0) (id:=0) (body:=Qib)
  (fun i st => ∃ (o:List Nat) (ex:Env),st = abI a b o i ex ∧ o.length = 32 ∧ (∀ x ∈ o,x ≤ (i * 16) * 4294967296) ∧ num 65536 o = num 65536 (a.take i) * num 65536 b)
  (Q:=fun st => ∃ o:List Nat,st = abI a b o 16 [(9,.bool false)] ∧ o.length = 32 ∧ (∀ x ∈ o,x < 2 ^ 44) ∧ num 65536 o = num 65536 a * num 65536 b)
  16 (s:=abI a b D7 0 []) ⟨D7,[],rfl,rfl,by decide,by simp [num]; decide⟩
  (fun i st hi hs => by
   obtain ⟨o,ex,rfl,h1,h2,h3⟩:=hs
   obtain ⟨x,hx⟩:∃ x,a[i]? = some x:=⟨_,Q1 (by rw [ha.len]; omega)⟩
   obtain ⟨d',hb',g1,g2,g3⟩:=Qpe ha hb hi hx h1 h2 (by omega)
   simp only [Qlx,Zb,Za,Xu] at hb'
   have w1:IntKind.i64.wrap ((i:Int) + 1) = ((i + 1:Nat):Int):=Y0 (b:=1) (by omega)
   have e1:((i:Int) < 16) = True:=eq_true (by omega)
   refine ⟨abI a b d' ((i + 1:Nat):Int) [],?_,d',[],rfl,g1,?_,?_⟩
   ·simp only [abI,Qib,Z0,quiet,cF,↓pF,reduceCtorEq,Qb,Qp,Zi,Zf,Zg,Ze,Zc,Qj,Q3,Qi,Q2,Q6,Q5,↓Zo,↓Zn,↓Zw,↓Zz,↓Zx,↓Zy,cL,Qo,Qn,Qx,Qw,Qu,Ql,Qk,Qv,Qd,Qz,Q0,Qq,Qf,Qh,Qg,Qt,Qs,Qr,Qm,Qe,cJ,e1,w1,hb']
   ·intro z hz
    exact Un (g2 z hz) (Vt _ (by omega))
   ·rw [g3,h3,Wn hx,Kt,Vo,Vo,K7 (num 65536 b) (65536 ^ i)])
  (fun st hs => by
   obtain ⟨o,ex,rfl,h1,h2,h3⟩:=hs
   rw [Zl (by rw [ha.len]; omega)] at h3
   refine ⟨_,?_,o,rfl,h1,fun x hx => Wk (h2 x hx) (by decide),h3⟩
   simp only [abI,Qib,Z0,quiet,cF,↓pF,reduceCtorEq,Qb,Qp,Zi,Zf,Zg,Ze,Zc,Qj,Q3,Qi,Q2,Q6,Q5,↓Zo,↓Zn,↓Zw,↓Zz,↓Zx,↓Zy,cL,Qo,Qn,Qx,Qw,Qu,Ql,Qk,Qv,Qd,Qz,Q0,Qq,Qf,Qh,Qg,Qt,Qs,Qr,Qm,Qe])
 exact ⟨o,hl,h1,h2,h3⟩
theorem U4 {a b:List Nat} (ha:Nm a) (hb:Nm b):∃ r,Vd T 57 [eV a,eV b] = some (eV r) ∧ Nm r ∧ nf r = nf a * nf b:=by
 obtain ⟨d,hd,l1,h2,h3⟩:=Qpf ha hb
 have hal:=ha.num_lt
 have hbl:=hb.num_lt
 obtain ⟨r,hr,hN,hf⟩:=Qrb l1 h2 (by
  rw [h3]
  have e:(65536:Nat) ^ 32 = 2 ^ 256 * 2 ^ 256:=by decide
  rw [e]
  exact Qoq hal hbl)
 refine ⟨r,?_,hN,by rw [hf,h3,Go.Fp.U1]; rfl⟩
 simp only [abI,Zb,Za,Xu] at hd
 have hz:=Gf
 have lz:=Bi
 have hz2:=Qq1
 have lz2:=Ql5
 have la:=ha.len
 have lb:=hb.len
 have lr:=hN.len
 generalize Ys = Z at *
 generalize D7 = Z2 at *
 apply Xg
 apply Zt
 rw [Jc (fn:=a67) rfl]
 simp only [a67,↓Zr,Z0,quiet,cF,↓pF,reduceCtorEq,Qb,Qp,Zi,Zf,Zg,Ze,Zc,Qj,Q3,Qi,Q2,Q6,Q5,↓Zu,↓Zm,↓Z5,↓Z9,↓Z6,↓Z7,cL,Qo,Qn,Qx,Qw,Qu,Ql,Qk,Qv,Qd,Qz,Q0,Qq,Qf,Qh,Qg,Qt,Qs,Qr,Qm,Qe,cJ,hz,hz2,hd,hr,Zd,Xd,Jy,Xs,Vm,Xt,J2,la,lb,l1,lr,lz,lz2,Vl]
 rfl
end Go.Ev.YtgacigcbglflkaaGreat
set_option linter.unusedSimpArgs false
set_option linter.unusedVariables false
namespace Go.Ev.YtgacigcbglflkaaGreat
open Go Go.Ev
attribute [local congr] W7 Ul W6 Um Wv
set_option maxRecDepth 100000
def rpH (a n o:List Nat):List Ob:=[⟨ns .u64 a,true,true,true,1⟩,⟨ns .u64 n,true,true,true,1⟩,⟨ns .u64 Ys,true,true,true,1⟩,⟨ns .u64 o,true,true,true,1⟩]
def rpI (a n o:List Nat) (i:Int) (ex:Env):St:=⟨[(2,.pointer (some ⟨0,0,none⟩)),(3,.pointer (some ⟨1,0,none⟩)),(4,.pointer (some ⟨2,0,none⟩)),(5,.pointer (some ⟨3,0,none⟩)),(6,.int .i64 i)] ++ ex,rpH a n o,[]⟩
def rbI (a n o:List Nat) (i:Int) (w k:Nat) (ex:Env):St:=⟨[(2,.pointer (some ⟨0,0,none⟩)),(3,.pointer (some ⟨1,0,none⟩)),(4,.pointer (some ⟨2,0,none⟩)),(5,.pointer (some ⟨3,0,none⟩)),(6,.int .i64 i),(7,.int .u64 w),(8,.int .i64 k)] ++ ex,rpH a n o,[]⟩
theorem Qv4 {a n o:List Nat} {i w:Nat} (hi:i < 256) (hw:w < 65536) :
  Jl T 0 (.block 2 (.loop Qh2)) (rbI a n o i w 0 []) = some (.normal,rbI a n o i (w / 2 ^ (i % 16)) (i % 16) [(24,.bool false)]):=by
 have e3:(i:Int).tmod 16 = ((i % 16:Nat):Int):=rfl
 have h:=Wb (T:=T) (base:=0) (id:=2) (body:=Qh2) (fun k => rbI a n o i (w / 2 ^ k) k []) (s':=rbI a n o i (w / 2 ^ (i % 16)) (i % 16) [(24,.bool false)]) (i % 16)
  (fun k hk => by
   have h16:=Jk i (by decide:0 < 16)
   have e1:((k:Int) < ((i % 16:Nat):Int)) = True:=eq_true (by omega)
   have w1:IntKind.i64.wrap ((k:Int) + 1) = ((k + 1:Nat):Int):=Y0 (b:=1) (by omega)
   have hle:w / 2 ^ k ≤ w:=W9 _ _
   have w2:IntKind.u64.wrap (((w / 2 ^ k:Nat):Int).tdiv 2) = ((w / 2 ^ k / 2:Nat):Int):=D9 (n:=w / 2 ^ k / 2) (by omega)
   rw [Kq,← X9]
   generalize w / 2 ^ k = v at *
   generalize v / 2 = u at *
   generalize i % 16 = m at *
   simp only [rbI,rpH,Qh2,Z0,quiet,cF,↓pF,reduceCtorEq,Qb,Qp,Zi,Zf,Zg,Ze,Zc,Qj,Q3,Qi,Q2,Q6,Q5,↓Zo,↓Zn,↓Zw,↓Zz,↓Zx,↓Zy,cL,Qo,Qn,Qx,Qw,Qu,Ql,Qk,Qv,Qd,Qz,Q0,Qq,Qf,Qh,Qg,Qt,Qs,Qr,Qm,Qe,cJ,e1,e3,w1,w2])
  (by
   generalize w / 2 ^ (i % 16) = v at *
   generalize i % 16 = m at *
   simp only [rbI,rpH,Qh2,Z0,quiet,cF,↓pF,reduceCtorEq,Qb,Qp,Zi,Zf,Zg,Ze,Zc,Qj,Q3,Qi,Q2,Q6,Q5,↓Zo,↓Zn,↓Zw,↓Zz,↓Zx,↓Zy,cL,Qo,Qn,Qx,Qw,Qu,Ql,Qk,Qv,Qd,Qz,Q0,Qq,Qf,Qh,Qg,Qt,Qs,Qr,Qm,Qe,cJ,e3])
 rw [Ya,Wi] at h
 exact h
theorem Qzu {a n o:List Nat} {i:Nat} {ex:Env} (ha:Nm a) (hn:Nm n) (hi:i < 256) (ho:Nm o) (hp:nf o = Go.Fp.pow (nf a) (num 65536 n / 2 ^ (i + 1))) :
  ∃ r ex',Jl T 0 Qe3 (rpI a n o i ex) = some (.normal,rpI a n r ((i:Int) - 1) ex') ∧ Nm r ∧ nf r = Go.Fp.pow (nf a) (num 65536 n / 2 ^ i):=by
 obtain ⟨w,hw⟩:∃ w,n[i / 16]? = some w:=⟨_,Q1 (by rw [hn.len]; omega)⟩
 have hw':=hn.lt w (Zk hw)
 have hwv:=Bv (B:=65536) (by decide) hn.lt hw
 have hwc:=Yo (k := .u64) hw
 have hbit:w / 2 ^ (i % 16) % 2 = num 65536 n / 2 ^ i % 2:=by
  rw [← hwv,show (65536:Nat) = 2 ^ 16 from rfl,Qkk (Jk _ (by decide)),Vr]
 obtain ⟨r1,m1,g1,g2⟩:=U4 ho ho
 obtain ⟨r2,m2,g3,g4⟩:=U4 g1 ha
 have hlt:=Qao (num 65536 n) i
 have hnum:num 65536 n / 2 ^ i = 2 * (num 65536 n / 2 ^ (i + 1)) + num 65536 n / 2 ^ i % 2:=by
  rw [Kq,← X9]
  omega
 have hstep:=Qm1 (nf a) (num 65536 n / 2 ^ (i + 1)) (num 65536 n / 2 ^ i % 2) hlt
 rw [← hnum,← hp] at hstep
 have hb:=Qv4 (a:=a) (n:=n) (o:=r1) hi hw'
 simp only [rbI,rpH,Zb,Za,Xu] at hb
 have w2:IntKind.i64.wrap ((i:Int).tdiv 16) = ((i / 16:Nat):Int):=wn (n:=i / 16) (by omega)
 have w3:IntKind.i64.wrap ((i:Int) - 1) = (i:Int) - 1:=K9 (by omega) (by omega)
 have w4:((w / 2 ^ (i % 16):Nat):Int).tmod 2 = ((w / 2 ^ (i % 16) % 2:Nat):Int):=rfl
 have e1:((0:Int) ≤ (i:Int)) = True:=eq_true (by omega)
 have e3:(((i / 16:Nat):Int) < 16) = True:=eq_true (by omega)
 have l0:=ha.len
 have l1:=hn.len
 have l2:=ho.len
 have l3:=g1.len
 have l4:=g3.len
 rw [hbit] at w4
 generalize hB:num 65536 n / 2 ^ i % 2 = B at *
 generalize w / 2 ^ (i % 16) = wv at *
 by_cases hB1:B = 1
 ·have hbq:((B:Int) == 1) = true:=by rw [hB1]; rfl
  rw [if_pos hB1] at hstep
  refine ⟨r2,[],?_,g3,by rw [hstep,g4,g2]⟩
  simp only [rpI,rpH,Qe3,Z0,quiet,cF,↓pF,reduceCtorEq,Qb,Qp,Zi,Zf,Zg,Ze,Zc,Qj,Q3,Qi,Q2,Q6,Q5,↓Zo,↓Zn,↓Zw,↓Zz,↓Zx,↓Zy,cL,Qo,Qn,Qx,Qw,Qu,Ql,Qk,Qv,Qd,Qz,Q0,Qq,Qf,Qh,Qg,Qt,Qs,Qr,Qm,Qe,cJ,hwc,hb,w2,w3,w4,e1,e3,m1,m2,hbq,Jy,Xs,Vm,Xt,J2,Xd,l0,l1,l2,l3,l4,Vl]
 ·have hbq:((B:Int) == 1) = false:=by
   have:B = 0:=by omega
   rw [this]; rfl
  rw [if_neg hB1] at hstep
  refine ⟨r1,[],?_,g1,by rw [hstep,g2]⟩
  simp only [rpI,rpH,Qe3,Z0,quiet,cF,↓pF,reduceCtorEq,Qb,Qp,Zi,Zf,Zg,Ze,Zc,Qj,Q3,Qi,Q2,Q6,Q5,↓Zo,↓Zn,↓Zw,↓Zz,↓Zx,↓Zy,cL,Qo,Qn,Qx,Qw,Qu,Ql,Qk,Qv,Qd,Qz,Q0,Qq,Qf,Qh,Qg,Qt,Qs,Qr,Qm,Qe,cJ,hwc,hb,w2,w3,w4,e1,e3,m1,m2,hbq,Jy,Xs,Vm,Xt,J2,Xd,l0,l1,l2,l3,l4,Vl]
theorem Qky:nf (Wr 1) = 1:=by unfold nf; rw [Gl (by decide)]; rfl
theorem Qgp {a n:List Nat} (ha:Nm a) (hn:Nm n):∃ r,Vd T 91 [eV a,eV n] = some (eV r) ∧ Nm r ∧ nf r = Go.Fp.pow (nf a) (num 65536 n):=by
 have hK:=hn.num_lt
 obtain ⟨st,hb,r,rfl,hr1,hr2⟩:=Vi (T:=T) (base:=0) (id:=0) (body:=Qe3)
  (fun j st => ∃ (r:List Nat) (ex:Env),st = rpI a n r ((255:Int) - j) ex ∧ Nm r ∧ nf r = Go.Fp.pow (nf a) (num 65536 n / 2 ^ (256 - j)))
  (Q:=fun st => ∃ r:List Nat,st = rpI a n r (-1) [(11,.bool false)] ∧ Nm r ∧ nf r = Go.Fp.pow (nf a) (num 65536 n))
  256 (s:=rpI a n (Wr 1) 255 []) ⟨_,[],rfl,Bm 1,by rw [Qky,Xw,Wz hK]; rfl⟩
  (fun j st hj hs => by
   obtain ⟨r,ex,rfl,h1,h2⟩:=hs
   obtain ⟨i,hi⟩:∃ i,256 - j = i + 1:=⟨255 - j,by omega⟩
   rw [hi] at h2
   obtain ⟨r',ex',g1,g2,g3⟩:=Qzu (ex:=ex) ha hn (i:=i) (by omega) h1 h2
   rw [show (255:Int) - j = (i:Int) by omega]
   refine ⟨_,g1,r',ex',?_,g2,?_⟩
   ·rw [show (255:Int) - ((j + 1:Nat):Int) = (i:Int) - 1 by omega]
   ·rw [show 256 - (j + 1) = i by omega]; exact g3)
  (fun st hs => by
   obtain ⟨r,ex,rfl,h1,h2⟩:=hs
   rw [Kv,Ya,Wi] at h2
   have e:((0:Int) ≤ -1) = False:=by decide
   refine ⟨_,?_,r,rfl,h1,h2⟩
   rw [show (255:Int) - ((256:Nat):Int) = -1 by omega]
   simp only [rpI,rpH,Qe3,Z0,quiet,cF,↓pF,reduceCtorEq,Qb,Qp,Zi,Zf,Zg,Ze,Zc,Qj,Q3,Qi,Q2,Q6,Q5,↓Zo,↓Zn,↓Zw,↓Zz,↓Zx,↓Zy,cL,Qo,Qn,Qx,Qw,Qu,Ql,Qk,Qv,Qd,Qz,Q0,Qq,Qf,Qh,Qg,Qt,Qs,Qr,Qm,Qe,e])
 refine ⟨r,?_,hr1,hr2⟩
 have hs:=Ho 1 (by decide)
 have ls:=(Bm 1).len
 have hz:=Gf
 have lz:=Bi
 have la:=ha.len
 have ln:=hn.len
 have lr:=hr1.len
 simp only [B0] at hs
 simp only [rpI,rpH,Zb,Za] at hb
 generalize Ys = Z at *
 generalize Wr 1 = S at *
 apply Xg
 apply Zt
 rw [Jc (fn:=a88) rfl]
 simp only [a88,↓Zr,Z0,quiet,cF,↓pF,reduceCtorEq,Qb,Qp,Zi,Zf,Zg,Ze,Zc,Qj,Q3,Qi,Q2,Q6,Q5,↓Zu,↓Zm,↓Z5,↓Z9,↓Z6,↓Z7,cL,Qo,Qn,Qx,Qw,Qu,Ql,Qk,Qv,Qd,Qz,Q0,Qq,Qf,Qh,Qg,Qt,Qs,Qr,Qm,Qe,cJ,hz,hs,hb,Zd,Xd,Jy,Xs,Vm,Xt,J2,la,ln,lr,ls,lz,Vl]
 rfl
theorem Qa0 {a:List Nat} (ha:Nm a):∃ r,Vd T 55 [eV a] = some (eV r) ∧ Nm r ∧ nf r = Go.Fp.iv (nf a):=by
 have hp:=T3
 have hs:=Ho 2 (by decide)
 have hm:=Qgq Hd (Bm 2) (by rw [Mg,Gl (by decide)]; decide)
 rw [Mg,Gl (by decide)] at hm
 have hN:=Nm.dig (Go.Fp.P - 2)
 have hn:=Gz (v:=Go.Fp.P - 2) (by decide)
 obtain ⟨r,hr,h1,h2⟩:=Qgp ha hN
 rw [hn] at h2
 refine ⟨r,?_,h1,h2⟩
 have hz:=Gf
 have lz:=Bi
 have la:=ha.len
 have lp:=Hd.len
 have ls:=(Bm 2).len
 have lm:=hN.len
 have lr:=h1.len
 simp only [Ww] at hs
 generalize Ys = Z at *
 generalize By = PL at *
 generalize Wr 2 = S at *
 generalize dig 65536 16 (Go.Fp.P - 2) = E at *
 apply Xg
 apply Zt
 rw [Jc (fn:=a71) rfl]
 simp only [a71,↓Zr,Z0,quiet,cF,↓pF,reduceCtorEq,Qb,Qp,Zi,Zf,Zg,Ze,Zc,Qj,Q3,Qi,Q2,Q6,Q5,↓Zu,↓Zm,↓Z5,↓Z9,↓Z6,↓Z7,cL,Qo,Qn,Qx,Qw,Qu,Ql,Qk,Qv,Qd,Qz,Q0,Qq,Qf,Qh,Qg,Qt,Qs,Qr,Qm,Qe,cJ,hz,hp,hs,hm,hr,Zd,Xd,Jy,Xs,Vm,Xt,J2,la,lp,ls,lm,lr,lz,Vl]
 rfl
theorem d_eq : -(Go.Fp.fp 121665) * Go.Fp.iv (Go.Fp.fp 121666) = Go.Fp.d:=by
 have h0:Go.Fp.fp 121666 ≠ 0:=by decide +kernel
 have h1:=Go.Fp.Qaf h0
 have h2:Go.Fp.fp 121666 * Go.Fp.d = - Go.Fp.fp 121665:=by decide +kernel
 refine Go.Fp.fld.cancel h0 ?_
 rw [h2]
 generalize Go.Fp.iv (Go.Fp.fp 121666) = y at *
 generalize Go.Fp.fp 121666 = x at *
 generalize Go.Fp.fp 121665 = z at *
 clear h0 h2
 grobner
theorem Q5c:∃ r,Vd T 34 [] = some (eV r) ∧ Nm r ∧ nf r = Go.Fp.d:=by
 have s1:=Ho 121665 (by decide)
 have s2:=Ho 121666 (by decide)
 obtain ⟨n,hn,n1,n2⟩:=Qpd (Bm 121665)
 obtain ⟨v,hv,v1,v2⟩:=Qa0 (Bm 121666)
 obtain ⟨r,hr,r1,r2⟩:=U4 n1 v1
 refine ⟨r,?_,r1,?_⟩
 ·have hz:=Gf
  have lz:=Bi
  have lr:=r1.len
  simp only [Ww] at s1 s2
  generalize Ys = Z at *
  generalize Wr 121665 = S1 at *
  generalize Wr 121666 = S2 at *
  apply Xg
  apply Zt
  rw [Jc (fn:=a36) rfl]
  simp only [a36,↓Zr,Z0,quiet,cF,↓pF,reduceCtorEq,Qb,Qp,Zi,Zf,Zg,Ze,Zc,Qj,Q3,Qi,Q2,Q6,Q5,↓Zu,↓Zm,↓Z5,↓Z9,↓Z6,↓Z7,cL,Qo,Qn,Qx,Qw,Qu,Ql,Qk,Qv,Qd,Qz,Q0,Qq,Qf,Qh,Qg,Qt,Qs,Qr,Qm,Qe,cJ,hz,s1,s2,hn,hv,hr,Zd,Xd,Jy,Xs,Vm,Xt,J2,lr,lz,Vl]
  rfl
 ·have e1:nf (Wr 121665) = Go.Fp.fp 121665:=by unfold nf; rw [Gl (by decide)]
  have e2:nf (Wr 121666) = Go.Fp.fp 121666:=by unfold nf; rw [Gl (by decide)]
  rw [r2,n2,v2,e1,e2,d_eq]
theorem six (l:List Nat) (h:l.length = 16):∃ a0 a1 a2 a3 a4 a5 a6 a7 a8 a9 a10 a11 a12 a13 a14 a15,l = [a0,a1,a2,a3,a4,a5,a6,a7,a8,a9,a10,a11,a12,a13,a14,a15]:=by
 match l,h with
 | [a0,a1,a2,a3,a4,a5,a6,a7,a8,a9,a10,a11,a12,a13,a14,a15],_ => exact ⟨a0,a1,a2,a3,a4,a5,a6,a7,a8,a9,a10,a11,a12,a13,a14,a15,rfl⟩
def tL (x y z:List Nat):List Nat:=x ++ (y ++ z)
theorem T0 {x y z:List Nat} (hx:x.length = 16) (hy:y.length = 16) (hz:z.length = 16):(tL x y z).length = 48:=by simp [tL,hx,hy,hz]
theorem tri {x y z:List Nat} (hx:x.length = 16) (hy:y.length = 16) (hz:z.length = 16) :
  We 16 (ns .u64 (tL x y z)) = ns .u64 x ∧ We 16 (Bs 16 (ns .u64 (tL x y z))) = ns .u64 y ∧ We 16 (Bs 32 (ns .u64 (tL x y z))) = ns .u64 z:=by
 obtain ⟨a0,a1,a2,a3,a4,a5,a6,a7,a8,a9,a10,a11,a12,a13,a14,a15,rfl⟩:=six _ hx
 obtain ⟨b0,b1,b2,b3,b4,b5,b6,b7,b8,b9,b10,b11,b12,b13,b14,b15,rfl⟩:=six _ hy
 obtain ⟨c0,c1,c2,c3,c4,c5,c6,c7,c8,c9,c10,c11,c12,c13,c14,c15,rfl⟩:=six _ hz
 exact ⟨rfl,rfl,rfl⟩
def B6:List Nat:=Qa 48 0
theorem Qd8:Qa 48 (Value.int .u64 0) = ns .u64 B6:=rfl
theorem Qas:B6.length = 48:=rfl
theorem Qx8 {x y z:List Nat} (hx:x.length = 16) (hy:y.length = 16) (hz:z.length = 16):fillL (ns .u64 B6) [(0,16,eV x),(16,16,eV y),(32,16,eV z)] = some (ns .u64 (tL x y z)):=by
 obtain ⟨a0,a1,a2,a3,a4,a5,a6,a7,a8,a9,a10,a11,a12,a13,a14,a15,rfl⟩:=six _ hx
 obtain ⟨b0,b1,b2,b3,b4,b5,b6,b7,b8,b9,b10,b11,b12,b13,b14,b15,rfl⟩:=six _ hy
 obtain ⟨c0,c1,c2,c3,c4,c5,c6,c7,c8,c9,c10,c11,c12,c13,c14,c15,rfl⟩:=six _ hz
 rfl
theorem Q6e {y z:List Nat} (hy:y.length = 16) (hz:z.length = 16):fillL (ns .u64 B6) [(16,16,eV y),(32,16,eV z)] = some (ns .u64 (tL Ys y z)):=by
 obtain ⟨b0,b1,b2,b3,b4,b5,b6,b7,b8,b9,b10,b11,b12,b13,b14,b15,rfl⟩:=six _ hy
 obtain ⟨c0,c1,c2,c3,c4,c5,c6,c7,c8,c9,c10,c11,c12,c13,c14,c15,rfl⟩:=six _ hz
 rfl
structure RRep (x y z:List Nat) (p:Go.Cv.Pt Go.Fp.P Go.Fp.d):Prop where
 nx:Nm x
 ny:Nm y
 nz:Nm z
 ne:nf z ≠ 0
 x:nf x = p.x * nf z
 y:nf y = p.y * nf z
def RP (l:List Nat) (p:Go.Cv.Pt Go.Fp.P Go.Fp.d):Prop:=∃ x y z,l = tL x y z ∧ RRep x y z p
theorem RP.len {l:List Nat} {p:Go.Cv.Pt Go.Fp.P Go.Fp.d} (h:RP l p):l.length = 48:=by
 obtain ⟨x,y,z,rfl,h⟩:=h
 exact T0 h.nx.len h.ny.len h.nz.len
theorem fe_m1 (b D:Go.Fp.Fe):b - D * b = b * (1 - D):=by grobner
theorem fe_m2 (b D:Go.Fp.Fe):b + D * b = b * (1 + D):=by grobner
theorem sum_x {s D N a b m q w:Go.Fp.Fe} (hs:s * (1 + D) = N) (hb:b = a * a)
  (hm:m = b - D * b) (hq:q = b + D * b) (hw:w = N * a):a * m * w = s * (m * q):=by
 subst hw hm hq hb
 rw [← hs]
 clear hs
 grobner
theorem sum_y {s D N a b m q:Go.Fp.Fe} (hs:s * (1 - D) = N) (hb:b = a * a)
  (hm:m = b - D * b) (hq:q = b + D * b):a * q * (N * a) = s * (m * q):=by
 subst hm hq hb
 rw [← hs]
 clear hs
 grobner
theorem Qv5 {x1 y1 z1 x2 y2 z2:Go.Fp.Fe} {p q:Go.Cv.Pt Go.Fp.P Go.Fp.d} (n1:z1 ≠ 0) (n2:z2 ≠ 0) (hx1:x1 = p.x * z1) (hy1:y1 = p.y * z1) (hx2:x2 = q.x * z2) (hy2:y2 = q.y * z2)
  {a b c e g m u w:Go.Fp.Fe} (ha:a = z1 * z2) (hb:b = a * a) (hc:c = x1 * x2) (he:e = y1 * y2) (hg:g = Go.Fp.d * (c * e)) (hm:m = b - g) (hu:u = b + g) (hw:w = (x1 + y1) * (x2 + y2) - c - e) :
  m * u ≠ 0 ∧ a * m * w = (W3 p q).x * (m * u) ∧ a * u * (e + c) = (W3 p q).y * (m * u):=by
 have F:=Go.Fp.fld
 have hP:=F.denP p.on q.on
 have hM:=F.denM p.on q.on
 have sx:=Go.Cv.Qbx Go.Fp.fld p q
 have sy:=Go.Cv.Qbw Go.Fp.fld p q
 have hx:(W3 p q).x * (1 + Go.Fp.d * p.x * q.x * p.y * q.y) = p.x * q.y + q.x * p.y:=sx
 have hy:(W3 p q).y * (1 - Go.Fp.d * p.x * q.x * p.y * q.y) = p.y * q.y + p.x * q.x:=sy
 clear sx sy
 generalize (W3 p q).x = s1 at *
 generalize (W3 p q).y = s2 at *
 generalize p.x = px at *
 generalize p.y = py at *
 generalize q.x = qx at *
 generalize q.y = qy at *
 generalize Go.Fp.d = d at *
 have an:a ≠ 0:=by rw [ha]; exact F.mul_ne n1 n2
 have bn:b ≠ 0:=by rw [hb]; exact F.mul_ne an an
 have hgb:g = d * px * qx * py * qy * b:=by
  subst hx1 hy1 hx2 hy2 hc he hb ha
  rw [hg]
  clear hg hm hu hw hP hM hx hy n1 n2 an bn F
  grobner
 have hwa:w = (px * qy + qx * py) * a:=by
  subst hx1 hy1 hx2 hy2 hc he ha
  rw [hw]
  clear hg hm hu hw hP hM hx hy n1 n2 an bn F hgb hb
  grobner
 have hec:e + c = (py * qy + px * qx) * a:=by
  subst hx1 hy1 hx2 hy2 hc he ha
  clear hg hm hu hw hP hM hx hy n1 n2 an bn F hgb hb hwa
  grobner
 have hm':m = b - d * px * qx * py * qy * b:=by rw [hm,hgb]
 have hu':u = b + d * px * qx * py * qy * b:=by rw [hu,hgb]
 generalize hD:d * px * qx * py * qy = D at *
 refine ⟨?_,?_,?_⟩
 ·have e1:m = b * (1 - D):=by rw [hm']; exact fe_m1 _ _
  have e2:u = b * (1 + D):=by rw [hu']; exact fe_m2 _ _
  rw [e1,e2]
  exact F.mul_ne (F.mul_ne bn hM) (F.mul_ne bn hP)
 ·exact sum_x hx hb hm' hu' hwa
 ·rw [hec]
  exact sum_y hy hb hm' hu'
theorem Qk3 {l1 l2 dl:List Nat} {p q:Go.Cv.Pt Go.Fp.P Go.Fp.d} (h1:RP l1 p) (h2:RP l2 q) (Nd:Nm dl) (hd:nf dl = Go.Fp.d):∃ r,Vd T 33 [eV l1,eV l2,eV dl] = some (eV r) ∧ RP r (W3 p q):=by
 obtain ⟨x1,y1,z1,rfl,h1⟩:=h1
 obtain ⟨x2,y2,z2,rfl,h2⟩:=h2
 obtain ⟨a,va,Na,fa⟩:=U4 h1.nz h2.nz
 obtain ⟨b,vb,Nb,fb⟩:=U4 Na Na
 obtain ⟨c,vc,Nc,fc⟩:=U4 h1.nx h2.nx
 obtain ⟨e,ve,Ne,fe'⟩:=U4 h1.ny h2.ny
 obtain ⟨ce,vce,Nce,fce⟩:=U4 Nc Ne
 obtain ⟨g,vg,Ng,fg⟩:=U4 Nd Nce
 obtain ⟨m,vm,Nmm,fm⟩:=Qkx Nb Ng
 obtain ⟨u,vu,Nu,fu⟩:=Qen Nb Ng
 obtain ⟨s1,vs1,Ns1,fs1⟩:=Qen h1.nx h1.ny
 obtain ⟨s2,vs2,Ns2,fs2⟩:=Qen h2.nx h2.ny
 obtain ⟨s3,vs3,Ns3,fs3⟩:=U4 Ns1 Ns2
 obtain ⟨s4,vs4,Ns4,fs4⟩:=Qkx Ns3 Nc
 obtain ⟨w,vw,Nw,fw⟩:=Qkx Ns4 Ne
 obtain ⟨am,vam,Nam,fam⟩:=U4 Na Nmm
 obtain ⟨X,vX,NX,fX⟩:=U4 Nam Nw
 obtain ⟨au,vau,Nau,fau⟩:=U4 Na Nu
 obtain ⟨ec,vec,Nec,fec⟩:=Qen Ne Nc
 obtain ⟨Y,vY,NY,fY⟩:=U4 Nau Nec
 obtain ⟨Z,vZ,NZ,fZ⟩:=U4 Nmm Nu
 obtain ⟨g1,g2,g3⟩:=Qv5 (w:=nf w) (g:=nf g) h1.ne h2.ne h1.x h1.y h2.x h2.y fa fb fc fe' (by rw [fg,hd,fce]) fm fu (by rw [fw,fs4,fs3,fs1,fs2])
 refine ⟨tL X Y Z,?_,X,Y,Z,rfl,NX,NY,NZ,by rw [fZ]; exact g1,by rw [fX,fam,fZ]; exact g2,by rw [fY,fau,fec,fZ]; exact g3⟩
 obtain ⟨u0,u1,u2⟩:=tri h1.nx.len h1.ny.len h1.nz.len
 obtain ⟨v0,v1,v2⟩:=tri h2.nx.len h2.ny.len h2.nz.len
 have L1:=T0 h1.nx.len h1.ny.len h1.nz.len
 have L2:=T0 h2.nx.len h2.ny.len h2.nz.len
 have L3:=T0 NX.len NY.len NZ.len
 have hf:=Qx8 NX.len NY.len NZ.len
 have hz:=Gf
 have lz:=Bi
 have hz2:=Qd8
 have lz2:=Qas
 have ld:=Nd.len
 have la:=Na.len
 have lb:=Nb.len
 have lc:=Nc.len
 have le:=Ne.len
 have lg:=Ng.len
 have lm:=Nmm.len
 have lu:=Nu.len
 have lw:=Nw.len
 generalize Ys = Z16 at *
 generalize B6 = Z48 at *
 generalize tL X Y Z = R at *
 generalize tL x1 y1 z1 = P1 at *
 generalize tL x2 y2 z2 = P2 at *
 apply Xg
 apply Zt
 rw [Jc (fn:=a35) rfl]
 simp only [a35,↓Zr,Z0,quiet,cF,↓pF,reduceCtorEq,Qb,Qp,Zi,Zf,Zg,Ze,Zc,Qj,Q3,Qi,Q2,Q6,Q5,↓Zu,↓Zm,↓Z5,↓Z9,↓Z6,↓Z7,cL,Qo,Qn,Qx,Qw,Qu,Ql,Qk,Qv,Qd,Qz,Q0,Qq,Qf,Qh,Qg,Qt,Qs,Qr,Qm,Qe,cJ,hz,hz2,u0,u1,u2,v0,v1,v2,hf,va,vb,vc,ve,vce,vg,vm,vu,vs1,vs2,vs3,vs4,vw,vam,vX,vau,vec,vY,vZ,Zd,Xd,Jy,Xs,Vm,Xt,J2,L1,L2,L3,lz,lz2,ld,la,lb,lc,le,lg,lm,lu,lw,Vl]
 rfl
theorem Qzo:∃ r,Vd T 58 [] = some (eV r) ∧ RP r U2:=by
 have hs:=Ho 1 (by decide)
 have hN:=Bm 1
 have h1:=Qky
 have h0:nf Ys = 0:=by unfold nf; rw [Qby]; rfl
 refine ⟨tL Ys (Wr 1) (Wr 1),?_,_,_,_,rfl,Qd7,hN,hN,by rw [h1]; exact Go.Fp.Rk,by rw [h0,h1]; show (0:Go.Fp.Fe) = 0 * 1; grobner,by rw [h1]; show (1:Go.Fp.Fe) = 1 * 1; grobner⟩
 have hf:=Q6e hN.len hN.len
 have hz2:=Qd8
 have lz2:=Qas
 have L:=T0 Qd7.len hN.len hN.len
 simp only [B0] at hs
 generalize tL Ys (Wr 1) (Wr 1) = R at *
 generalize Wr 1 = S at *
 generalize B6 = Z48 at *
 apply Xg
 apply Zt
 rw [Jc (fn:=a74) rfl]
 simp only [a74,↓Zr,Z0,quiet,cF,↓pF,reduceCtorEq,Qb,Qp,Zi,Zf,Zg,Ze,Zc,Qj,Q3,Qi,Q2,Q6,Q5,↓Zu,↓Zm,↓Z5,↓Z9,↓Z6,↓Z7,cL,Qo,Qn,Qx,Qw,Qu,Ql,Qk,Qv,Qd,Qz,Q0,Qq,Qf,Qh,Qg,Qt,Qs,Qr,Qm,Qe,cJ,hz2,hs,hf,Zd,Xd,Jy,Xs,Vm,Xt,J2,L,lz2,Vl]
 rfl
def ruH (k P o D:List Nat):List Ob:=[⟨u8s k,true,true,true,1⟩,⟨ns .u64 P,true,true,true,1⟩,⟨ns .u64 B6,true,true,true,1⟩,⟨ns .u64 o,true,true,true,1⟩,⟨ns .u64 D,true,true,true,1⟩]
def ruI (k P o D:List Nat) (i:Int) (ex:Env):St:=⟨[(2,.pointer (some ⟨0,0,none⟩)),(3,.pointer (some ⟨1,0,none⟩)),(4,.pointer (some ⟨2,0,none⟩)),(5,.pointer (some ⟨3,0,none⟩)),(6,.pointer (some ⟨4,0,none⟩)),(7,.int .i64 i)] ++ ex,ruH k P o D,[]⟩
def ruB (k P o D:List Nat) (i:Int) (w j:Nat) (ex:Env):St:=⟨[(2,.pointer (some ⟨0,0,none⟩)),(3,.pointer (some ⟨1,0,none⟩)),(4,.pointer (some ⟨2,0,none⟩)),(5,.pointer (some ⟨3,0,none⟩)),(6,.pointer (some ⟨4,0,none⟩)),(7,.int .i64 i),(8,.int .i64 w),(9,.int .i64 j)] ++ ex,ruH k P o D,[]⟩
theorem Q48 {k P o D:List Nat} {i w:Nat} (hi:i < 256) (hw:w < 256) :
  Jl T 0 (.block 2 (.loop Qit)) (ruB k P o D i w 0 []) = some (.normal,ruB k P o D i (w / 2 ^ (i % 8)) (i % 8) [(24,.bool false)]):=by
 have e3:(i:Int).tmod 8 = ((i % 8:Nat):Int):=rfl
 have h:=Wb (T:=T) (base:=0) (id:=2) (body:=Qit) (fun j => ruB k P o D i (w / 2 ^ j) j []) (s':=ruB k P o D i (w / 2 ^ (i % 8)) (i % 8) [(24,.bool false)]) (i % 8)
  (fun j hj => by
   have h16:=Jk i (by decide:0 < 8)
   have e1:((j:Int) < ((i % 8:Nat):Int)) = True:=eq_true (by omega)
   have w1:IntKind.i64.wrap ((j:Int) + 1) = ((j + 1:Nat):Int):=Y0 (b:=1) (by omega)
   have hle:w / 2 ^ j ≤ w:=W9 _ _
   have w2:IntKind.i64.wrap (((w / 2 ^ j:Nat):Int).tdiv 2) = ((w / 2 ^ j / 2:Nat):Int):=wn (n:=w / 2 ^ j / 2) (by omega)
   rw [Kq,← X9]
   generalize w / 2 ^ j = v at *
   generalize v / 2 = u at *
   generalize i % 8 = m at *
   simp only [ruB,ruH,Qit,Z0,quiet,cF,↓pF,reduceCtorEq,Qb,Qp,Zi,Zf,Zg,Ze,Zc,Qj,Q3,Qi,Q2,Q6,Q5,↓Zo,↓Zn,↓Zw,↓Zz,↓Zx,↓Zy,cL,Qo,Qn,Qx,Qw,Qu,Ql,Qk,Qv,Qd,Qz,Q0,Qq,Qf,Qh,Qg,Qt,Qs,Qr,Qm,Qe,cJ,e1,e3,w1,w2])
  (by
   generalize w / 2 ^ (i % 8) = v at *
   generalize i % 8 = m at *
   simp only [ruB,ruH,Qit,Z0,quiet,cF,↓pF,reduceCtorEq,Qb,Qp,Zi,Zf,Zg,Ze,Zc,Qj,Q3,Qi,Q2,Q6,Q5,↓Zo,↓Zn,↓Zw,↓Zz,↓Zx,↓Zy,cL,Qo,Qn,Qx,Qw,Qu,Ql,Qk,Qv,Qd,Qz,Q0,Qq,Qf,Qh,Qg,Qt,Qs,Qr,Qm,Qe,cJ,e3])
 rw [Ya,Wi] at h
 exact h
theorem Qzq {k P o D:List Nat} {i:Nat} {ex:Env} {p q:Go.Cv.Pt Go.Fp.P Go.Fp.d} (lk:k.length = 32) (xk:∀ x ∈ k,x < 256) (hi:i < 256) (hP:RP P p) (ho:RP o q) (ND:Nm D) (hD:nf D = Go.Fp.d) :
  ∃ P' o',Jl T 0 Qe6 (ruI k P o D i ex) = some (.normal,ruI k P' o' D ((i + 1:Nat):Int) []) ∧ RP P' (W3 p p) ∧ RP o' (if num 256 k / 2 ^ i % 2 = 1 then W3 q p else q):=by
 obtain ⟨w,hw⟩:∃ w,k[i / 8]? = some w:=⟨_,Q1 (by omega)⟩
 have hw':=xk w (Zk hw)
 have hwv:=Bv (B:=256) (by decide) xk hw
 have hwc:=Wo hw
 have hbit:w / 2 ^ (i % 8) % 2 = num 256 k / 2 ^ i % 2:=by
  rw [← hwv,show (256:Nat) = 2 ^ 8 from rfl,Qkk (Jk _ (by decide)),Vr]
 obtain ⟨r1,m1,g1⟩:=Qk3 ho hP ND hD
 obtain ⟨r2,m2,g2⟩:=Qk3 hP hP ND hD
 have hb:=Q48 (k:=k) (P:=P) (o:=o) (D:=D) hi hw'
 simp only [ruB,ruH,Zb,Za,Xu] at hb
 have hlt:=Qao (num 256 k) i
 have w0:IntKind.i64.wrap (w:Int) = (w:Int):=wn (by omega)
 have w2:IntKind.i64.wrap ((i:Int).tdiv 8) = ((i / 8:Nat):Int):=wn (n:=i / 8) (by omega)
 have w3:IntKind.i64.wrap ((i:Int) + 1) = ((i + 1:Nat):Int):=Y0 (b:=1) (by omega)
 have w4:((w / 2 ^ (i % 8):Nat):Int).tmod 2 = ((w / 2 ^ (i % 8) % 2:Nat):Int):=rfl
 have e1:((i:Int) < 256) = True:=eq_true (by omega)
 have e3:(((i / 8:Nat):Int) < 32) = True:=eq_true (by omega)
 have l1:=hP.len
 have l2:=ho.len
 have l3:=g1.len
 have l4:=g2.len
 have l5:=ND.len
 rw [hbit] at w4
 generalize hB:num 256 k / 2 ^ i % 2 = B at *
 generalize w / 2 ^ (i % 8) = wv at *
 by_cases hB1:B = 1
 ·have hbq:((B:Int) == 1) = true:=by rw [hB1]; rfl
  rw [if_pos hB1]
  refine ⟨r2,r1,?_,g2,g1⟩
  simp only [ruI,ruH,Qe6,Z0,quiet,cF,↓pF,reduceCtorEq,Qb,Qp,Zi,Zf,Zg,Ze,Zc,Qj,Q3,Qi,Q2,Q6,Q5,↓Zo,↓Zn,↓Zw,↓Zz,↓Zx,↓Zy,cL,Qo,Qn,Qx,Qw,Qu,Ql,Qk,Qv,Qd,Qz,Q0,Qq,Qf,Qh,Qg,Qt,Qs,Qr,Qm,Qe,cJ,hwc,hb,w0,w2,w3,w4,e1,e3,m1,m2,hbq,Jy,Xs,Vm,Xt,J2,X2,lk,Xd,l1,l2,l3,l4,l5,Vl]
 ·have hbq:((B:Int) == 1) = false:=by
   have:B = 0:=by omega
   rw [this]; rfl
  rw [if_neg hB1]
  refine ⟨r2,o,?_,g2,ho⟩
  simp only [ruI,ruH,Qe6,Z0,quiet,cF,↓pF,reduceCtorEq,Qb,Qp,Zi,Zf,Zg,Ze,Zc,Qj,Q3,Qi,Q2,Q6,Q5,↓Zo,↓Zn,↓Zw,↓Zz,↓Zx,↓Zy,cL,Qo,Qn,Qx,Qw,Qu,Ql,Qk,Qv,Qd,Qz,Q0,Qq,Qf,Qh,Qg,Qt,Qs,Qr,Qm,Qe,cJ,hwc,hb,w0,w2,w3,w4,e1,e3,m1,m2,hbq,Jy,Xs,Vm,Xt,J2,X2,lk,Xd,l1,l2,l3,l4,l5,Vl]
theorem Qsu (p:Go.Cv.Pt Go.Fp.P Go.Fp.d):V9 1 p = p:=Go.Cv.mul_one Go.Fp.fld p
theorem Qjw (a b:Nat) (p:Go.Cv.Pt Go.Fp.P Go.Fp.d):V9 (a + b) p = W3 (V9 a p) (V9 b p):=Go.Cv.mul_add Go.Fp.fld a b p
theorem T5 {l k:List Nat} {p:Go.Cv.Pt Go.Fp.P Go.Fp.d} (hl:RP l p) (lk:k.length = 32) (xk:∀ x ∈ k,x < 256):∃ r,Vd T 23 [.agg (u8s k).toArray,eV l] = some (eV r) ∧ RP r (V9 (num 256 k) p):=by
 have hK:=num_lt xk
 rw [lk,show (256:Nat) ^ 32 = 2 ^ 256 from by rw [show (256:Nat) = 2 ^ 8 from rfl,← Yp]] at hK
 obtain ⟨z,hz,rz⟩:=Qzo
 obtain ⟨D,hD,ND,fD⟩:=Q5c
 obtain ⟨st,hb,P',r,rfl,hP',hr⟩:=Vi (T:=T) (base:=0) (id:=0) (body:=Qe6)
  (fun i st => ∃ (P o:List Nat) (ex:Env),st = ruI k P o D i ex ∧ RP P (V9 (2 ^ i) p) ∧ RP o (V9 (num 256 k % 2 ^ i) p))
  (Q:=fun st => ∃ P o:List Nat,st = ruI k P o D 256 [(13,.bool false)] ∧ P.length = 48 ∧ RP o (V9 (num 256 k) p))
  256 (s:=ruI k l z D 0 []) ⟨l,z,[],rfl,by rw [Ya,Qsu]; exact hl,by rw [Ya,Qos]; exact rz⟩
  (fun i st hi hs => by
   obtain ⟨P,o,ex,rfl,h1,h2⟩:=hs
   obtain ⟨P',o',g1,g2,g3⟩:=Qzq (ex:=ex) lk xk hi h1 h2 ND fD
   refine ⟨_,g1,P',o',[],rfl,?_,?_⟩
   ·rw [Kq,Nat.mul_two,Qjw]; exact g2
   ·have hm:num 256 k % 2 ^ (i + 1) = num 256 k % 2 ^ i + 2 ^ i * (num 256 k / 2 ^ i % 2):=Nat.mod_pow_succ
    have hlt:=Qao (num 256 k) i
    rw [hm]
    by_cases hB:num 256 k / 2 ^ i % 2 = 1
    ·rw [if_pos hB] at g3
     rw [hB,Xy,Qjw]; exact g3
    ·rw [if_neg hB] at g3
     rw [show num 256 k / 2 ^ i % 2 = 0 by omega,To,Jr]; exact g3)
  (fun st hs => by
   obtain ⟨P,o,ex,rfl,h1,h2⟩:=hs
   rw [Z3 hK] at h2
   refine ⟨_,?_,P,o,rfl,h1.len,h2⟩
   simp only [ruI,ruH,Qe6,Z0,quiet,cF,↓pF,reduceCtorEq,Qb,Qp,Zi,Zf,Zg,Ze,Zc,Qj,Q3,Qi,Q2,Q6,Q5,↓Zo,↓Zn,↓Zw,↓Zz,↓Zx,↓Zy,cL,Qo,Qn,Qx,Qw,Qu,Ql,Qk,Qv,Qd,Qz,Q0,Qq,Qf,Qh,Qg,Qt,Qs,Qr,Qm,Qe])
 refine ⟨r,?_,hr⟩
 have hz2:=Qd8
 have lz2:=Qas
 have l1:=hl.len
 have l2:=rz.len
 have l3:=ND.len
 have l4:=hr.len
 simp only [ruI,ruH,Zb,Za] at hb
 generalize B6 = Z48 at *
 apply Xg
 apply Zt
 rw [Jc (fn:=a38) rfl]
 simp only [a38,↓Zr,Z0,quiet,cF,↓pF,reduceCtorEq,Qb,Qp,Zi,Zf,Zg,Ze,Zc,Qj,Q3,Qi,Q2,Q6,Q5,↓Zu,↓Zm,↓Z5,↓Z9,↓Z6,↓Z7,cL,Qo,Qn,Qx,Qw,Qu,Ql,Qk,Qv,Qd,Qz,Q0,Qq,Qf,Qh,Qg,Qt,Qs,Qr,Qm,Qe,cJ,hz2,hz,hD,hb,Zd,Xd,Jy,Xs,Vm,Xt,J2,X2,lk,l1,l2,l3,l4,hP',lz2,Vl]
 rfl
theorem Qxc {l:List Nat} (hl:l.length = 32) (h:∀ x ∈ l,x < 256):l = dig 256 32 (num 256 l):=by
 have:=D1 (B:=256) (by decide) h
 rw [hl] at this
 exact this.symm
theorem Qzi {v:Nat} (hv:v < 2 ^ 255):∃ w,(dig 256 32 v)[31]? = some w ∧ w < 128 ∧ (dig 256 32 v).set 31 (w + 128) = dig 256 32 (v + 2 ^ 255):=by
 obtain ⟨w,hw⟩:∃ w,(dig 256 32 v)[31]? = some w:=⟨_,Q1 (by rw [Kc]; decide)⟩
 have hwv:w = v / 256 ^ 31 % 256:=by rw [Uz (by decide)] at hw; exact (G0 hw).symm
 have e31:(256:Nat) ^ 31 = 452312848583266388373324160190187140051835877600158453279131187530910662656:=by decide
 have e32:(256:Nat) ^ 32 = 115792089237316195423570985008687907853269984665640564039457584007913129639936:=by decide
 have e255:(2:Nat) ^ 255 = 57896044618658097711785492504343953926634992332820282019728792003956564819968:=by decide
 have hw128:w < 128:=by
  rw [e31] at hwv
  rw [e255] at hv
  omega
 refine ⟨w,hw,hw128,?_⟩
 have hlt:∀ x ∈ (dig 256 32 v).set 31 (w + 128),x < 256:=Da (fun x hx => Gs (by decide) hx) (by omega)
 refine (Qxc (by rw [Xe,Kc]) hlt).trans (congrArg (dig 256 32) ?_)
 have hs:=Gj (B:=256) (w + 128) hw
 have hn:num 256 (dig 256 32 v) = v:=by
  rw [U5 (by decide)]
  refine Z3 ?_
  rw [e32]
  rw [e255] at hv
  omega
 rw [hn,e31] at hs
 rw [e255]
 omega
theorem Qel {l:List Nat} {p:Go.Cv.Pt Go.Fp.P Go.Fp.d} (h:RP l p):Vd T 22 [eV l] = some (.agg (u8s (enc p)).toArray):=by
 obtain ⟨x,y,z,rfl,h⟩:=h
 obtain ⟨i,vi,Ni,fi⟩:=Qa0 h.nz
 obtain ⟨a,va,Na,fa⟩:=U4 h.ny Ni
 obtain ⟨b,vb,Nb,fb⟩:=U4 h.nx Ni
 have hinv:=Go.Fp.Qaf h.ne
 have fa':nf a = p.y:=by rw [fa,fi,h.y]; grobner
 have fb':nf b = p.x:=by rw [fb,fi,h.x]; grobner
 have k1:=Qcz Na
 have k2:=Qcz Nb
 rw [fa'] at k1
 rw [fb'] at k2
 obtain ⟨u0,u1,u2⟩:=tri h.nx.len h.ny.len h.nz.len
 have L1:=T0 h.nx.len h.ny.len h.nz.len
 have li:=Ni.len
 have lk:(dig 256 32 p.y.val).length = 32:=Kc _ _ _
 have lj:(dig 256 32 p.x.val).length = 32:=Kc _ _ _
 have lz:=Kc 256 32 0
 have hz:=Quk
 have h0:(dig 256 32 p.x.val)[0]? = some (p.x.val % 256):=by rw [Uz (by decide),Ya,Wi]
 have h0c:=Wo h0
 have e0:((p.x.val % 256:Nat):Int).tmod 2 = ((p.x.val % 2:Nat):Int):=by
  have:p.x.val % 256 % 2 = p.x.val % 2:=by omega
  rw [← this]; rfl
 obtain ⟨w,hw,hw',Qhn⟩:=Qzi (Qec p.y)
 have hwc:=Wo hw
 have hset:=U3 (dig 256 32 p.y.val) 31 (w + 128)
 rw [Qhn] at hset
 have wadd:IntKind.u8.wrap ((w:Int) + 128) = ((w + 128:Nat):Int):=w8n (n:=w + 128) (by omega)
 have lE:=Kc 256 32 (p.y.val + 2 ^ 255)
 generalize tL x y z = P1 at *
 generalize dig 256 32 0 = Z at *
 by_cases ho:p.x.val % 2 = 1
 ·have hbq:((p.x.val % 2:Nat):Int) == 1:=by rw [ho]; rfl
  have hbq':(((p.x.val % 2:Nat):Int) == 1) = true:=hbq
  have he:enc p = dig 256 32 (p.y.val + 2 ^ 255):=by rw [enc,Qcd,ho,Wm]
  rw [he]
  generalize dig 256 32 (p.y.val + 2 ^ 255) = E at *
  generalize dig 256 32 p.y.val = Y at *
  generalize dig 256 32 p.x.val = X at *
  generalize p.x.val % 2 = par at *
  generalize p.x.val % 256 = x0 at *
  apply Xg
  apply Zt
  rw [Jc (fn:=a33) rfl]
  simp only [a33,↓Zr,Z0,quiet,cF,↓pF,reduceCtorEq,Qb,Qp,Zi,Zf,Zg,Ze,Zc,Qj,Q3,Qi,Q2,Q6,Q5,↓Zu,↓Zm,↓Z5,↓Z9,↓Z6,↓Z7,cL,Qo,Qn,Qx,Qw,Qu,Ql,Qk,Qv,Qd,Qz,Q0,Qq,Qf,Qh,Qg,Qt,Qs,Qr,Qm,Qe,cJ,hz,u0,u1,u2,vi,va,vb,k1,k2,h0c,e0,hbq',hwc,wadd,hset,Zd,Xd,Jy,Xs,Vm,Xt,J2,X2,lk,lj,li,lz,lE,L1,Vl]
  rfl
 ·have hbq':(((p.x.val % 2:Nat):Int) == 1) = false:=by
   rw [show p.x.val % 2 = 0 by omega]; rfl
  have he:enc p = dig 256 32 p.y.val:=by rw [enc,Qcd,show p.x.val % 2 = 0 by omega,Xi,Jr]
  rw [he]
  generalize dig 256 32 p.y.val = Y at *
  generalize dig 256 32 p.x.val = X at *
  generalize p.x.val % 2 = par at *
  generalize p.x.val % 256 = x0 at *
  apply Xg
  apply Zt
  rw [Jc (fn:=a33) rfl]
  simp only [a33,↓Zr,Z0,quiet,cF,↓pF,reduceCtorEq,Qb,Qp,Zi,Zf,Zg,Ze,Zc,Qj,Q3,Qi,Q2,Q6,Q5,↓Zu,↓Zm,↓Z5,↓Z9,↓Z6,↓Z7,cL,Qo,Qn,Qx,Qw,Qu,Ql,Qk,Qv,Qd,Qz,Q0,Qq,Qf,Qh,Qg,Qt,Qs,Qr,Qm,Qe,cJ,hz,u0,u1,u2,vi,va,vb,k1,k2,h0c,e0,hbq',Zd,Xd,Jy,Xs,Vm,Xt,J2,X2,lk,lj,li,lz,L1,Vl]
  rfl
def hmI (n:List Nat) (i:Int) (c:Nat) (j:Int) (ex:Env):St:=⟨[(0,.pointer (some ⟨0,0,none⟩)),(1,.pointer (some ⟨1,0,none⟩)),(2,.int .i64 i),(3,.int .u64 c),(4,.int .i64 j)] ++ ex,[⟨ns .u64 Ys,true,true,true,1⟩,⟨ns .u64 n,true,true,true,1⟩],[]⟩
theorem Qxm {n:List Nat} {i:Int} (hn:Nm n) :
  Jl T 0 (.block 2 (.loop Qh1)) (hmI n i 0 15 []) = some (.normal,hmI (dig 65536 16 (num 65536 n / 2)) i (num 65536 n % 2) (-1) [(16,.bool false)]):=by
 have hD:Nm (dig 65536 16 (num 65536 n / 2)):=Nm.dig _
 obtain ⟨D,hDd⟩:∃ D,D = dig 65536 16 (num 65536 n / 2):=⟨_,rfl⟩
 rw [← hDd] at hD ⊢
 have hlt:=hn.num_lt
 obtain ⟨st,hb,rfl⟩:=Vi (T:=T) (base:=0) (id:=2) (body:=Qh1)
  (fun j st => st = hmI (n.take (16 - j) ++ D.drop (16 - j)) i (num 65536 n / 65536 ^ (16 - j) % 2) ((15:Int) - j) [])
  (Q:=fun st => st = hmI D i (num 65536 n % 2) (-1) [(16,.bool false)])
  16 (s:=hmI n i 0 15 []) (by
   rw [Xw,Zl (by rw [hn.len]; omega),Yb (by rw [hD.len]; omega),Kw,Wz hlt]; rfl)
  (fun j st hj hs => by
   subst hs
   obtain ⟨m,hm⟩:∃ m,16 - j = m + 1:=⟨15 - j,by omega⟩
   rw [hm,show (15:Int) - j = (m:Int) by omega,show 16 - (j + 1) = m by omega,show (15:Int) - ((j + 1:Nat):Int) = (m:Int) - 1 by omega]
   refine ⟨_,?_,rfl⟩
   obtain ⟨x,hx⟩:∃ x,n[m]? = some x:=⟨_,Q1 (by rw [hn.len]; omega)⟩
   have hx':=hn.lt x (Zk hx)
   have hxv:=Bv (B:=65536) (by decide) hn.lt hx
   obtain ⟨c,hc⟩:∃ c,c = num 65536 n / 65536 ^ (m + 1) % 2:=⟨_,rfl⟩
   rw [← hc]
   have hc2:num 65536 n / 65536 ^ m / 65536 % 2 = c:=by rw [hc,Kq,X9]
   have hxl:(n.take (m + 1) ++ D.drop (m + 1))[m]? = some x:=by
    rw [Qy (by rw [Js,hn.len]; omega),Ks,if_pos (by omega)]; exact hx
   have hdg:D[m]? = some ((x + c * 65536) / 2):=by
    rw [hDd,Uz (by omega)]
    congr 1
    rw [X9,K7 2,← X9]
    generalize num 65536 n / 65536 ^ m = q at *
    omega
   have hcn:num 65536 n / 65536 ^ m % 2 = (x + c * 65536) % 2:=by
    generalize num 65536 n / 65536 ^ m = q at *
    omega
   rw [hcn]
   have hstep:(n.take (m + 1) ++ D.drop (m + 1)).set m ((x + c * 65536) / 2) = n.take m ++ D.drop m:=by
    rw [Ro _ _ (by rw [Js,hn.len]; omega),Yf,hx]
    rw [Uk _ _ (by rw [Js]; omega)]
    have e:(n.take m).length = m:=by rw [Js,hn.len]; omega
    rw [e,Kv,Yr (i:=m),hdg]
    simp
   have hset:=Ux .u64 (n.take (m + 1) ++ D.drop (m + 1)) m ((x + c * 65536) / 2)
   rw [hstep] at hset
   have hlen:(n.take (m + 1) ++ D.drop (m + 1)).length = 16:=by rw [Z4,Js,Vs,hn.len,hD.len]; omega
   have hxc:=Yo (k := .u64) hxl
   have hcb:c < 2:=by rw [hc]; exact Jk _ (by decide)
   have w1:IntKind.i64.wrap ((m:Int) - 1) = (m:Int) - 1:=K9 (by omega) (by omega)
   have w2:IntKind.u64.wrap ((c:Int) * 65536) = ((c * 65536:Nat):Int):=R8 (b:=65536) (by omega)
   have w3:IntKind.u64.wrap ((x:Int) + ((c * 65536:Nat):Int)) = ((x + c * 65536:Nat):Int):=Dy (by omega)
   have w4:IntKind.u64.wrap (((x + c * 65536:Nat):Int).tdiv 2) = (((x + c * 65536) / 2:Nat):Int):=D9 (n:=(x + c * 65536) / 2) (by omega)
   have w5:((x + c * 65536:Nat):Int).tmod 2 = (((x + c * 65536) % 2:Nat):Int):=rfl
   have e1:((0:Int) ≤ (m:Int)) = True:=eq_true (by omega)
   have e2:((m:Int) < 16) = True:=eq_true (by omega)
   have e4:(m ≤ 15) = True:=eq_true (by omega)
   clear hc hc2 hcn hdg hstep
   generalize n.take (m + 1) ++ D.drop (m + 1) = A1 at *
   generalize n.take m ++ D.drop m = A2 at *
   generalize (x + c * 65536) / 2 = u at *
   generalize (x + c * 65536) % 2 = u2 at *
   generalize x + c * 65536 = v at *
   generalize c * 65536 = v2 at *
   simp only [hmI,Qh1,Z0,quiet,cF,↓pF,reduceCtorEq,Qb,Qp,Zi,Zf,Zg,Ze,Zc,Qj,Q3,Qi,Q2,Q6,Q5,↓Zo,↓Zn,↓Zw,↓Zz,↓Zx,↓Zy,cL,Qo,Qn,Qx,Qw,Qu,Ql,Qk,Qv,Qd,Qz,Q0,Qq,Qf,Qh,Qg,Qt,Qs,Qr,Qm,Qe,cJ,hxc,w1,w2,w3,w4,w5,e1,e2,e4,hset,J2,hlen])
  (fun st hs => by
   subst hs
   have e:((0:Int) ≤ -1) = False:=by decide
   refine ⟨_,?_,rfl⟩
   rw [show (15:Int) - ((16:Nat):Int) = -1 by omega,Kv,Q3,Q2,Za,Ya,Wi]
   simp only [hmI,Qh1,Z0,quiet,cF,↓pF,reduceCtorEq,Qb,Qp,Zi,Zf,Zg,Ze,Zc,Qj,Q3,Qi,Q2,Q6,Q5,↓Zo,↓Zn,↓Zw,↓Zz,↓Zx,↓Zy,cL,Qo,Qn,Qx,Qw,Qu,Ql,Qk,Qv,Qd,Qz,Q0,Qq,Qf,Qh,Qg,Qt,Qs,Qr,Qm,Qe,e])
 exact hb
def hmO (n:List Nat) (i:Int) (ex:Env):St:=⟨[(0,.pointer (some ⟨0,0,none⟩)),(1,.pointer (some ⟨1,0,none⟩)),(2,.int .i64 i)] ++ ex,[⟨ns .u64 Ys,true,true,true,1⟩,⟨ns .u64 n,true,true,true,1⟩],[]⟩
theorem Qxl {n:List Nat} (hn:Nm n) :
  Jl T 0 (.block 0 (.loop Qh0)) (hmO n 0 []) = some (.normal,hmO (dig 65536 16 (num 65536 n / 2 ^ 2)) 2 [(12,.bool false)]):=by
 obtain ⟨st,hb,rfl⟩:=Vi (T:=T) (base:=0) (id:=0) (body:=Qh0)
  (fun i st => ∃ ex,st = hmO (dig 65536 16 (num 65536 n / 2 ^ i)) i ex)
  (Q:=fun st => st = hmO (dig 65536 16 (num 65536 n / 2 ^ 2)) 2 [(12,.bool false)])
  2 (s:=hmO n 0 []) ⟨[],by rw [Ya,Wi,← hn.eq]; rfl⟩
  (fun i st hi hs => by
   obtain ⟨ex,rfl⟩:=hs
   have hN:=Nm.dig (num 65536 n / 2 ^ i)
   have hlt:num 65536 n / 2 ^ i < 2 ^ 256:=Wk (W9 _ _) hn.num_lt
   have hb:=Qxm (i:=(i:Int)) hN
   rw [Gz hlt,X9,← Kq] at hb
   simp only [hmI,Zb,Za,Xu] at hb
   have w1:IntKind.i64.wrap ((i:Int) + 1) = ((i + 1:Nat):Int):=Y0 (b:=1) (by omega)
   have e1:((i:Int) < 2) = True:=eq_true (by omega)
   refine ⟨_,?_,[],rfl⟩
   generalize dig 65536 16 (num 65536 n / 2 ^ i) = A at *
   generalize dig 65536 16 (num 65536 n / 2 ^ (i + 1)) = A' at *
   simp only [hmO,Qh0,Z0,quiet,cF,↓pF,reduceCtorEq,Qb,Qp,Zi,Zf,Zg,Ze,Zc,Qj,Q3,Qi,Q2,Q6,Q5,↓Zo,↓Zn,↓Zw,↓Zz,↓Zx,↓Zy,cL,Qo,Qn,Qx,Qw,Qu,Ql,Qk,Qv,Qd,Qz,Q0,Qq,Qf,Qh,Qg,Qt,Qs,Qr,Qm,Qe,cJ,hb,w1,e1])
  (fun st hs => by
   obtain ⟨ex,rfl⟩:=hs
   refine ⟨_,?_,rfl⟩
   generalize dig 65536 16 (num 65536 n / 2 ^ 2) = A at *
   simp only [hmO,Qh0,Z0,quiet,cF,↓pF,reduceCtorEq,Qb,Qp,Zi,Zf,Zg,Ze,Zc,Qj,Q3,Qi,Q2,Q6,Q5,↓Zo,↓Zn,↓Zw,↓Zz,↓Zx,↓Zy,cL,Qo,Qn,Qx,Qw,Qu,Ql,Qk,Qv,Qd,Qz,Q0,Qq,Qf,Qh,Qg,Qt,Qs,Qr,Qm,Qe,cJ])
 exact hb
def hrI (a n:List Nat) (i:Int) (c:Nat) (j:Int) (ex:Env):St:=⟨[(1,.pointer (some ⟨0,0,none⟩)),(2,.pointer (some ⟨1,0,none⟩)),(4,.pointer (some ⟨2,0,none⟩)),(5,.int .i64 i),(6,.int .u64 c),(7,.int .i64 j)] ++ ex,[⟨ns .u64 a,true,true,true,1⟩,⟨ns .u64 Ys,true,true,true,1⟩,⟨ns .u64 n,true,true,true,1⟩],[]⟩
theorem Qxk {a n:List Nat} {i:Int} (hn:Nm n) :
  Jl T 0 (.block 2 (.loop Qia)) (hrI a n i 0 15 []) = some (.normal,hrI a (dig 65536 16 (num 65536 n / 2)) i (num 65536 n % 2) (-1) [(20,.bool false)]):=by
 have hD:Nm (dig 65536 16 (num 65536 n / 2)):=Nm.dig _
 obtain ⟨D,hDd⟩:∃ D,D = dig 65536 16 (num 65536 n / 2):=⟨_,rfl⟩
 rw [← hDd] at hD ⊢
 have hlt:=hn.num_lt
 obtain ⟨st,hb,rfl⟩:=Vi (T:=T) (base:=0) (id:=2) (body:=Qia)
  (fun j st => st = hrI a (n.take (16 - j) ++ D.drop (16 - j)) i (num 65536 n / 65536 ^ (16 - j) % 2) ((15:Int) - j) [])
  (Q:=fun st => st = hrI a D i (num 65536 n % 2) (-1) [(20,.bool false)])
  16 (s:=hrI a n i 0 15 []) (by
   rw [Xw,Zl (by rw [hn.len]; omega),Yb (by rw [hD.len]; omega),Kw,Wz hlt]; rfl)
  (fun j st hj hs => by
   subst hs
   obtain ⟨m,hm⟩:∃ m,16 - j = m + 1:=⟨15 - j,by omega⟩
   rw [hm,show (15:Int) - j = (m:Int) by omega,show 16 - (j + 1) = m by omega,show (15:Int) - ((j + 1:Nat):Int) = (m:Int) - 1 by omega]
   refine ⟨_,?_,rfl⟩
   obtain ⟨x,hx⟩:∃ x,n[m]? = some x:=⟨_,Q1 (by rw [hn.len]; omega)⟩
   have hx':=hn.lt x (Zk hx)
   have hxv:=Bv (B:=65536) (by decide) hn.lt hx
   obtain ⟨c,hc⟩:∃ c,c = num 65536 n / 65536 ^ (m + 1) % 2:=⟨_,rfl⟩
   rw [← hc]
   have hc2:num 65536 n / 65536 ^ m / 65536 % 2 = c:=by rw [hc,Kq,X9]
   have hxl:(n.take (m + 1) ++ D.drop (m + 1))[m]? = some x:=by
    rw [Qy (by rw [Js,hn.len]; omega),Ks,if_pos (by omega)]; exact hx
   have hdg:D[m]? = some ((x + c * 65536) / 2):=by
    rw [hDd,Uz (by omega)]
    congr 1
    rw [X9,K7 2,← X9]
    generalize num 65536 n / 65536 ^ m = q at *
    omega
   have hcn:num 65536 n / 65536 ^ m % 2 = (x + c * 65536) % 2:=by
    generalize num 65536 n / 65536 ^ m = q at *
    omega
   rw [hcn]
   have hstep:(n.take (m + 1) ++ D.drop (m + 1)).set m ((x + c * 65536) / 2) = n.take m ++ D.drop m:=by
    rw [Ro _ _ (by rw [Js,hn.len]; omega),Yf,hx]
    rw [Uk _ _ (by rw [Js]; omega)]
    have e:(n.take m).length = m:=by rw [Js,hn.len]; omega
    rw [e,Kv,Yr (i:=m),hdg]
    simp
   have hset:=Ux .u64 (n.take (m + 1) ++ D.drop (m + 1)) m ((x + c * 65536) / 2)
   rw [hstep] at hset
   have hlen:(n.take (m + 1) ++ D.drop (m + 1)).length = 16:=by rw [Z4,Js,Vs,hn.len,hD.len]; omega
   have hxc:=Yo (k := .u64) hxl
   have hcb:c < 2:=by rw [hc]; exact Jk _ (by decide)
   have w1:IntKind.i64.wrap ((m:Int) - 1) = (m:Int) - 1:=K9 (by omega) (by omega)
   have w2:IntKind.u64.wrap ((c:Int) * 65536) = ((c * 65536:Nat):Int):=R8 (b:=65536) (by omega)
   have w3:IntKind.u64.wrap ((x:Int) + ((c * 65536:Nat):Int)) = ((x + c * 65536:Nat):Int):=Dy (by omega)
   have w4:IntKind.u64.wrap (((x + c * 65536:Nat):Int).tdiv 2) = (((x + c * 65536) / 2:Nat):Int):=D9 (n:=(x + c * 65536) / 2) (by omega)
   have w5:((x + c * 65536:Nat):Int).tmod 2 = (((x + c * 65536) % 2:Nat):Int):=rfl
   have e1:((0:Int) ≤ (m:Int)) = True:=eq_true (by omega)
   have e2:((m:Int) < 16) = True:=eq_true (by omega)
   have e4:(m ≤ 15) = True:=eq_true (by omega)
   clear hc hc2 hcn hdg hstep
   generalize n.take (m + 1) ++ D.drop (m + 1) = A1 at *
   generalize n.take m ++ D.drop m = A2 at *
   generalize (x + c * 65536) / 2 = u at *
   generalize (x + c * 65536) % 2 = u2 at *
   generalize x + c * 65536 = v at *
   generalize c * 65536 = v2 at *
   simp only [hrI,Qia,Z0,quiet,cF,↓pF,reduceCtorEq,Qb,Qp,Zi,Zf,Zg,Ze,Zc,Qj,Q3,Qi,Q2,Q6,Q5,↓Zo,↓Zn,↓Zw,↓Zz,↓Zx,↓Zy,cL,Qo,Qn,Qx,Qw,Qu,Ql,Qk,Qv,Qd,Qz,Q0,Qq,Qf,Qh,Qg,Qt,Qs,Qr,Qm,Qe,cJ,hxc,w1,w2,w3,w4,w5,e1,e2,e4,hset,J2,hlen])
  (fun st hs => by
   subst hs
   have e:((0:Int) ≤ -1) = False:=by decide
   refine ⟨_,?_,rfl⟩
   rw [show (15:Int) - ((16:Nat):Int) = -1 by omega,Kv,Q3,Q2,Za,Ya,Wi]
   simp only [hrI,Qia,Z0,quiet,cF,↓pF,reduceCtorEq,Qb,Qp,Zi,Zf,Zg,Ze,Zc,Qj,Q3,Qi,Q2,Q6,Q5,↓Zo,↓Zn,↓Zw,↓Zz,↓Zx,↓Zy,cL,Qo,Qn,Qx,Qw,Qu,Ql,Qk,Qv,Qd,Qz,Q0,Qq,Qf,Qh,Qg,Qt,Qs,Qr,Qm,Qe,e])
 exact hb
def hrO (a n:List Nat) (i:Int) (ex:Env):St:=⟨[(1,.pointer (some ⟨0,0,none⟩)),(2,.pointer (some ⟨1,0,none⟩)),(4,.pointer (some ⟨2,0,none⟩)),(5,.int .i64 i)] ++ ex,[⟨ns .u64 a,true,true,true,1⟩,⟨ns .u64 Ys,true,true,true,1⟩,⟨ns .u64 n,true,true,true,1⟩],[]⟩
theorem Qxj {a n:List Nat} (hn:Nm n) :
  Jl T 0 (.block 0 (.loop Qh9)) (hrO a n 0 []) = some (.normal,hrO a (dig 65536 16 (num 65536 n / 2 ^ 3)) 3 [(16,.bool false)]):=by
 obtain ⟨st,hb,rfl⟩:=Vi (T:=T) (base:=0) (id:=0) (body:=Qh9)
  (fun i st => ∃ ex,st = hrO a (dig 65536 16 (num 65536 n / 2 ^ i)) i ex)
  (Q:=fun st => st = hrO a (dig 65536 16 (num 65536 n / 2 ^ 3)) 3 [(16,.bool false)])
  3 (s:=hrO a n 0 []) ⟨[],by rw [Ya,Wi,← hn.eq]; rfl⟩
  (fun i st hi hs => by
   obtain ⟨ex,rfl⟩:=hs
   have hN:=Nm.dig (num 65536 n / 2 ^ i)
   have hlt:num 65536 n / 2 ^ i < 2 ^ 256:=Wk (W9 _ _) hn.num_lt
   have hb:=Qxk (a:=a) (i:=(i:Int)) hN
   rw [Gz hlt,X9,← Kq] at hb
   simp only [hrI,Zb,Za,Xu] at hb
   have w1:IntKind.i64.wrap ((i:Int) + 1) = ((i + 1:Nat):Int):=Y0 (b:=1) (by omega)
   have e1:((i:Int) < 3) = True:=eq_true (by omega)
   refine ⟨_,?_,[],rfl⟩
   generalize dig 65536 16 (num 65536 n / 2 ^ i) = A at *
   generalize dig 65536 16 (num 65536 n / 2 ^ (i + 1)) = A' at *
   simp only [hrO,Qh9,Z0,quiet,cF,↓pF,reduceCtorEq,Qb,Qp,Zi,Zf,Zg,Ze,Zc,Qj,Q3,Qi,Q2,Q6,Q5,↓Zo,↓Zn,↓Zw,↓Zz,↓Zx,↓Zy,cL,Qo,Qn,Qx,Qw,Qu,Ql,Qk,Qv,Qd,Qz,Q0,Qq,Qf,Qh,Qg,Qt,Qs,Qr,Qm,Qe,cJ,hb,w1,e1])
  (fun st hs => by
   obtain ⟨ex,rfl⟩:=hs
   refine ⟨_,?_,rfl⟩
   generalize dig 65536 16 (num 65536 n / 2 ^ 3) = A at *
   simp only [hrO,Qh9,Z0,quiet,cF,↓pF,reduceCtorEq,Qb,Qp,Zi,Zf,Zg,Ze,Zc,Qj,Q3,Qi,Q2,Q6,Q5,↓Zo,↓Zn,↓Zw,↓Zz,↓Zx,↓Zy,cL,Qo,Qn,Qx,Qw,Qu,Ql,Qk,Qv,Qd,Qz,Q0,Qq,Qf,Qh,Qg,Qt,Qs,Qr,Qm,Qe,cJ])
 exact hb
def Qgy:List Nat:=dig 65536 16 (Go.Fp.P - 1)
def Qeo:List Nat:=dig 65536 16 (Go.Fp.P + 3)
theorem Qjt:Nm Qgy:=Nm.dig _
theorem Qjs:Nm Qeo:=Nm.dig _
theorem Qjr:By[0]? = some 65517:=by decide +kernel
theorem Qpo:(ns .u64 By).set 0 (.int .u64 65516) = ns .u64 Qgy:=by
 have h:By.set 0 65516 = Qgy:=by decide +kernel
 have:=Ux .u64 By 0 65516
 rw [h] at this; exact this
theorem Qpn:(ns .u64 By).set 0 (.int .u64 65520) = ns .u64 Qeo:=by
 have h:By.set 0 65520 = Qeo:=by decide +kernel
 have:=Ux .u64 By 0 65520
 rw [h] at this; exact this
theorem Q4c:nf (Wr 2) = Go.Fp.fp 2:=by unfold nf; rw [Gl (by decide)]
theorem Qxn:Go.Fp.pow (Go.Fp.fp 2) ((Go.Fp.P - 1) / 2) = Go.Fp.fp (Go.Fp.P - 1):=Go.Fp.Qgz (f:=256) (by decide +kernel) (by decide +kernel)
theorem fp_m1:Go.Fp.fp (Go.Fp.P - 1) = -1:=by decide +kernel
theorem Qm0:(Go.Fp.P - 1) / 2 = (Go.Fp.P - 1) / 4 + (Go.Fp.P - 1) / 4:=by decide +kernel
theorem Qmt:∃ r,Vd T 97 [] = some (eV r) ∧ Nm r ∧ nf r * nf r = -1:=by
 have hp:=T3
 have h2:=Ho 2 (by decide)
 have ho:=Qxl Qjt
 have hn:num 65536 Qgy / 2 ^ 2 = (Go.Fp.P - 1) / 4:=by decide +kernel
 rw [hn] at ho
 have hE:=Nm.dig ((Go.Fp.P - 1) / 4)
 have hEn:=Gz (v:=(Go.Fp.P - 1) / 4) (by decide +kernel)
 obtain ⟨r,hr,r1,r2⟩:=Qgp (Bm 2) hE
 rw [hEn,Q4c] at r2
 refine ⟨r,?_,r1,by rw [r2,← Go.Fp.pow_add,← Qm0,Qxn,fp_m1]⟩
 have g0:=Yo (k := .u64) Qjr
 have s0:=Qpo
 have lp:=Hd.len
 have lm:=Qjt.len
 have ls:=(Bm 2).len
 have lE:=hE.len
 have lr:=r1.len
 have hz:=Gf
 have lz:=Bi
 have w1:IntKind.u64.wrap 65516 = 65516:=by decide
 simp only [Ww] at h2 g0
 simp only [hmO,Zb,Za,Xu] at ho
 generalize By = PL at *
 generalize Qgy = PM at *
 generalize Wr 2 = S at *
 generalize dig 65536 16 ((Go.Fp.P - 1) / 4) = E at *
 generalize Ys = Z at *
 apply Xg
 apply Zt
 rw [Jc (fn:=a89) rfl]
 simp only [a89,↓Zr,Z0,quiet,cF,↓pF,reduceCtorEq,Qb,Qp,Zi,Zf,Zg,Ze,Zc,Qj,Q3,Qi,Q2,Q6,Q5,↓Zu,↓Zm,↓Z5,↓Z9,↓Z6,↓Z7,cL,Qo,Qn,Qx,Qw,Qu,Ql,Qk,Qv,Qd,Qz,Q0,Qq,Qf,Qh,Qg,Qt,Qs,Qr,Qm,Qe,cJ,hz,hp,h2,g0,w1,s0,ho,hr,Zd,Xd,Jy,Xs,Vm,Xt,J2,lp,lm,ls,lE,lr,lz,Vl]
 rfl
theorem Qki (a b:List Nat):(dig 65536 16 (num 65536 a % Go.Fp.P) == dig 65536 16 (num 65536 b % Go.Fp.P)) = decide (nf a = nf b):=by
 have h1:=Jk (num 65536 a) Qiy
 have h2:=Jk (num 65536 b) Qiy
 have h3:=Qon
 rw [Qn6 (by omega) (by omega)]
 by_cases h:nf a = nf b
 ·rw [decide_eq_true h,decide_eq_true (Go.Fp.Qbt.1 h)]
 ·rw [decide_eq_false h,decide_eq_false (fun e => h (Go.Fp.Qbt.2 e))]
theorem Qoc (a:List Nat):nf (dig 65536 16 (num 65536 a % Go.Fp.P)) = nf a:=by
 have h1:=Jk (num 65536 a) Qiy
 have h3:=Qon
 unfold nf
 rw [Gz (by omega),Go.Fp.Hs]
theorem Qwh:(Go.Fp.P + 3) / 8 + (Go.Fp.P + 3) / 8 = (Go.Fp.P - 1) / 4 + 1:=by decide +kernel
theorem Qqi (a:Go.Fp.Fe) : -1 * a = -a:=by grobner
theorem Qho (a:Go.Fp.Fe):1 * a = a:=by grobner
theorem Q1t (x m:Go.Fp.Fe):x * m * (x * m) = x * x * (m * m):=by grobner
theorem Qty (a:Go.Fp.Fe) : -a * -1 = a:=by grobner
theorem Qn4 {a s:Go.Fp.Fe} (h:s * s = a):Go.Fp.pow a ((Go.Fp.P + 3) / 8) * Go.Fp.pow a ((Go.Fp.P + 3) / 8) = a ∨ Go.Fp.pow a ((Go.Fp.P + 3) / 8) * Go.Fp.pow a ((Go.Fp.P + 3) / 8) = -a:=by
 have e:Go.Fp.pow a ((Go.Fp.P + 3) / 8) * Go.Fp.pow a ((Go.Fp.P + 3) / 8) = Go.Fp.pow a ((Go.Fp.P - 1) / 4) * a:=by
  rw [← Go.Fp.pow_add,Qwh,Go.Fp.pow]
 rcases Go.Fp.Qg0 s with h1 | h1
 ·rw [h,Qm0,Go.Fp.pow_add] at h1
  have h2:Go.Fp.pow a ((Go.Fp.P - 1) / 4) * Go.Fp.pow a ((Go.Fp.P - 1) / 4) = 1 * 1:=by rw [h1]; exact (Qho 1).symm
  rw [e]
  rcases Qq6 h2 with h3 | h3
  ·left; rw [h3,Qho]
  ·right; rw [h3,Qqi]
 ·have ha:a = 0:=by rw [← h,h1]; grobner
  left
  rw [e,ha]; grobner
theorem Qzt {a:List Nat} (ha:Nm a):∃ r ok,Vd T 71 [eV a] = some (.tuple #[eV r,.bool ok]) ∧ Nm r ∧ num 65536 r < Go.Fp.P ∧ (ok = true → nf r * nf r = nf a) ∧ (ok = false → ∀ x:Go.Fp.Fe,x * x ≠ nf a):=by
 have hp:=T3
 have ho:=Qxj (a:=a) Qjs
 have hn:num 65536 Qeo / 2 ^ 3 = (Go.Fp.P + 3) / 8:=by decide +kernel
 rw [hn] at ho
 have hE:=Nm.dig ((Go.Fp.P + 3) / 8)
 have hEn:=Gz (v:=(Go.Fp.P + 3) / 8) (by decide +kernel)
 obtain ⟨x,hx,x1,x2⟩:=Qgp ha hE
 rw [hEn] at x2
 obtain ⟨q,hq,q1,q2⟩:=U4 x1 x1
 obtain ⟨m,hm,m1,m2⟩:=Qmt
 obtain ⟨y,hy,y1,y2⟩:=U4 x1 m1
 obtain ⟨t,ht,t1,t2⟩:=U4 y1 y1
 have cq:=Mf q1
 have ca:=Mf ha
 have cx:=Mf x1
 have cy:=Mf y1
 have ct:=Mf t1
 have b1:=Qki q a
 have b2:=Qki t a
 have nq:=Nm.dig (num 65536 q % Go.Fp.P)
 have na:=Nm.dig (num 65536 a % Go.Fp.P)
 have nx:=Nm.dig (num 65536 x % Go.Fp.P)
 have ny:=Nm.dig (num 65536 y % Go.Fp.P)
 have nt:=Nm.dig (num 65536 t % Go.Fp.P)
 have v1:=Qzf nq.len na.len
 have v2:=Qkp nq.len na.len
 have v3:=Qkp nt.len na.len
 rw [b1] at v1 v2
 rw [b2] at v3
 have g0:=Yo (k := .u64) Qjr
 have s0:=Qpn
 have lp:=Hd.len
 have lm:=Qjs.len
 have lE:=hE.len
 have la:=ha.len
 have lx:=x1.len
 have ly:=y1.len
 have lq:=nx.len
 have ly2:=ny.len
 have hz:=Gf
 have lz:=Bi
 have w1:IntKind.u64.wrap 65520 = 65520:=by decide
 have rft:∀ (r:List Nat) (c:Bool),rf (Value.tuple #[eV r,.bool c]) = true:=fun r c => Ta (a:=eV r) (b := .bool c) (Vl r) rfl
 simp only [Ww] at g0
 simp only [hrO,Zb,Za,Xu] at ho
 have hPl:=Qon
 have ltx:num 65536 (dig 65536 16 (num 65536 x % Go.Fp.P)) < Go.Fp.P:=by
  have:=Jk (num 65536 x) Qiy
  rw [Gz (by omega)]; exact this
 have lty:num 65536 (dig 65536 16 (num 65536 y % Go.Fp.P)) < Go.Fp.P:=by
  have:=Jk (num 65536 y) Qiy
  rw [Gz (by omega)]; exact this
 have fx:=Qoc x
 have fy:=Qoc y
 by_cases h:nf q = nf a
 ·rw [decide_eq_true h] at v1 v2
  refine ⟨dig 65536 16 (num 65536 x % Go.Fp.P),true,?_,nx,ltx,fun _ => by rw [fx,← q2,h],fun h => absurd h (by decide)⟩
  generalize dig 65536 16 (num 65536 q % Go.Fp.P) = CQ at *
  generalize dig 65536 16 (num 65536 a % Go.Fp.P) = CA at *
  generalize dig 65536 16 (num 65536 x % Go.Fp.P) = CX at *
  generalize By = PL at *
  generalize Qeo = PM at *
  generalize dig 65536 16 ((Go.Fp.P + 3) / 8) = E at *
  generalize Ys = Z at *
  apply Xg
  apply Zt
  rw [Jc (fn:=a68) rfl]
  simp only [a68,↓Zr,Z0,quiet,cF,↓pF,reduceCtorEq,Qb,Qp,Zi,Zf,Zg,Ze,Zc,Qj,Q3,Qi,Q2,Q6,Q5,↓Zu,↓Zm,↓Z5,↓Z9,↓Z6,↓Z7,cL,Qo,Qn,Qx,Qw,Qu,Ql,Qk,Qv,Qd,Qz,Q0,Qq,Qf,Qh,Qg,Qt,Qs,Qr,Qm,Qe,cJ,hz,hp,g0,w1,s0,ho,hx,hq,cq,ca,cx,v1,v2,Zd,Xd,Jy,Xs,Vm,Xt,J2,lp,lm,lE,la,lx,lq,lz,rft,Vl]
  rfl
 ·rw [decide_eq_false h] at v1 v2
  refine ⟨dig 65536 16 (num 65536 y % Go.Fp.P),decide (nf t = nf a),?_,ny,lty,?_,?_⟩
  ·generalize decide (nf t = nf a) = ok at *
   generalize dig 65536 16 (num 65536 q % Go.Fp.P) = CQ at *
   generalize dig 65536 16 (num 65536 a % Go.Fp.P) = CA at *
   generalize dig 65536 16 (num 65536 y % Go.Fp.P) = CY at *
   generalize dig 65536 16 (num 65536 t % Go.Fp.P) = CT at *
   generalize By = PL at *
   generalize Qeo = PM at *
   generalize dig 65536 16 ((Go.Fp.P + 3) / 8) = E at *
   generalize Ys = Z at *
   apply Xg
   apply Zt
   rw [Jc (fn:=a68) rfl]
   simp only [a68,↓Zr,Z0,quiet,cF,↓pF,reduceCtorEq,Qb,Qp,Zi,Zf,Zg,Ze,Zc,Qj,Q3,Qi,Q2,Q6,Q5,↓Zu,↓Zm,↓Z5,↓Z9,↓Z6,↓Z7,cL,Qo,Qn,Qx,Qw,Qu,Ql,Qk,Qv,Qd,Qz,Q0,Qq,Qf,Qh,Qg,Qt,Qs,Qr,Qm,Qe,cJ,hz,hp,g0,w1,s0,ho,hx,hq,hm,hy,ht,cq,ca,cy,ct,v1,v3,Zd,Xd,Jy,Xs,Vm,Xt,J2,lp,lm,lE,la,lx,ly,ly2,lz,rft,Vl]
   rfl
  ·intro ht'
   rw [fy,← t2]
   exact of_decide_eq_true ht'
  ·intro ht' s hs
   have ht'':=of_decide_eq_false ht'
   rcases Qn4 hs with h1 | h1
   ·exact h (by rw [q2,x2,h1])
   ·apply ht''
    rw [t2,y2,Q1t,m2,x2,h1,Qty]
end Go.Ev.YtgacigcbglflkaaGreat
set_option linter.unusedSimpArgs false
set_option linter.unusedVariables false
namespace Go.Ev.YtgacigcbglflkaaGreat
open Go Go.Ev
attribute [local congr] W7 Ul W6 Um Wv
set_option maxRecDepth 100000
theorem Qze {k l:List Nat} (lk:k.length = 32) (ll:l.length = 32):vEq (some (Qa 32 true)) true (.agg (u8s k).toArray) (.agg (u8s l).toArray) = some (.bool (!(k == l))):=by
 rw [Qcp,Ga lk ll]
 rfl
theorem Quj:fillL (ns .u64 B6) [] = some (ns .u64 B6):=rfl
theorem Q5t {r:List Nat} (h:num 65536 r < Go.Fp.P):(nf r).val = num 65536 r:=Z3 h
theorem Qhp (a:Go.Fp.Fe):a * 1 = a:=by grobner
theorem Qx9 (a:Go.Fp.Fe) : -a * -a = a * a:=by grobner
theorem Qtk {u v:Go.Fp.Fe} (hv:v ≠ 0) {x:Go.Fp.Fe} (h:x * x = u * Go.Fp.iv v):v * (x * x) = u:=by
 have:=Go.Fp.Qaf hv
 rw [h]
 generalize Go.Fp.iv v = w at *
 clear h hv
 grobner
theorem Q1g {u v:Go.Fp.Fe} (hv:v ≠ 0) {x:Go.Fp.Fe} (h:v * (x * x) = u):x * x = u * Go.Fp.iv v:=by
 have:=Go.Fp.Qaf hv
 rw [← h]
 generalize Go.Fp.iv v = w at *
 clear h hv
 grobner
theorem Qem {k:List Nat} (lk:k.length = 32) (xk:∀ x ∈ k,x < 256) :
  (∃ l p,Vd T 31 [.agg (u8s k).toArray] = some (Rm l 0) ∧ RP l p ∧ enc p = k) ∨ (∃ l,Vd T 31 [.agg (u8s k).toArray] = some (Rm l 60) ∧ l.length = 48 ∧ ∀ p,enc p ≠ k):=by
 obtain ⟨w,hw,hw',ht,hm,xm,lm⟩:=Qrt lk xk
 have ha:w &&& 127 = w % 128:=Mu w 7
 rw [ha] at hm xm lm
 have hwc:=Wo hw
 have hset:=U3 k 31 (w % 128)
 have hrem:(w:Int).tmod 128 = ((w % 128:Nat):Int):=rfl
 have hof:=rof_v lm xm
 rw [hm] at hof
 rw [Hh] at hof
 have hkey:∀ p:Go.Cv.Pt Go.Fp.P Go.Fp.d,enc p = k ↔ p.y.val = num 256 k % 2 ^ 255 ∧ p.x.val % 2 = num 256 k / 2 ^ 255:=fun p => by rw [Qr0 lk xk,Qke]
 rw [← ht] at hkey
 have hVlt:num 256 k % 2 ^ 255 < 2 ^ 255:=Jk _ (by decide)
 have hkm:=Qxc lm xm
 rw [hm] at hkm
 generalize k.set 31 (w % 128) = km at *
 generalize num 256 k % 2 ^ 255 = V at *
 have NY:=Nm.dig V
 have hYn:=Gz (v:=V) (Uc hVlt (by decide))
 have fy:nf (dig 65536 16 V) = Go.Fp.fp V:=by unfold nf; rw [hYn]
 have hby:=Qcz NY
 rw [fy] at hby
 have lB:=Kc 256 32 (Go.Fp.fp V).val
 have heq:=Qze lB lm
 have hbk:(dig 256 32 (Go.Fp.fp V).val == km) = decide (V < Go.Fp.P):=by
  rw [hkm,key_inj (Uc (Go.Fp.fp V).isLt (by decide)) (Uc hVlt (by decide))]
  by_cases h:V < Go.Fp.P
  ·rw [decide_eq_true h,decide_eq_true (show (Go.Fp.fp V).val = V from Z3 h)]
  ·have:¬ (Go.Fp.fp V).val = V:=fun e => h (by rw [← e]; exact (Go.Fp.fp V).isLt)
   rw [decide_eq_false h,decide_eq_false this]
 rw [hbk] at heq
 have hz:=Gf
 have lz:=Bi
 have hf:=Rs
 have hz2:=Qd8
 have lz2:=Qas
 have hf2:=Quj
 have lY:=NY.len
 have hge:decide ((128:Int) ≤ (w:Int)) = decide (w / 128 = 1):=by
  by_cases h:w / 128 = 1
  ·rw [decide_eq_true h,decide_eq_true (by omega)]
  ·rw [decide_eq_false h,decide_eq_false (by omega)]
 generalize dig 65536 16 V = Y at *
 generalize dig 256 32 (Go.Fp.fp V).val = BY at *
 clear hbk hkm
 by_cases hV:V < Go.Fp.P
 ·rw [decide_eq_true hV] at heq
  have hYv:(Go.Fp.fp V).val = V:=Z3 hV
  have s1:=Ho 1 (by decide)
  have N1:=Bm 1
  have f1:=Qky
  have l1:=N1.len
  simp only [B0] at s1
  obtain ⟨yy,hyy,Nyy,fyy⟩:=U4 NY NY
  obtain ⟨D,hD,ND,fD⟩:=Q5c
  obtain ⟨uu,huu,Nuu,fuu⟩:=Qkx Nyy N1
  obtain ⟨dy,hdy,Ndy,fdy⟩:=U4 ND Nyy
  obtain ⟨vv,hvv,Nvv,fvv⟩:=Qen Ndy N1
  obtain ⟨iw,hiw,Niw,fiw⟩:=Qa0 Nvv
  obtain ⟨aa,haa,Naa,faa⟩:=U4 Nuu Niw
  obtain ⟨r,ok,hr,Nr,ltr,hok,hno⟩:=Qzt Naa
  obtain ⟨nr,hnr,Nnr,fnr⟩:=Qpd Nr
  have hu:nf uu = Go.Fp.fp V * Go.Fp.fp V - 1:=by rw [fuu,fyy,fy,f1]
  have hv:nf vv = Go.Fp.d * (Go.Fp.fp V * Go.Fp.fp V) + 1:=by rw [fvv,fdy,fD,fyy,fy,f1]
  have hvn:nf vv ≠ 0:=by rw [hv]; exact Qql _
  have hyp:∀ p:Go.Cv.Pt Go.Fp.P Go.Fp.d,enc p = k → p.y = Go.Fp.fp V:=fun p hp => Fin.ext (by rw [hYv]; exact ((hkey p).1 hp).1)
  have hxx:∀ p:Go.Cv.Pt Go.Fp.P Go.Fp.d,enc p = k → p.x * p.x = nf aa:=fun p hp => by
   have:=Qy4 p
   rw [hyp p hp] at this
   rw [faa,fiw]
   exact Q1g hvn (by rw [hu,hv]; exact this)
  have rft:∀ b:Bool,rf (Value.tuple #[eV r,.bool b]) = true:=fun b => Ta (a:=eV r) (b := .bool b) (Vl r) rfl
  have lyy:=Nyy.len
  have lr:=Nr.len
  have lnr:=Nnr.len
  have hq0:=Qkp lr lz
  have hq0':(r == Ys) = decide (nf r = 0):=by
   by_cases h:nf r = 0
   ·have h2:=Qad.1 h
    rw [Z3 ltr] at h2
    have:r = Ys:=Nr.inj Qd7 (by rw [h2,Qby])
    rw [decide_eq_true h,this]; simp
   ·have:¬ r = Ys:=fun e => h (by rw [e]; unfold nf; rw [Qby]; rfl)
    rw [decide_eq_false h,beq_eq_false_iff_ne.2 this]
  rw [hq0'] at hq0
  obtain ⟨r0,hr0⟩:∃ r0,r[0]? = some r0:=⟨_,Q1 (by rw [lr]; decide)⟩
  have hr0c:=Yo (k := .u64) hr0
  have hr0v:=Bv (B:=65536) (by decide) Nr.lt hr0
  rw [Ya,Wi] at hr0v
  have hpar:r0 % 2 = (nf r).val % 2:=by rw [Q5t ltr,← hr0v]; omega
  have hr2:(r0:Int).tmod 2 = (((nf r).val % 2:Nat):Int):=by rw [← hpar]; rfl
  generalize Ys = Z at *
  obtain ⟨Z48,hz48⟩:∃ Z,B6 = Z:=⟨_,rfl⟩
  rw [hz48] at hz2 lz2 hf2
  cases ok with
  | false =>
   refine .inr ⟨Z48,?_,lz2,fun p hp => hno rfl p.x (hxx p hp)⟩
   generalize Wr 1 = S1 at *
   apply Xg
   apply Zt
   rw [Jc (fn:=a32) rfl]
   simp only [a32,↓Zr,Z0,quiet,cF,↓pF,reduceCtorEq,Qb,Qp,Zi,Zf,Zg,Ze,Zc,Qj,Q3,Qi,Q2,Q6,Q5,↓Zu,↓Zm,↓Z5,↓Z9,↓Z6,↓Z7,cL,Qo,Qn,Qx,Qw,Qu,Ql,Qk,Qv,Qd,Qz,Q0,Qq,Qf,Qh,Qg,Qt,Qs,Qr,Qm,Qe,cJ,Rm,hz,hf,hz2,hf2,hwc,hset,hrem,hge,hof,hby,heq,s1,hyy,hD,huu,hdy,hvv,hiw,haa,hr,Zd,Xd,Jy,Xs,Vm,Xt,J2,X2,lk,lm,lz,lz2,lY,l1,lyy,lr,lB,rft,Vl]
   rfl
  | true =>
   have hroot:=hok rfl
   rw [faa,fiw] at hroot
   have hroot1:=Qtk hvn hroot
   have h255:(nf r).val % 2 < 2:=Jk _ (by decide)
   have hbq:((((nf r).val % 2:Nat):Int) == 1) = decide ((nf r).val % 2 = 1):=by
    by_cases h:(nf r).val % 2 = 1
    ·rw [h]; rfl
    ·rw [show (nf r).val % 2 = 0 by omega]; rfl
   have bft:(false == true) = false:=rfl
   have btf:(true == false) = false:=rfl
   have fin:∀ X:List Nat,Nm X → nf X * nf X = nf r * nf r → (nf X).val % 2 = w / 128 → ∃ p,RP (tL X Y (Wr 1)) p ∧ enc p = k:=fun X NX hX hp =>
    ⟨⟨nf X,Go.Fp.fp V,Qwn hu hv (by rw [hX]; exact hroot1)⟩,⟨X,Y,_,rfl,NX,NY,N1,by rw [f1]; exact Go.Fp.Rk,by rw [f1]; exact (Qhp _).symm,by rw [f1,fy]; exact (Qhp _).symm⟩,(hkey _).2 ⟨hYv,hp⟩⟩
   have hfr:=Qx8 lr lY l1
   have hfn:=Qx8 lnr lY l1
   have lTr:=T0 lr lY l1
   have lTn:=T0 lnr lY l1
   rw [hz48] at hfr hfn
   have hneg:nf nr * nf nr = nf r * nf r:=by rw [fnr]; exact Qx9 _
   have hnpar:nf r ≠ 0 → (nf nr).val % 2 ≠ (nf r).val % 2:=fun h => by rw [fnr]; exact Qk7 h
   have hnl:=Jk (nf nr).val (by decide:0 < 2)
   have hw2:w / 128 < 2:=by omega
   by_cases hb:w / 128 = 1
   ·rw [decide_eq_true hb] at hge
    by_cases h0:nf r = 0
    ·rw [decide_eq_true h0] at hq0
     refine .inr ⟨Z48,?_,lz2,fun p hp => ?_⟩
     ·generalize Wr 1 = S1 at *
      apply Xg
      apply Zt
      rw [Jc (fn:=a32) rfl]
      simp only [a32,↓Zr,Z0,quiet,cF,↓pF,reduceCtorEq,Qb,Qp,Zi,Zf,Zg,Ze,Zc,Qj,Q3,Qi,Q2,Q6,Q5,↓Zu,↓Zm,↓Z5,↓Z9,↓Z6,↓Z7,cL,Qo,Qn,Qx,Qw,Qu,Ql,Qk,Qv,Qd,Qz,Q0,Qq,Qf,Qh,Qg,Qt,Qs,Qr,Qm,Qe,cJ,Rm,hz,hf,hz2,hf2,hwc,hset,hrem,hge,hof,hby,heq,s1,hyy,hD,huu,hdy,hvv,hiw,haa,hr,hq0, Zd,Xd,Jy,Xs,Vm,Xt,J2,X2,lk,lm,lz,lz2,lY,l1,lyy,lr,lnr,lB, rft,Vl]
      rfl
     ·have h2:=((hkey p).1 hp).2
      have h3:=hxx p hp
      rw [faa,fiw,← hroot,h0] at h3
      rcases Qq6 h3 with h5 | h5
      ·rw [h5,hb] at h2; exact absurd h2 (by decide)
      ·rw [h5,hb] at h2; exact absurd h2 (by decide)
    ·rw [decide_eq_false h0] at hq0
     by_cases hp1:(nf r).val % 2 = 1
     ·rw [decide_eq_true hp1] at hbq
      obtain ⟨p,rp,he⟩:=fin r Nr rfl (by rw [hb]; exact hp1)
      refine .inl ⟨_,p,?_,rp,he⟩
      generalize tL r Y (Wr 1) = R at *
      generalize Wr 1 = S1 at *
      apply Xg
      apply Zt
      rw [Jc (fn:=a32) rfl]
      simp only [a32,↓Zr,Z0,quiet,cF,↓pF,reduceCtorEq,Qb,Qp,Zi,Zf,Zg,Ze,Zc,Qj,Q3,Qi,Q2,Q6,Q5,↓Zu,↓Zm,↓Z5,↓Z9,↓Z6,↓Z7,cL,Qo,Qn,Qx,Qw,Qu,Ql,Qk,Qv,Qd,Qz,Q0,Qq,Qf,Qh,Qg,Qt,Qs,Qr,Qm,Qe,cJ,Rm,hz,hf,hz2,hf2,hwc,hset,hrem,hge,hof,hby,heq,s1,hyy,hD,huu,hdy,hvv,hiw,haa,hr,hq0,bft,btf,hr0c,hr2,hbq,hfr,Zd,Xd,Jy,Xs,Vm,Xt,J2,X2,lk,lm,lz,lz2,lY,l1,lyy,lr,lnr,lB,lTr,rft,Vl]
      rfl
     ·rw [decide_eq_false hp1] at hbq
      obtain ⟨p,rp,he⟩:=fin nr Nnr hneg (by have:=hnpar h0; omega)
      refine .inl ⟨_,p,?_,rp,he⟩
      generalize tL nr Y (Wr 1) = R at *
      generalize Wr 1 = S1 at *
      apply Xg
      apply Zt
      rw [Jc (fn:=a32) rfl]
      simp only [a32,↓Zr,Z0,quiet,cF,↓pF,reduceCtorEq,Qb,Qp,Zi,Zf,Zg,Ze,Zc,Qj,Q3,Qi,Q2,Q6,Q5,↓Zu,↓Zm,↓Z5,↓Z9,↓Z6,↓Z7,cL,Qo,Qn,Qx,Qw,Qu,Ql,Qk,Qv,Qd,Qz,Q0,Qq,Qf,Qh,Qg,Qt,Qs,Qr,Qm,Qe,cJ,Rm,hz,hf,hz2,hf2,hwc,hset,hrem,hge,hof,hby,heq,s1,hyy,hD,huu,hdy,hvv,hiw,haa,hr,hq0,bft,btf,hr0c,hr2,hbq,hnr,hfn,Zd,Xd,Jy,Xs,Vm,Xt,J2,X2,lk,lm,lz,lz2,lY,l1,lyy,lr,lnr,lB,lTn,rft,Vl]
      rfl
   ·rw [decide_eq_false hb] at hge
    by_cases hp1:(nf r).val % 2 = 1
    ·rw [decide_eq_true hp1] at hbq
     have h0:nf r ≠ 0:=fun h => by rw [h] at hp1; exact absurd hp1 (by decide)
     rw [decide_eq_false h0] at hq0
     obtain ⟨p,rp,he⟩:=fin nr Nnr hneg (by have:=hnpar h0; omega)
     refine .inl ⟨_,p,?_,rp,he⟩
     generalize tL nr Y (Wr 1) = R at *
     generalize Wr 1 = S1 at *
     apply Xg
     apply Zt
     rw [Jc (fn:=a32) rfl]
     simp only [a32,↓Zr,Z0,quiet,cF,↓pF,reduceCtorEq,Qb,Qp,Zi,Zf,Zg,Ze,Zc,Qj,Q3,Qi,Q2,Q6,Q5,↓Zu,↓Zm,↓Z5,↓Z9,↓Z6,↓Z7,cL,Qo,Qn,Qx,Qw,Qu,Ql,Qk,Qv,Qd,Qz,Q0,Qq,Qf,Qh,Qg,Qt,Qs,Qr,Qm,Qe,cJ,Rm,hz,hf,hz2,hf2,hwc,hset,hrem,hge,hof,hby,heq,s1,hyy,hD,huu,hdy,hvv,hiw,haa,hr,hq0,bft,btf,hr0c,hr2,hbq,hnr,hfn,Zd,Xd,Jy,Xs,Vm,Xt,J2,X2,lk,lm,lz,lz2,lY,l1,lyy,lr,lnr,lB,lTn,rft,Vl]
     rfl
    ·rw [decide_eq_false hp1] at hbq
     obtain ⟨p,rp,he⟩:=fin r Nr rfl (by omega)
     refine .inl ⟨_,p,?_,rp,he⟩
     generalize tL r Y (Wr 1) = R at *
     generalize decide (nf r = 0) = zq at *
     cases zq with
     | false =>
      generalize Wr 1 = S1 at *
      apply Xg
      apply Zt
      rw [Jc (fn:=a32) rfl]
      simp only [a32,↓Zr,Z0,quiet,cF,↓pF,reduceCtorEq,Qb,Qp,Zi,Zf,Zg,Ze,Zc,Qj,Q3,Qi,Q2,Q6,Q5,↓Zu,↓Zm,↓Z5,↓Z9,↓Z6,↓Z7,cL,Qo,Qn,Qx,Qw,Qu,Ql,Qk,Qv,Qd,Qz,Q0,Qq,Qf,Qh,Qg,Qt,Qs,Qr,Qm,Qe,cJ,Rm,hz,hf,hz2,hf2,hwc,hset,hrem,hge,hof,hby,heq,s1,hyy,hD,huu,hdy,hvv,hiw,haa,hr,hq0,bft,btf,hr0c,hr2,hbq,hfr,Zd,Xd,Jy,Xs,Vm,Xt,J2,X2,lk,lm,lz,lz2,lY,l1,lyy,lr,lnr,lB,lTr,rft,Vl]
      rfl
     | true =>
      generalize Wr 1 = S1 at *
      apply Xg
      apply Zt
      rw [Jc (fn:=a32) rfl]
      simp only [a32,↓Zr,Z0,quiet,cF,↓pF,reduceCtorEq,Qb,Qp,Zi,Zf,Zg,Ze,Zc,Qj,Q3,Qi,Q2,Q6,Q5,↓Zu,↓Zm,↓Z5,↓Z9,↓Z6,↓Z7,cL,Qo,Qn,Qx,Qw,Qu,Ql,Qk,Qv,Qd,Qz,Q0,Qq,Qf,Qh,Qg,Qt,Qs,Qr,Qm,Qe,cJ,Rm,hz,hf,hz2,hf2,hwc,hset,hrem,hge,hof,hby,heq,s1,hyy,hD,huu,hdy,hvv,hiw,haa,hr,hq0,bft,btf,hr0c,hr2,hbq,hfr,Zd,Xd,Jy,Xs,Vm,Xt,J2,X2,lk,lm,lz,lz2,lY,l1,lyy,lr,lnr,lB,lTr,rft,Vl]
      rfl
 ·rw [decide_eq_false hV] at heq
  generalize Ys = Z at *
  generalize B6 = Z48 at *
  refine .inr ⟨Z48,?_,lz2,fun p hp => hV ?_⟩
  ·apply Xg
   apply Zt
   rw [Jc (fn:=a32) rfl]
   simp only [a32,↓Zr,Z0,quiet,cF,↓pF,reduceCtorEq,Qb,Qp,Zi,Zf,Zg,Ze,Zc,Qj,Q3,Qi,Q2,Q6,Q5,↓Zu,↓Zm,↓Z5,↓Z9,↓Z6,↓Z7,cL,Qo,Qn,Qx,Qw,Qu,Ql,Qk,Qv,Qd,Qz,Q0,Qq,Qf,Qh,Qg,Qt,Qs,Qr,Qm,Qe,cJ,Rm,hz,hf,hz2,hf2,hwc,hset,hrem,hge,hof,hby,heq,Zd,Xd,Jy,Xs,Vm,Xt,J2,X2,lk,lm,lz,lz2,lY,lB,Vl]
   rfl
  ·rw [← ((hkey p).1 hp).1]; exact p.y.isLt
theorem Q6n:Go.Fp.fp 4 * Go.Fp.iv (Go.Fp.fp 5) = Go.Fp.fp byN:=by
 have h0:Go.Fp.fp 5 ≠ 0:=by decide +kernel
 have h1:=Go.Fp.Qaf h0
 have h2:Go.Fp.fp 5 * Go.Fp.fp byN = Go.Fp.fp 4:=by decide +kernel
 refine Go.Fp.fld.cancel h0 ?_
 rw [h2]
 generalize Go.Fp.iv (Go.Fp.fp 5) = y at *
 generalize Go.Fp.fp 5 = x at *
 generalize Go.Fp.fp 4 = z at *
 clear h0 h2
 grobner
theorem Qt2:enc Wd = dig 256 32 (Go.Fp.fp byN).val:=by decide +kernel
theorem Qlo {p q:Go.Cv.Pt Go.Fp.P Go.Fp.d} (h:enc p = enc q):p = q:=by
 have:=Qde p q
 rw [h] at this
 simp at this
 exact this
theorem Qz5:∃ r,Vd T 24 [] = some (eV r) ∧ RP r Wd:=by
 have s4:=Ho 4 (by decide)
 have s5:=Ho 5 (by decide)
 obtain ⟨v,hv,v1,v2⟩:=Qa0 (Bm 5)
 obtain ⟨m,hm,m1,m2⟩:=U4 (Bm 4) v1
 have e4:nf (Wr 4) = Go.Fp.fp 4:=by unfold nf; rw [Gl (by decide)]
 have e5:nf (Wr 5) = Go.Fp.fp 5:=by unfold nf; rw [Gl (by decide)]
 rw [v2,e4,e5,Q6n] at m2
 have hb:=Qcz m1
 rw [m2,← Qt2] at hb
 have hl:=Dh Wd
 rcases Qem (Dh Wd) (Qqj Wd) with ⟨l,p,hd,rp,he⟩ | ⟨l,hd,ll,hno⟩
 ·have hpp:=Qlo he
  rw [hpp] at rp
  refine ⟨l,?_,rp⟩
  have lr:=rp.len
  have hz2:=Qd8
  have lz2:=Qas
  have rft:∀ (r:List Nat) (c:Int),rf (Value.tuple #[eV r,.int .i64 c]) = true:=fun r c => Ta (a:=eV r) (b := .int .i64 c) (Vl r) rfl
  simp only [Ww] at s4 s5
  unfold Rm at hd
  generalize enc Wd = K at *
  generalize Wr 4 = S4 at *
  generalize Wr 5 = S5 at *
  generalize B6 = Z48 at *
  apply Xg
  apply Zt
  rw [Jc (fn:=a37) rfl]
  simp only [a37,↓Zr,Z0,quiet,cF,↓pF,reduceCtorEq,Qb,Qp,Zi,Zf,Zg,Ze,Zc,Qj,Q3,Qi,Q2,Q6,Q5,↓Zu,↓Zm,↓Z5,↓Z9,↓Z6,↓Z7,cL,Qo,Qn,Qx,Qw,Qu,Ql,Qk,Qv,Qd,Qz,Q0,Qq,Qf,Qh,Qg,Qt,Qs,Qr,Qm,Qe,cJ,hz2,s4,s5,hv,hm,hb,hd,Zd,Xd,Jy,Xs,Vm,Xt,J2,X2,lr,lz2,hl,rft,Vl]
  rfl
 ·exact absurd rfl (hno Wd)
theorem Qcr {a b:List Nat} (h:a.length + b.length ≤ 2 ^ 47):Y3 .add (W8 a) (W8 b) = some (W8 (a ++ b)):=by
 unfold W8
 rw [Qoh]
 have:(⟨(a.map UInt8.ofNat).toArray⟩:ByteArray).size + (⟨(b.map UInt8.ofNat).toArray⟩:ByteArray).size ≤ 2 ^ 47:=by simpa [ByteArray.size] using h
 rw [gate,if_pos this]
 congr 2
 apply ByteArray.ext
 simp
def byO (x:Nat):Ob:=⟨[.int .u8 x],true,true,true,1⟩
def Tl (S:List Nat) (i:Nat):List Ob:=(S.take i).map byO
theorem Qkj {S:List Nat} {i w:Nat} (h:S[i]? = some w):Tl S (i + 1) = Tl S i ++ [⟨[.int .u8 w],true,true,true,1⟩]:=by
 rw [Tl,Yf,h,G6]
 rfl
theorem Qof (m:List Ob) (w:Nat):elemsOf (m ++ [⟨[.int .u8 (w:Int)],true,true,true,1⟩]) 1 1 (.slice (some ⟨m.length,0,none⟩) 1 1) = some (u8s [w]):=by
 have h1:liveAt (m ++ [⟨[.int .u8 (w:Int)],true,true,true,1⟩]) m.length = some ⟨[.int .u8 (w:Int)],true,true,true,1⟩:=Yg (by rw [Zh (Zj _),Kv]; rfl) rfl
 simp [elemsOf,h1,u8s]
def txI (G:List Ob) (S:List Nat) (i:Nat) (ex:Env):St:=⟨[(1,.pointer (some ⟨0,0,none⟩)),(3,W8 (S.take i)),(4,.int .i64 i)] ++ ex,G ++ Tl S i,[]⟩
theorem Quz {G:List Ob} {S:List Nat} {x e:Bool} {s:Nat} (h0:G[0]? = some ⟨u8s S,true,x,e,s⟩) (lS:S.length = 32) (xS:∀ y ∈ S,y < 256) :
  Jl T 0 (.block 0 (.loop Qbh)) (txI G S 0 []) = some (.normal,txI G S 32 [(6,.bool false)]) :=
 Wb (T:=T) (base:=0) (id:=0) (body:=Qbh) (fun i => txI G S i []) (s':=txI G S 32 [(6,.bool false)]) 32
  (fun i hi => by
   obtain ⟨w,hw⟩:∃ w,S[i]? = some w:=⟨_,Q1 (by omega)⟩
   have lw:=xS w (Zk hw)
   have e1:((i:Int) < 32) = True:=eq_true (by omega)
   have w3:IntKind.i64.wrap ((i:Int) + 1) = ((i + 1:Nat):Int):=Y0 (b:=1) (by omega)
   have hsa:Y3 .add (W8 (S.take i)) (W8 [w]) = some (W8 (S.take (i + 1))):=by
    rw [Qcr (by rw [Js]; simp; omega),Yf,hw]; rfl
   have hst:=Qkj hw
   have gt:∀ m:List Ob,(G ++ m)[0]? = some ⟨u8s S,true,x,e,s⟩:=fun m => by rw [Qy (Q8.1 h0).1]; exact h0
   have hb2:=Qof (G ++ Tl S i) w
   have hby:=Qam [w]
   have gt0:=gt (Tl S i)
   have gw:(u8s S)[i]? = some (.int .u8 (w:Nat)):=Wo hw
   have fB:fillL [Value.int .u8 0] [(0,1,.int .u8 w)] = some [.int .u8 w]:=rfl
   have hii:i < 32:=hi
   obtain ⟨G1,hG1⟩:∃ X,X = G ++ Tl S i:=⟨_,rfl⟩
   have hG2:G ++ Tl S (i + 1) = G1 ++ [⟨[.int .u8 w],true,true,true,1⟩]:=by rw [hst,← Jx,hG1]
   rw [← hG1] at hb2 gt0
   show Jl T 0 Qbh ⟨_,G ++ Tl S i,[]⟩ = some (.normal,⟨_,G ++ Tl S (i + 1),[]⟩)
   rw [← hG1,hG2]
   generalize S.take i = S1 at *
   generalize S.take (i + 1) = S2 at *
   generalize hi1:i + 1 = i1 at *
   generalize W8 S1 = V1 at *
   generalize W8 S2 = V2 at *
   rw [show W8 [w] = .string ⟨([w].map UInt8.ofNat).toArray⟩ from rfl] at hsa
   generalize u8s [w] = C3 at *
   generalize [w].map UInt8.ofNat = L3 at *
   simp only [txI,Qbh,↓Zr,Z0,quiet,cF,↓pF,reduceCtorEq,Qb,Qp,Zi,Zf,Zg,Ze,Zc,Qj,Q3,Qi,Q2,Q6,Q5,↓Zu,↓Zm,↓Z5,↓Z9,↓Z6,↓Z7,cL,Qo,Qn,Qx,Qw,Qu,Ql,Qk,Qv,Qd,Qz,Q0,Qq,Qf,Qh,Qg,Qt,Qs,Qr,Qm,Qe,cJ,e1,w3,gt0,gw,fB,hb2,hby,hsa,hi1])
  (by
   simp only [txI,Qbh,↓Zr,Z0,quiet,cF,↓pF,reduceCtorEq,Qb,Qp,Zi,Zf,Zg,Ze,Zc,Qj,Q3,Qi,Q2,Q6,Q5,↓Zu,↓Zm,↓Z5,↓Z9,↓Z6,↓Z7,cL,Qo,Qn,Qx,Qw,Qu,Ql,Qk,Qv,Qd,Qz,Q0,Qq,Qf,Qh,Qg,Qt,Qs,Qr,Qm,Qe,cJ])
theorem Qq8 {S:List Nat} (lS:S.length = 32) (xS:∀ y ∈ S,y < 256):Vd T 21 [.agg (u8s S).toArray] = some (W8 S):=by
 have h1:=Quz (G:=[⟨u8s S,true,true,true,1⟩]) (S:=S) rfl lS xS
 rw [show txI [⟨u8s S,true,true,true,1⟩] S 0 [] = ⟨[(1,.pointer (some ⟨0,0,none⟩)),(3,.string (ByteArray.mk #[])),(4,.int .i64 0)],[⟨u8s S,true,true,true,1⟩],[]⟩ from rfl] at h1
 unfold txI at h1
 rw [Zl (by omega)] at h1
 obtain ⟨G1,hG1⟩:∃ X,X = [(⟨u8s S,true,true,true,1⟩:Ob)] ++ Tl S 32:=⟨_,rfl⟩
 rw [← hG1] at h1
 have hrf:rf (W8 S) = true:=rfl
 generalize W8 S = V at *
 clear hG1
 apply Xg
 apply Zt
 rw [Jc (fn:=Q22) rfl]
 simp only [Q22,↓Zr,Z0,quiet,cF,↓pF,reduceCtorEq,Qb,Qp,Zi,Zf,Zg,Ze,Zc,Qj,Q3,Qi,Q2,Q6,Q5,↓Zu,↓Zm,↓Z5,↓Z9,↓Z6,↓Z7,cL,Qo,Qn,Qx,Qw,Qu,Ql,Qk,Qv,Qd,Qz,Q0,Qq,Qf,Qh,Qg,Qt,Qs,Qr,Qm,Qe,cJ,h1,Jy,Xs,Vm,Xt,X2,lS,Xd,Zd,Vl,hrf]
 rfl
def tnI (G:List Ob) (S:List Nat) (i:Nat) (ex:Env):St:=⟨[(2,.pointer (some ⟨0,0,none⟩)),(3,.pointer (some ⟨1,0,none⟩)),(4,W8 (S.take i)),(5,.int .i64 i)] ++ ex,G ++ Tl S i,[]⟩
theorem Qu3 {G:List Ob} {S:List Nat} {x e:Bool} {s:Nat} (h0:G[1]? = some ⟨u8s S,true,x,e,s⟩) (lS:S.length = 64) (xS:∀ y ∈ S,y < 256) :
  Jl T 0 (.block 0 (.loop Qbi)) (tnI G S 0 []) = some (.normal,tnI G S 64 [(9,.bool false)]) :=
 Wb (T:=T) (base:=0) (id:=0) (body:=Qbi) (fun i => tnI G S i []) (s':=tnI G S 64 [(9,.bool false)]) 64
  (fun i hi => by
   obtain ⟨w,hw⟩:∃ w,S[i]? = some w:=⟨_,Q1 (by omega)⟩
   have e1:((i:Int) < 64) = True:=eq_true (by omega)
   have w3:IntKind.i64.wrap ((i:Int) + 1) = ((i + 1:Nat):Int):=Y0 (b:=1) (by omega)
   have hsa:Y3 .add (W8 (S.take i)) (W8 [w]) = some (W8 (S.take (i + 1))):=by
    rw [Qcr (by rw [Js]; simp; omega),Yf,hw]; rfl
   have hst:=Qkj hw
   have gt:∀ m:List Ob,(G ++ m)[1]? = some ⟨u8s S,true,x,e,s⟩:=fun m => by rw [Qy (Q8.1 h0).1]; exact h0
   have hb2:=Qof (G ++ Tl S i) w
   have hby:=Qam [w]
   have gt0:=gt (Tl S i)
   have gw:(u8s S)[i]? = some (.int .u8 (w:Nat)):=Wo hw
   have fB:fillL [Value.int .u8 0] [(0,1,.int .u8 w)] = some [.int .u8 w]:=rfl
   have hii:i < 64:=hi
   obtain ⟨G1,hG1⟩:∃ X,X = G ++ Tl S i:=⟨_,rfl⟩
   have hG2:G ++ Tl S (i + 1) = G1 ++ [⟨[.int .u8 w],true,true,true,1⟩]:=by rw [hst,← Jx,hG1]
   rw [← hG1] at hb2 gt0
   show Jl T 0 Qbi ⟨_,G ++ Tl S i,[]⟩ = some (.normal,⟨_,G ++ Tl S (i + 1),[]⟩)
   rw [← hG1,hG2]
   generalize S.take i = S1 at *
   generalize S.take (i + 1) = S2 at *
   generalize hi1:i + 1 = i1 at *
   generalize W8 S1 = V1 at *
   generalize W8 S2 = V2 at *
   rw [show W8 [w] = .string ⟨([w].map UInt8.ofNat).toArray⟩ from rfl] at hsa
   generalize u8s [w] = C3 at *
   generalize [w].map UInt8.ofNat = L3 at *
   simp only [tnI,Qbi,↓Zr,Z0,quiet,cF,↓pF,reduceCtorEq,Qb,Qp,Zi,Zf,Zg,Ze,Zc,Qj,Q3,Qi,Q2,Q6,Q5,↓Zu,↓Zm,↓Z5,↓Z9,↓Z6,↓Z7,cL,Qo,Qn,Qx,Qw,Qu,Ql,Qk,Qv,Qd,Qz,Q0,Qq,Qf,Qh,Qg,Qt,Qs,Qr,Qm,Qe,cJ,e1,w3,gt0,gw,fB,hb2,hby,hsa,hi1])
  (by
   simp only [tnI,Qbi,↓Zr,Z0,quiet,cF,↓pF,reduceCtorEq,Qb,Qp,Zi,Zf,Zg,Ze,Zc,Qj,Q3,Qi,Q2,Q6,Q5,↓Zu,↓Zm,↓Z5,↓Z9,↓Z6,↓Z7,cL,Qo,Qn,Qx,Qw,Qu,Ql,Qk,Qv,Qd,Qz,Q0,Qq,Qf,Qh,Qg,Qt,Qs,Qr,Qm,Qe,cJ])
theorem Qsl {bs:List Nat} (xb:∀ y ∈ bs,y < 256) (hb:bs.length < 2 ^ 46):Vd T 20 [W8 bs] = some (.agg (u8s (Qcy bs)).toArray):=by
 have hz:Qa 32 (Value.int .u8 0) = u8s (dig 256 32 0):=rfl
 have lz:(dig 256 32 0).length = 32:=rfl
 have hz64:=Ty
 have lz64:(Qa 64 0).length = 64:=Zd
 have hs:=Qjo xb hb
 have lS:=Hn bs
 have h1:=Qu3 (G:=[⟨u8s (dig 256 32 0),true,true,true,1⟩,⟨u8s (sha bs),true,true,true,1⟩]) (S:=sha bs) rfl lS (Qb2 bs)
 rw [show tnI [⟨u8s (dig 256 32 0),true,true,true,1⟩,⟨u8s (sha bs),true,true,true,1⟩] (sha bs) 0 [] = ⟨[(2,.pointer (some ⟨0,0,none⟩)),(3,.pointer (some ⟨1,0,none⟩)),(4,.string (ByteArray.mk #[])),(5,.int .i64 0)],[⟨u8s (dig 256 32 0),true,true,true,1⟩,⟨u8s (sha bs),true,true,true,1⟩],[]⟩ from rfl] at h1
 unfold tnI at h1
 rw [Zl (by omega)] at h1
 obtain ⟨l,hr⟩:=Qk1 (bs:=sha bs) rfl (by rw [lS]; decide) (Qb2 bs)
 have hrv:=R0 hr
 obtain ⟨X,hX⟩:∃ X,X = Tl (sha bs) 64:=⟨_,rfl⟩
 rw [← hX] at h1
 have lr:(rd (sha bs)).length = 32:=Qpi
 clear hX hs hr
 have hs:=Qjo xb hb
 unfold Qcy
 have r1:rf (W8 bs) = true:=rfl
 have r2:rf (W8 (sha bs)) = true:=rfl
 generalize rd (sha bs) = R at *
 generalize W8 bs = V0 at *
 generalize W8 (sha bs) = V at *
 generalize sha bs = S at *
 generalize Qa 64 0 = Z64 at *
 generalize dig 256 32 0 = Z at *
 simp only [Zb,Za] at h1
 apply Xg
 apply Zt
 rw [Jc (fn:=Q23) rfl]
 simp only [Q23,↓Zr,Z0,quiet,cF,↓pF,reduceCtorEq,Qb,Qp,Zi,Zf,Zg,Ze,Zc,Qj,Q3,Qi,Q2,Q6,Q5,↓Zu,↓Zm,↓Z5,↓Z9,↓Z6,↓Z7,cL,Qo,Qn,Qx,Qw,Qu,Ql,Qk,Qv,Qd,Qz,Q0,Qq,Qf,Qh,Qg,Qt,Qs,Qr,Qm,Qe,cJ,hz,hz64,hs,h1,hrv,Jy,Xs,Vm,Xt,X2,lS,lz,lz64,lr,Xd,Zd,Vl,r1,r2]
 rfl
end Go.Ev.YtgacigcbglflkaaGreat
set_option linter.unusedSimpArgs false
set_option linter.unusedVariables false
namespace Go.Ev.YtgacigcbglflkaaGreat
open Go Go.Ev
open Go.NT (Pr)
set_option maxRecDepth 100000
theorem lp1:Pr 531581:=Go.NT.Bz (f:=729) (by decide) (by decide) (by decide +kernel)
theorem lp2:Pr 1224481:=Go.NT.Bz (f:=1106) (by decide) (by decide) (by decide +kernel)
theorem lp3:Pr 1257559732178653:=Go.NT.R2 (q:=531581) (k:=2365697292) (a:=2) (q2:=1224481) (k2:=1027014492) (a2:=2) (f:=51) lp1 lp2 (by decide +kernel)
theorem lp4:Pr 4434155615661930479:=Go.NT.Dn (q:=1257559732178653) (k:=3526) (a:=2) (f:=62) lp3 (by decide +kernel)
theorem lp5:Pr 172054593956031949258510691:=Go.NT.Dn (q:=4434155615661930479) (k:=38802110) (a:=2) (f:=88) lp4 (by decide +kernel)
theorem lp6:Pr 19757330305831588566944191468367130476339:=Go.NT.Dn (q:=172054593956031949258510691) (k:=114831751082918) (a:=2) (f:=134) lp5 (by decide +kernel)
theorem lp7:Pr 276602624281642239937218680557139826668747:=Go.NT.Dn (q:=19757330305831588566944191468367130476339) (k:=14) (a:=2) (f:=138) lp6 (by decide +kernel)
theorem Qkf:Pr ell:=Go.NT.Dn (q:=276602624281642239937218680557139826668747) (k:=26163907866482859529727157400808004) (a:=2) (f:=253) lp7 (by decide +kernel)
theorem Q2o:Wd ≠ U2:=fun h => Qqk (by rw [h,Qju])
theorem Qst (p:Go.Cv.Pt Go.Fp.P Go.Fp.d):V9 1 p = p:=Go.Cv.mul_one Go.Fp.fld p
theorem Qjz {n:Nat} (h:V9 n Wd = U2):ell ∣ n:=by
 refine Classical.byContradiction fun hn => ?_
 have hf:=Go.NT.Qey Qkf hn
 apply Q2o
 have e1:ell - 1 = (ell - 2) + 1:=by decide +kernel
 have h2:n ^ (ell - 1) = n ^ (ell - 2) * n:=by rw [e1,Kq]
 have h3:V9 (n ^ (ell - 1)) Wd = U2:=by rw [h2,T8,h,Qju]
 rw [← Hp Ht,hf,Qst] at h3
 exact h3
theorem Qfh {p q r:Go.Cv.Pt Go.Fp.P Go.Fp.d} (h:W3 p q = W3 p r):q = r:=Go.Cv.add_left_cancel Go.Fp.fld h
theorem Qoj {a b:Nat} (ha:a < ell) (hb:b < ell) (h:V9 a Wd = V9 b Wd):a = b:=by
 have key:∀ {x y:Nat},x ≤ y → y < ell → V9 x Wd = V9 y Wd → x = y:=by
  intro x y hxy hy hh
  have e:y = x + (y - x):=by omega
  rw [e,Mh] at hh
  have h1:V9 (y - x) Wd = U2:=by
   refine (Qfh (p:=V9 x Wd) ?_).symm
   rw [Qb8]; exact hh
  obtain ⟨k,hk⟩:=Qjz h1
  rcases Yd k with h0 | h0
  ·rw [h0,To] at hk; omega
  ·have:=Ug ell h0
   omega
 rcases Nat.le_total a b with hab | hab
 ·exact key hab hb h
 ·exact (key hab ha h.symm).symm
theorem Q11 (n:Nat) (h:ell ∣ 8 * n):ell ∣ n:=by
 have hc:Q6s ell 8:=Go.NT.Pr.coprime Qkf (by decide +kernel)
 exact hc.dvd_of_dvd_mul_left h
theorem Qt6 {a:List Nat} {x y:Nat} (la:a.length = 32) (xa:∀ z ∈ a,z < 256) (hx:a[0]? = some x) (hy:a[31]? = some y):num 256 (Gh a x y) % 8 = 0 ∧ 2 ^ 254 ≤ num 256 (Gh a x y) ∧ num 256 (Gh a x y) < 2 ^ 255:=by
 have hx':=xa x (Zk hx)
 have hy':=xa y (Zk hy)
 obtain ⟨t,ht⟩:∃ t,a = x :: t:=by
  cases a with
  | nil => simp at hx
  | cons z t => simp at hx; subst hx; exact ⟨t,rfl⟩
 have e8:x &&& 248 = x / 8 * 8:=(by decide +kernel:∀ v,v < 256 → v &&& 248 = v / 8 * 8) x hx'
 have e64:(y &&& 127) ||| 64 = y % 64 + 64:=(by decide +kernel:∀ v,v < 256 → (v &&& 127) ||| 64 = v % 64 + 64) y hy'
 have h1:=Gj (B:=256) (x &&& 248) hx
 have hy2:(a.set 0 (x &&& 248))[31]? = some y:=by rw [Jj (by decide)]; exact hy
 have h2:=Gj (B:=256) ((y &&& 127) ||| 64) hy2
 have hV:=num_lt xa
 rw [la] at hV
 have hg:=Bv (by decide:0 < 256) xa hy
 have hm:num 256 a % 256 = x:=by
  have:=Bv (by decide:0 < 256) xa hx
  rwa [Ya,Wi] at this
 unfold Gh
 rw [e8] at h1 h2 ⊢
 rw [e64] at h2 ⊢
 have e31:(256:Nat) ^ 31 = 452312848583266388373324160190187140051835877600158453279131187530910662656:=by decide
 have e32:(256:Nat) ^ 32 = 115792089237316195423570985008687907853269984665640564039457584007913129639936:=by decide
 have e254:(2:Nat) ^ 254 = 28948022309329048855892746252171976963317496166410141009864396001978282409984:=by decide
 have e255:(2:Nat) ^ 255 = 57896044618658097711785492504343953926634992332820282019728792003956564819968:=by decide
 rw [Ya,Xy,Xy] at h1
 rw [e31] at h2 hg
 rw [e32] at hV
 rw [e254,e255]
 generalize num 256 ((a.set 0 (x / 8 * 8)).set 31 (y % 64 + 64)) = N2 at *
 generalize num 256 (a.set 0 (x / 8 * 8)) = N1 at *
 generalize num 256 a = N at *
 have hyq:N / 452312848583266388373324160190187140051835877600158453279131187530910662656 = y:=by omega
 have hdm:=Vr N 452312848583266388373324160190187140051835877600158453279131187530910662656
 rw [hyq] at hdm
 have hmlt:=Jk N (by decide:0 < 452312848583266388373324160190187140051835877600158453279131187530910662656)
 have hlow:N % 452312848583266388373324160190187140051835877600158453279131187530910662656 % 256 = x:=by omega
 generalize N % 452312848583266388373324160190187140051835877600158453279131187530910662656 = M at *
 refine ⟨?_,?_,?_⟩ <;> omega
theorem Qzn (s:List Nat):num 256 (scL s) % 8 = 0 ∧ 2 ^ 254 ≤ num 256 (scL s) ∧ num 256 (scL s) < 2 ^ 255:=by
 obtain ⟨x,g0,d0,lx⟩:=Qei s (i:=0) (by decide)
 obtain ⟨z,g31,d31,lz⟩:=Qei s (i:=31) (by decide)
 unfold scL
 rw [d0,d31]
 exact Qt6 (by rw [Js,Hn]; rfl) (fun y hy => Qb2 s y (Kp hy)) (by rw [Ks,if_pos (by decide)]; exact g0) (by rw [Ks,if_pos (by decide)]; exact g31)
theorem Qve (s:List Nat):¬ ell ∣ num 256 (scL s):=by
 obtain ⟨h1,h2,h3⟩:=Qzn s
 generalize num 256 (scL s) = a at *
 intro hd
 obtain ⟨k,rfl⟩:=hd
 have h7:k < 8:=Nat.lt_of_mul_lt_mul_left (a:=ell) (Uc h3 (by decide +kernel))
 have h0:0 < k:=by
  rcases Yd k with h | h
  ·rw [h,To] at h2
   exact absurd h2 (by decide)
  ·exact h
 have hm:ell * k % 8 = (ell % 8) * k % 8:=by rw [Qqy]
 have he:ell % 8 = 5:=by decide +kernel
 rw [hm,he] at h1
 clear h2 h3 hm he
 omega
end Go.Ev.YtgacigcbglflkaaGreat
set_option linter.unusedSimpArgs false
set_option linter.unusedVariables false
namespace Go.Ev.YtgacigcbglflkaaGreat
open Go Go.Ev
set_option maxRecDepth 100000
def W5:List Nat:=1 :: Qa 31 0
theorem Qjl:sha W5 = [206,12,38,94,204,130,221,140,238,110,86,206,68,228,93,175,215,160,197,117,13,249,20,178,83,161,251,122,138,246,109,219,153,118,54,7,240,168,93,11,212,54,105,25,74,58,64,87,122,82,138,243,149,244,241,126,6,241,222,252,198,222,178,165]:=by decide +kernel
theorem Qdd {p q:Go.Cv.Pt Go.Fp.P Go.Fp.d} (h:enc p = enc q):p = q:=by
 have:=Qde p q
 rw [h] at this
 simp at this
 exact this
theorem Qg2 (k:Nat) (p:Go.Cv.Pt Go.Fp.P Go.Fp.d):V9 k p.neg = (V9 k p).neg:=Go.Cv.mul_neg Go.Fp.fld k p
theorem Qzj {s m:List Nat} {c:Int} (h:Qd3 (Ut s) (frL s m) (bkL s m) m c):c = 0:=by
 have hA:enc (V9 (num 256 (scL s)) Wd) = Ut s:=rfl
 have hR:enc (V9 (num 256 (rL s m)) Wd) = frL s m:=rfl
 have hb:num 256 (bkL s m) = (num 256 (chL (frL s m) (Ut s) m) * num 256 (scL s) + num 256 (rL s m)) % ell:=Qw1 _ _ _
 have hnt:V9 8 (V9 (num 256 (scL s)) Wd) ≠ U2:=fun h => Qve s (Q11 _ (Qjz (by rw [T8]; exact h)))
 have hblt:num 256 (bkL s m) < ell:=by rw [hb]; exact Jk _ D0
 rcases h with ⟨h,-⟩ | ⟨A,eA,h⟩
 ·exact absurd hA (h _)
 ·have e1:=Qdd (eA.trans hA.symm)
  rw [e1] at h
  rcases h with h | h
  ·obtain ⟨h,-⟩:=h
   cases h with
   | inl h => exact absurd h hnt
   | inr h => exact absurd hblt h
  ·have h:=h.2.2
   rcases h with ⟨h,-⟩ | ⟨R,eR,h⟩
   ·exact absurd hR (h _)
   ·have e2:=Qdd (eR.trans hR.symm)
    rw [e2] at h
    rw [h,if_pos]
    rw [hb,Hp Ht,Mh,T8,Qg2]
    generalize num 256 (chL (frL s m) (Ut s) m) = k
    generalize V9 k (V9 (num 256 (scL s)) Wd) = X
    rw [Qa1 X,Mi,Qc0,Qb8]
theorem Qsd {s m back m':List Nat} {c:Int} (hl:back.length = 32) (hx:∀ y ∈ back,y < 256) (h:Qd3 (Ut s) (frL s m) back m' c):c = 70 ∨ (c = 0 ∧ num 256 back < ell ∧ (num 256 back + num 256 (chL (frL s m) (Ut s) m) * num 256 (scL s)) % ell = (num 256 (bkL s m) + num 256 (chL (frL s m) (Ut s) m') * num 256 (scL s)) % ell):=by
 have hA:enc (V9 (num 256 (scL s)) Wd) = Ut s:=rfl
 have hR:enc (V9 (num 256 (rL s m)) Wd) = frL s m:=rfl
 have hb:num 256 (bkL s m) = (num 256 (chL (frL s m) (Ut s) m) * num 256 (scL s) + num 256 (rL s m)) % ell:=Qw1 _ _ _
 rcases h with ⟨h,-⟩ | ⟨A,eA,h⟩
 ·exact absurd hA (h _)
 ·have e1:=Qdd (eA.trans hA.symm)
  rw [e1] at h
  rcases h with h | h
  ·exact .inl h.2
  ·have hc:=h.2.1
   have h:=h.2.2
   rcases h with ⟨-,h⟩ | ⟨R,eR,h⟩
   ·exact .inl h
   ·have e2:=Qdd (eR.trans hR.symm)
    rw [e2] at h
    split at h
    ·rename_i hq
     right
     refine ⟨h,hc,?_⟩
     apply Qoj (Jk _ D0) (Jk _ D0)
     rw [Hp Ht,Hp Ht,Mh,Mh,hb,Hp Ht,Mh,T8,T8]
     rw [Qg2] at hq
     generalize V9 (num 256 (chL (frL s m) (Ut s) m)) (V9 (num 256 (scL s)) Wd) = X
     generalize V9 (num 256 (chL (frL s m) (Ut s) m')) (V9 (num 256 (scL s)) Wd) = Y at *
     rw [← hq]
     generalize V9 (num 256 back) Wd = Z
     rw [Mi X,Mi Z,Qa1 Y.neg,Qc0,Qb8,Qa1]
    ·exact .inl h
theorem Qsc {s m m':List Nat} {c:Int} (hne:(num 256 (chL (frL s m) (Ut s) m) * num 256 (scL s)) % ell ≠ (num 256 (chL (frL s m) (Ut s) m') * num 256 (scL s)) % ell) (h:Qd3 (Ut s) (frL s m) (bkL s m) m' c):c = 70:=by
 rcases Qsd (D2 s m) (Qcg s m) h with h | ⟨-,-,h⟩
 ·exact h
 ·exfalso
  apply hne
  generalize num 256 (chL (frL s m) (Ut s) m) * num 256 (scL s) = t at *
  generalize num 256 (chL (frL s m) (Ut s) m') * num 256 (scL s) = u at *
  generalize num 256 (bkL s m) = v at *
  have h1:V9 (v + t) Wd = V9 (v + u) Wd:=by rw [← Hp Ht,h,Hp Ht]
  rw [Mh,Mh] at h1
  have h2:=Qfh h1
  apply Qoj (Jk _ D0) (Jk _ D0)
  rw [Hp Ht,Hp Ht]; exact h2
theorem Q1e {a:Jac} {q:Go.Cv.Pt Go.Fp.P Go.Fp.d} (r:JRep a q) {xN yN:Nat} (hx:xN < Go.Fp.P) (hy:yN < Go.Fp.P) (c1:a.x % Go.Fp.P = xN * a.z % Go.Fp.P) (c2:a.y % Go.Fp.P = yN * a.z % Go.Fp.P):enc q = dig 256 32 (yN + xN % 2 * 2 ^ 255):=by
 have d1:=Go.Fp.Qbt.2 c1
 have d2:=Go.Fp.Qbt.2 c2
 have F:=Go.Fp.fld
 rw [Go.Fp.U1] at d1 d2
 have ex:q.x = Go.Fp.fp xN:=by
  refine F.cancel r.nz ?_
  have:=r.x
  rw [d1] at this
  generalize Go.Fp.fp a.z = z at *
  generalize Go.Fp.fp xN = u at *
  generalize q.x = w at *
  clear d1 d2 c1 c2 r
  grobner
 have ey:q.y = Go.Fp.fp yN:=by
  refine F.cancel r.nz ?_
  have:=r.y
  rw [d2] at this
  generalize Go.Fp.fp a.z = z at *
  generalize Go.Fp.fp yN = u at *
  generalize q.y = w at *
  clear d1 d2 c1 c2 r ex
  grobner
 have vx:q.x.val = xN:=by rw [ex]; exact Z3 hx
 have vy:q.y.val = yN:=by rw [ey]; exact Z3 hy
 rw [enc,Qcd,vx,vy]
def Qwb (a:Jac) (xN yN:Nat):Bool:=Nat.beq (a.x % Go.Fp.P) (xN * a.z % Go.Fp.P) && Nat.beq (a.y % Go.Fp.P) (yN * a.z % Go.Fp.P)
theorem Qrz {f n xN yN:Nat} (hn:n < 2 ^ f) (hx:xN < Go.Fp.P) (hy:yN < Go.Fp.P) (h:Qwb (Qp9 Qnp f n) xN yN = true):enc (V9 n Wd) = dig 256 32 (yN + xN % 2 * 2 ^ 255):=by
 simp only [Qwb,Vw,Nat.beq_eq] at h
 exact Q1e (Qev.mul hn) hx hy h.1 h.2
theorem Qmr:num 256 (scL W5) = 41354757114163650016304086911142683682198188400503391378057401993857692208328:=by
 unfold scL; rw [Qjl]; decide +kernel
theorem Qsr:Ut W5 = [206,204,21,7,220,29,221,114,149,149,28,41,8,136,240,149,173,185,4,77,27,115,214,150,230,223,6,93,104,59,212,252]:=by
 unfold Ut
 rw [Qmr,Qrz (f:=256) (xN:=26822555233711949854380153315158647482531717314742952720223963642152101436051) (yN:=56461774818723834839721450787889437474891852695816614318545467683432985644238) (by decide) (by decide) (by decide) (by decide +kernel)]
 decide +kernel
theorem Qz6:num 256 (rL W5 [97,98]) = 7190534050387402144765361376655957038148003192940851339449226809932380300429:=by
 have h:sha (pfL W5 ++ [97,98]) = [245,131,162,243,57,11,83,147,38,239,238,183,86,182,16,217,82,20,190,29,33,101,218,112,39,67,38,43,126,6,51,219,187,123,239,137,61,76,188,0,26,80,214,37,40,102,17,26,190,188,49,139,180,91,207,69,39,118,219,241,76,130,218,172]:=by
  unfold pfL; rw [Qjl]; decide +kernel
 unfold rL Qcy rd
 rw [h]; decide +kernel
theorem Qx1:frL W5 [97,98] = [134,63,78,239,9,61,234,83,110,157,208,124,146,195,3,229,241,254,201,125,3,83,36,232,178,253,110,174,138,47,113,26]:=by
 unfold frL
 rw [Qz6,Qrz (f:=256) (xN:=32550285640094647749913757797573026337242524108283111522313707369526038663284) (yN:=11960115902405820554232334576818862127346778307006478725868305158423201070982) (by decide) (by decide) (by decide) (by decide +kernel)]
 decide +kernel
theorem Qyn:(num 256 (chL (frL W5 [97,98]) (Ut W5) [97,98]) * num 256 (scL W5)) % ell ≠ (num 256 (chL (frL W5 [97,98]) (Ut W5) [97,99]) * num 256 (scL W5)) % ell:=by
 rw [Qx1,Qsr,Qmr]
 have h1:num 256 (chL [134,63,78,239,9,61,234,83,110,157,208,124,146,195,3,229,241,254,201,125,3,83,36,232,178,253,110,174,138,47,113,26] [206,204,21,7,220,29,221,114,149,149,28,41,8,136,240,149,173,185,4,77,27,115,214,150,230,223,6,93,104,59,212,252] [97,98]) = 4345896033909676126526464428017597814750041397111024468569518375243159531215:=by decide +kernel
 have h2:num 256 (chL [134,63,78,239,9,61,234,83,110,157,208,124,146,195,3,229,241,254,201,125,3,83,36,232,178,253,110,174,138,47,113,26] [206,204,21,7,220,29,221,114,149,149,28,41,8,136,240,149,173,185,4,77,27,115,214,150,230,223,6,93,104,59,212,252] [97,99]) = 6890909591804878976832584633512085998992470259931648135772900504642653770023:=by decide +kernel
 rw [h1,h2]
 decide +kernel
end Go.Ev.YtgacigcbglflkaaGreat
set_option linter.unusedSimpArgs false
set_option linter.unusedVariables false
namespace Go.Ev.YtgacigcbglflkaaGreat
open Go Go.Ev
attribute [local congr] W7 Ul W6 Um Wv
set_option maxRecDepth 100000
def tcI (Hm:List Ob) (m:Value) (F B:List Nat) (i:Nat) (ex:Env):St:=⟨[(2,m),(3,.pointer (some ⟨0,0,none⟩)),(4,.pointer (some ⟨1,0,none⟩)),(7,.pointer (some ⟨2,0,none⟩)),(9,.pointer (some ⟨3,0,none⟩)),(10,.pointer (some ⟨4,0,none⟩)),(11,.int .i64 i)] ++ ex,Hm ++ [⟨u8s F,true,true,true,1⟩,⟨u8s B,true,true,true,1⟩],[]⟩
theorem Qu6 {o0 o2:Ob} {m:Value} {F B:List Nat} (lF:F.length = 32) (lB:B.length = 32) :
  Jl T 0 (.block 0 (.loop Qds)) (tcI [o0,⟨u8s (F ++ B),true,true,true,1⟩,o2] m (dig 256 32 0) (dig 256 32 0) 0 []) = some (.normal,tcI [o0,⟨u8s (F ++ B),true,true,true,1⟩,o2] m F B 32 [(26,.bool false)]):=by
 have h:=Wb (T:=T) (base:=0) (id:=0) (body:=Qds) (fun i => tcI [o0,⟨u8s (F ++ B),true,true,true,1⟩,o2] m (pf 32 F i) (pf 32 B i) i []) (s':=tcI [o0,⟨u8s (F ++ B),true,true,true,1⟩,o2] m F B 32 [(26,.bool false)]) 32
  (fun i hi => by
   have hi:i < 32:=hi
   obtain ⟨w,hw⟩:∃ w,F[i]? = some w:=⟨_,Q1 (by omega)⟩
   obtain ⟨z,hz⟩:∃ z,B[i]? = some z:=⟨_,Q1 (by omega)⟩
   have s1:=Gu lF hi hw
   have s2:=Gu lB hi hz
   have hset:=U3 (pf 32 F i) i w
   have hset2:=U3 (pf 32 B i) i z
   rw [s1] at hset
   rw [s2] at hset2
   have l1:i + 1 ≤ (u8s (pf 32 F i)).length:=by rw [X2,Db lF (by omega)]; omega
   have l2:i + 1 ≤ (u8s (pf 32 B i)).length:=by rw [X2,Db lB (by omega)]; omega
   have e1:((i:Int) < 32) = True:=eq_true (by omega)
   have e2:((i:Int) < 64) = True:=eq_true (by omega)
   have e3:(((i + 32:Nat):Int) < 64) = True:=eq_true (by omega)
   have w3:IntKind.i64.wrap ((i:Int) + 1) = ((i + 1:Nat):Int):=Y0 (b:=1) (by omega)
   have w4:IntKind.i64.wrap ((i:Int) + 32) = ((i + 32:Nat):Int):=Y0 (b:=32) (by omega)
   have gw:(u8s (F ++ B))[i]? = some (.int .u8 (w:Nat)):=Wo (by rw [Qy (by omega),hw])
   have gz:(u8s (F ++ B))[i + 32]? = some (.int .u8 (z:Nat)):=Wo (by rw [Zh (by omega),lF,Nat.add_sub_cancel,hz])
   generalize pf 32 F i = O1 at *
   generalize pf 32 F (i + 1) = O2 at *
   generalize pf 32 B i = O3 at *
   generalize pf 32 B (i + 1) = O4 at *
   generalize hi1:i + 1 = i1 at *
   generalize hi2:i + 32 = i2 at *
   generalize F ++ B = SG at *
   have im:∀ k,Xo 0 [] [k] = []:=fun k => Yi (by simp)
   simp only [tcI,Qds,↓Zr,Z0,quiet,cF,↓pF,reduceCtorEq,Qb,Qp,Zi,Zf,Zg,Ze,Zc,Qj,Q3,Qi,Q2,Q6,Q5,↓Zu,↓Zm,↓Z5,↓Z9,↓Z6,↓Z7,cL,Qo,Qn,Qx,Qw,Qu,Ql,Qk,Qv,Qd,Qz,Q0,Qq,Qf,Qh,Qg,Qt,Qs,Qr,Qm,Qe,cJ,e1,e2,e3,w3,w4,gw,gz,hset,hset2,l1,l2,hi1,hi2,im])
  (by
   rw [De lF,De lB]
   simp only [tcI,Qds,↓Zr,Z0,quiet,cF,↓pF,reduceCtorEq,Qb,Qp,Zi,Zf,Zg,Ze,Zc,Qj,Q3,Qi,Q2,Q6,Q5,↓Zu,↓Zm,↓Z5,↓Z9,↓Z6,↓Z7,cL,Qo,Qn,Qx,Qw,Qu,Ql,Qk,Qv,Qd,Qz,Q0,Qq,Qf,Qh,Qg,Qt,Qs,Qr,Qm,Qe,cJ])
 rw [Dd,Dd] at h
 exact h
theorem Qt1:enc U2 = dig 256 32 1:=by decide +kernel
theorem Qyy {S K R:Go.Cv.Pt Go.Fp.P Go.Fp.d}:W3 S K.neg = R ↔ S = W3 R K:=by
 have hz:∀ p:Go.Cv.Pt Go.Fp.P Go.Fp.d,W3 p U2 = p:=fun p => Go.Cv.add_zero Go.Fp.fld p
 have hn:W3 K.neg K = U2:=by rw [Qa1]; exact Qc0 K
 constructor
 ·intro h
  rw [← h,Mi,hn,hz]
 ·intro h
  rw [h,Mi,Qc0,hz]
theorem Qth:fillL (u8s (dig 256 32 0)) [(0,1,.int .u8 8)] = some (u8s (dig 256 32 8)):=by rfl
theorem Q1d:fillL (u8s (dig 256 32 0)) [(0,1,.int .u8 1)] = some (u8s (dig 256 32 1)):=by rfl
theorem Qmz {pub front back m:List Nat} {c:Int} (lp:pub.length = 32) (xp:∀ y ∈ pub,y < 256) (lf:front.length = 32) (xf:∀ y ∈ front,y < 256) (lb:back.length = 32) (xb:∀ y ∈ back,y < 256) (xm:∀ y ∈ m,y < 256) (hm:m.length < 2 ^ 45) (hc:Qd3 pub front back m c) :
  Vd T 12 [.agg (u8s pub).toArray,.agg (u8s (front ++ back)).toArray,W8 m] = some (.int .i64 c):=by
 have hz:Qa 32 (Value.int .u8 0) = u8s (dig 256 32 0):=rfl
 have lz:(dig 256 32 0).length = 32:=rfl
 have fz:=Ql6
 have hz48:=Qd8
 have lz48:=Qas
 have rft:∀ (r:List Nat) (c:Int),rf (Value.tuple #[eV r,.int .i64 c]) = true:=fun r c => Ta (a:=eV r) (b := .int .i64 c) (Vl r) rfl
 have lS:(front ++ back).length = 64:=by rw [Z4,lf,lb]
 have r0:rf (W8 m) = true:=rfl
 rcases Qem lp xp with ⟨A,a,hA,rA,eA⟩ | ⟨A,hA,lA,hno⟩
 ·unfold Rm at hA
  have p1:=rA.len
  have hl:=Qu6 (o0:=⟨u8s pub,true,true,true,1⟩) (o2:=⟨ns .u64 A,true,true,true,1⟩) (m:=W8 m) lf lb
  simp only [tcI,Zb,Za,Xu] at hl
  obtain ⟨a',ea',hc⟩:∃ A,enc A = pub ∧ (((V9 8 A = U2 ∨ ¬ num 256 back < ell) ∧ c = 70) ∨ (V9 8 A ≠ U2 ∧ num 256 back < ell ∧
   (((∀ R,enc R ≠ front) ∧ c = 70) ∨ ∃ R,enc R = front ∧ c = if W3 (V9 (num 256 back) Wd) (V9 (num 256 (chL front pub m)) A.neg) = R then 0 else 70))):=by
   rcases hc with h | h
   ·exact absurd eA (h.1 a)
   ·exact h
  have haa:a' = a:=Qlo (ea'.trans eA.symm)
  subst haa
  obtain ⟨P8,h8,r8⟩:=T5 rA (k:=dig 256 32 8) (Kc _ _ _) Qah
  rw [show num 256 (dig 256 32 8) = 8 by decide +kernel] at r8
  have hE8:=Qel r8
  have k8:=Qth
  have k1:=Q1d
  have l8:(dig 256 32 8).length = 32:=rfl
  have l1:(dig 256 32 1).length = 32:=rfl
  have lE8:=Dh (V9 8 a')
  have q8:Y2 (Qa 32 true) (u8s (enc (V9 8 a'))) (u8s (dig 256 32 1)) = some (decide (V9 8 a' = U2)):=by
   rw [Ga lE8 l1,← Qt1,Qde]
  obtain ⟨qc,hcn⟩:=Qfr lb xb
  have hcv:=R0 hcn
  clear hcn
  by_cases htiny:V9 8 a' = U2
  ·have hc70:c = 70:=by
    rcases hc with h | h
    ·exact h.2
    ·exact absurd htiny h.1
   subst hc70
   rw [decide_eq_true htiny] at q8
   generalize enc (V9 8 a') = E8 at *
   generalize front ++ back = SG at *
   generalize W8 m = M at *
   generalize dig 256 32 8 = K8 at *
   generalize dig 256 32 1 = K1 at *
   generalize dig 256 32 0 = Z at *
   generalize B6 = Z48 at *
   apply Xg
   apply Zt
   rw [Jc (fn:=Qdt) rfl]
   simp only [Qdt,↓Zr,Z0,quiet,cF,↓pF,reduceCtorEq,Qb,Qp,Zi,Zf,Zg,Ze,Zc,Qj,Q3,Qi,Q2,Q6,Q5,↓Zu,↓Zm,↓Z5,↓Z9,↓Z6,↓Z7,cL,Qo,Qn,Qx,Qw,Qu,Ql,Qk,Qv,Qd,Qz,Q0,Qq,Qf,Qh,Qg,Qt,Qs,Qr,Qm,Qe,cJ,hz,fz,hz48,hA,hl,h8,hE8,k8,k1,q8,hcv,Jy,Xs,Vm,Xt,J2,X2,lp,lf,lb,lS,lz,lz48,l8,l1,lE8,p1,Xd,Zd,rft,Vl,r0]
   rfl
  ·rw [decide_eq_false htiny] at q8
   by_cases hcan:num 256 back < ell
   ·rw [decide_eq_true hcan] at hcv
    have hc:(((∀ R,enc R ≠ front) ∧ c = 70) ∨ ∃ R,enc R = front ∧ c = if W3 (V9 (num 256 back) Wd) (V9 (num 256 (chL front pub m)) a'.neg) = R then 0 else 70):=by
     rcases hc with h | h
     ·rcases h.1 with h | h
      ·exact absurd h htiny
      ·exact absurd hcan h
     ·exact h.2.2
    rcases Qem lf xf with ⟨R,r,hR,rR,eR⟩ | ⟨R,hR,lR,hnR⟩
    ·unfold Rm at hR
     have p2:=rR.len
     have hcr:c = if W3 (V9 (num 256 back) Wd) (V9 (num 256 (chL front pub m)) a'.neg) = r then 0 else 70:=by
      rcases hc with h | ⟨r',er',h⟩
      ·exact absurd eR (h.1 r)
      ·rw [← Qlo (er'.trans eR.symm)]; exact h
     rw [Qg2] at hcr
     simp only [Qyy] at hcr
     have t2:=Qq8 lf xf
     have t3:=Qq8 lp xp
     have a2:Y3 .add (W8 front) (W8 pub) = some (W8 (front ++ pub)):=Qcr (by rw [lf,lp]; decide)
     have a3:Y3 .add (W8 (front ++ pub)) (W8 m) = some (W8 (front ++ pub ++ m)):=Qcr (by rw [Z4,lf,lp]; omega)
     have n2:Vd T 20 [W8 (front ++ pub ++ m)] = some (.agg (u8s (chL front pub m)).toArray):=by
      rw [chL,← Jx]
      exact Qsl (fun y hy => (Jb.1 hy).elim (fun h => (Jb.1 h).elim (xf y) (xp y)) (xm y)) (by rw [Z4,Z4,lf,lp]; omega)
     have l4:(chL front pub m).length = 32:=T7
     obtain ⟨B,hB,rB⟩:=Qz5
     obtain ⟨X,hX,rX⟩:=T5 rB lb xb
     have hEX:=Qel rX
     obtain ⟨Y,hY,rY⟩:=T5 rA l4 Qcx
     obtain ⟨D,hD,nD,fD⟩:=Q5c
     obtain ⟨W,hW,rW⟩:=Qk3 rR rY nD fD
     have hEW:=Qel rW
     have lEX:=Dh (V9 (num 256 back) Wd)
     have lEW:=Dh (W3 r (V9 (num 256 (chL front pub m)) a'))
     have qf:Y2 (Qa 32 true) (u8s (enc (V9 (num 256 back) Wd))) (u8s (enc (W3 r (V9 (num 256 (chL front pub m)) a')))) = some (decide (V9 (num 256 back) Wd = W3 r (V9 (num 256 (chL front pub m)) a'))):=by
      rw [Ga lEX lEW,Qde]
     have r1:rf (W8 (front ++ pub ++ m)) = true:=rfl
     have r2:rf (W8 front) = true:=rfl
     have r3:rf (W8 pub) = true:=rfl
     have p3:=rX.len
     have p4:=rY.len
     have p5:=rW.len
     have p6:=rB.len
     by_cases hfin:V9 (num 256 back) Wd = W3 r (V9 (num 256 (chL front pub m)) a')
     ·rw [if_pos hfin] at hcr
      subst hcr
      rw [decide_eq_true hfin] at qf
      clear hc hfin rX rY rW rB rR rA r8
      generalize enc (V9 (num 256 back) Wd) = EX at *
      generalize enc (W3 r (V9 (num 256 (chL front pub m)) a')) = EW at *
      generalize chL front pub m = CH at *
      generalize enc (V9 8 a') = E8 at *
      generalize W8 (front ++ pub ++ m) = V1 at *
      generalize W8 (front ++ pub) = V2 at *
      generalize W8 front = V3 at *
      generalize W8 pub = V4 at *
      generalize front ++ back = SG at *
      generalize W8 m = M at *
      generalize dig 256 32 8 = K8 at *
      generalize dig 256 32 1 = K1 at *
      generalize dig 256 32 0 = Z at *
      generalize B6 = Z48 at *
      apply Xg
      apply Zt
      rw [Jc (fn:=Qdt) rfl]
      simp only [Qdt,↓Zr,Z0,quiet,cF,↓pF,reduceCtorEq,Qb,Qp,Zi,Zf,Zg,Ze,Zc,Qj,Q3,Qi,Q2,Q6,Q5,↓Zu,↓Zm,↓Z5,↓Z9,↓Z6,↓Z7,cL,Qo,Qn,Qx,Qw,Qu,Ql,Qk,Qv,Qd,Qz,Q0,Qq,Qf,Qh,Qg,Qt,Qs,Qr,Qm,Qe,cJ,hz,fz,hz48,hA,hl,h8,hE8,k8,k1,q8,hcv,hR,t2,t3,a2,a3,n2,hB,hX,hEX,hY,hD,hW,hEW,qf,Jy,Xs,Vm,Xt,J2,X2,lp,lf,lb,lS,lz,lz48,l8,l1,l4,lEX,lEW,lE8,p1,p2,p3,p4,p5,p6,Xd,Zd,rft,Vl,r0,r1,r2,r3]
      rfl
     ·rw [if_neg hfin] at hcr
      subst hcr
      rw [decide_eq_false hfin] at qf
      clear hc hfin rX rY rW rB rR rA r8
      generalize enc (V9 (num 256 back) Wd) = EX at *
      generalize enc (W3 r (V9 (num 256 (chL front pub m)) a')) = EW at *
      generalize chL front pub m = CH at *
      generalize enc (V9 8 a') = E8 at *
      generalize W8 (front ++ pub ++ m) = V1 at *
      generalize W8 (front ++ pub) = V2 at *
      generalize W8 front = V3 at *
      generalize W8 pub = V4 at *
      generalize front ++ back = SG at *
      generalize W8 m = M at *
      generalize dig 256 32 8 = K8 at *
      generalize dig 256 32 1 = K1 at *
      generalize dig 256 32 0 = Z at *
      generalize B6 = Z48 at *
      apply Xg
      apply Zt
      rw [Jc (fn:=Qdt) rfl]
      simp only [Qdt,↓Zr,Z0,quiet,cF,↓pF,reduceCtorEq,Qb,Qp,Zi,Zf,Zg,Ze,Zc,Qj,Q3,Qi,Q2,Q6,Q5,↓Zu,↓Zm,↓Z5,↓Z9,↓Z6,↓Z7,cL,Qo,Qn,Qx,Qw,Qu,Ql,Qk,Qv,Qd,Qz,Q0,Qq,Qf,Qh,Qg,Qt,Qs,Qr,Qm,Qe,cJ,hz,fz,hz48,hA,hl,h8,hE8,k8,k1,q8,hcv,hR,t2,t3,a2,a3,n2,hB,hX,hEX,hY,hD,hW,hEW,qf,Jy,Xs,Vm,Xt,J2,X2,lp,lf,lb,lS,lz,lz48,l8,l1,l4,lEX,lEW,lE8,p1,p2,p3,p4,p5,p6,Xd,Zd,rft,Vl,r0,r1,r2,r3]
      rfl
    ·unfold Rm at hR
     have hc70:c = 70:=by
      rcases hc with h | ⟨r',er',h⟩
      ·exact h.2
      ·exact absurd er' (hnR r')
     subst hc70
     clear hc
     generalize enc (V9 8 a') = E8 at *
     generalize front ++ back = SG at *
     generalize W8 m = M at *
     generalize dig 256 32 8 = K8 at *
     generalize dig 256 32 1 = K1 at *
     generalize dig 256 32 0 = Z at *
     generalize B6 = Z48 at *
     apply Xg
     apply Zt
     rw [Jc (fn:=Qdt) rfl]
     simp only [Qdt,↓Zr,Z0,quiet,cF,↓pF,reduceCtorEq,Qb,Qp,Zi,Zf,Zg,Ze,Zc,Qj,Q3,Qi,Q2,Q6,Q5,↓Zu,↓Zm,↓Z5,↓Z9,↓Z6,↓Z7,cL,Qo,Qn,Qx,Qw,Qu,Ql,Qk,Qv,Qd,Qz,Q0,Qq,Qf,Qh,Qg,Qt,Qs,Qr,Qm,Qe,cJ,hz,fz,hz48,hA,hl,h8,hE8,k8,k1,q8,hcv,hR,Jy,Xs,Vm,Xt,J2,X2,lp,lf,lb,lS,lz,lz48,l8,l1,lE8,lR,p1,Xd,Zd,rft,Vl,r0]
     rfl
   ·rw [decide_eq_false hcan] at hcv
    have hc70:c = 70:=by
     rcases hc with h | h
     ·exact h.2
     ·exact absurd h.2.1 hcan
    subst hc70
    clear hc
    generalize enc (V9 8 a') = E8 at *
    generalize front ++ back = SG at *
    generalize W8 m = M at *
    generalize dig 256 32 8 = K8 at *
    generalize dig 256 32 1 = K1 at *
    generalize dig 256 32 0 = Z at *
    generalize B6 = Z48 at *
    apply Xg
    apply Zt
    rw [Jc (fn:=Qdt) rfl]
    simp only [Qdt,↓Zr,Z0,quiet,cF,↓pF,reduceCtorEq,Qb,Qp,Zi,Zf,Zg,Ze,Zc,Qj,Q3,Qi,Q2,Q6,Q5,↓Zu,↓Zm,↓Z5,↓Z9,↓Z6,↓Z7,cL,Qo,Qn,Qx,Qw,Qu,Ql,Qk,Qv,Qd,Qz,Q0,Qq,Qf,Qh,Qg,Qt,Qs,Qr,Qm,Qe,cJ,hz,fz,hz48,hA,hl,h8,hE8,k8,k1,q8,hcv,Jy,Xs,Vm,Xt,J2,X2,lp,lf,lb,lS,lz,lz48,l8,l1,lE8,p1,Xd,Zd,rft,Vl,r0]
    rfl
 ·unfold Rm at hA
  have hc60:c = 60:=by
   rcases hc with h | ⟨a,ea,h⟩
   ·exact h.2
   ·exact absurd ea (hno a)
  subst hc60
  clear hc
  generalize front ++ back = SG at *
  generalize W8 m = M at *
  generalize B6 = Z48 at *
  apply Xg
  apply Zt
  rw [Jc (fn:=Qdt) rfl]
  simp only [Qdt,↓Zr,Z0,quiet,cF,↓pF,reduceCtorEq,Qb,Qp,Zi,Zf,Zg,Ze,Zc,Qj,Q3,Qi,Q2,Q6,Q5,↓Zu,↓Zm,↓Z5,↓Z9,↓Z6,↓Z7,cL,Qo,Qn,Qx,Qw,Qu,Ql,Qk,Qv,Qd,Qz,Q0,Qq,Qf,Qh,Qg,Qt,Qs,Qr,Qm,Qe,cJ,hz,fz,hz48,hA,Jy,Xs,Vm,Xt,J2,X2,lp,lf,lb,lS,lz,lz48,lA,Xd,Zd,rft,Vl,r0]
  rfl
theorem Qej:W5.length = 32:=rfl
theorem Qmq:∀ y ∈ W5,y < 256:=by decide
theorem Args.one {H:List Ob} {a b n c:Nat} {t:List Nat} {e:Bool} {s:Nat} (ha:H[a]? = some ⟨[.slice (some ⟨b,0,none⟩) n n],true,true,e,s⟩) {e':Bool} {s':Nat} (hb:H[b]? = some ⟨u8s t,true,true,e',s'⟩) (hn:t.length = n) (xt:∀ y ∈ t,y < 256) (h40:n ≤ 2 ^ 47 - 4096):Args H (.slice (some ⟨a,0,none⟩) 1 c) [t]:=by
 have hp:HPart (LtN H.length) H (.slice (some ⟨b,0,none⟩) n n) t:=by
  have:=HPart.whole (n:=H.length) (c:=n) (Q8.1 hb).1 hb xt (by omega)
  rwa [hn] at this
 exact Args.arr ha rfl (.cons hp .nil) (by decide)
theorem Q47:Vd T 6 [] = some (.bool true):=by
 have hz:Qa 32 (Value.int .u8 0) = u8s (dig 256 32 0):=rfl
 have lz:(dig 256 32 0).length = 32:=rfl
 have hz64:=Ty
 have lz64:(Qa 64 0).length = 64:=Zd
 have fk:fillL (u8s (dig 256 32 0)) [(0,1,.int .u8 1)] = some (u8s W5):=rfl
 have f97:fillL [Value.int .u8 0] [(0,1,.int .u8 97)] = some (u8s [97]):=rfl
 have f98:fillL [Value.int .u8 0] [(0,1,.int .u8 98)] = some (u8s [98]):=rfl
 have fab:fillL [Value.int .u8 0,.int .u8 0] [(0,1,.int .u8 97),(1,1,.int .u8 98)] = some (u8s [97,98]):=rfl
 have fac:fillL [Value.int .u8 0,.int .u8 0] [(0,1,.int .u8 97),(1,1,.int .u8 99)] = some (u8s [97,99]):=rfl
 have f2:fillL [Value.slice none 0 0,.slice none 0 0] [(0,1,.slice (some ⟨0,0,none⟩) 1 1),(1,1,.slice (some ⟨1,0,none⟩) 1 1)] = some [.slice (some ⟨0,0,none⟩) 1 1,.slice (some ⟨1,0,none⟩) 1 1]:=rfl
 have f1:∀ b n:Nat,fillL [Value.slice none 0 0] [(0,1,.slice (some ⟨b,0,none⟩) n n)] = some [.slice (some ⟨b,0,none⟩) n n]:=fun _ _ => rfl
 have lk:=Qej
 have hpub:=Qgw Qej Qmq
 have lP:=G7 W5
 obtain ⟨G1,hG1⟩:∃ X,X = [(⟨u8s [97],true,true,true,1⟩:Ob),⟨u8s [98],true,true,true,1⟩,⟨[.slice (some ⟨0,0,none⟩) 1 1,.slice (some ⟨1,0,none⟩) 1 1],true,true,true,1⟩]:=⟨_,rfl⟩
 have hA1:Args G1 (.slice (some ⟨2,0,none⟩) 2 2) [[97],[98]]:=by
  have p1:HPart (LtN G1.length) G1 (.slice (some ⟨0,0,none⟩) 1 1) [97]:=HPart.whole (b:=[97]) (w:=true) (e:=true) (s:=1) (by rw [hG1]; exact (by decide:0 < 3)) (by rw [hG1]; rfl) (by decide) (by decide)
  have p2:HPart (LtN G1.length) G1 (.slice (some ⟨1,0,none⟩) 1 1) [98]:=HPart.whole (b:=[98]) (w:=true) (e:=true) (s:=1) (by rw [hG1]; exact (by decide:1 < 3)) (by rw [hG1]; rfl) (by decide) (by decide)
  exact Args.arr (ys:=[.slice (some ⟨0,0,none⟩) 1 1,.slice (some ⟨1,0,none⟩) 1 1]) (e:=true) (s:=1) (by rw [hG1]; rfl) rfl (.cons p1 (.cons p2 .nil)) (by decide)
 obtain ⟨l1,hm⟩:=Qrr Qej Qmq hA1 (by decide) (by decide)
 rw [show ([[97],[98]]:List (List Nat)).flatten = [97,98] from rfl] at hm
 have lS:=Qgm W5 [97,98]
 obtain ⟨G2,hG2⟩:∃ X,X = G1 ++ l1:=⟨_,rfl⟩
 obtain ⟨G3,hG3⟩:∃ X,X = G2 ++ [(⟨u8s (Mt W5 [97,98]),true,true,true,1⟩:Ob),⟨u8s (Ut W5),true,true,true,1⟩,⟨u8s [97,98],true,true,true,1⟩,⟨[.slice (some ⟨G2.length + 2,0,none⟩) 2 2],true,true,true,1⟩]:=⟨_,rfl⟩
 have lG3:G3.length = G2.length + 4:=by rw [hG3]; simp
 have g3:∀ j,G3[G2.length + j]? = [(⟨u8s (Mt W5 [97,98]),true,true,true,1⟩:Ob),⟨u8s (Ut W5),true,true,true,1⟩,⟨u8s [97,98],true,true,true,1⟩,⟨[.slice (some ⟨G2.length + 2,0,none⟩) 2 2],true,true,true,1⟩][j]? := fun j => by rw [hG3,Zh (by omega),Kb]
 have hA3:Args G3 (.slice (some ⟨G2.length + 3,0,none⟩) 1 1) [[97,98]]:=Args.one (g3 3) (g3 2) rfl (by decide) (by decide)
 obtain ⟨l3,c1,hc1,hs1⟩:=Qdg (G7 W5) (Tc W5) (M0 W5 [97,98]) (Qca W5 [97,98]) (D2 W5 [97,98]) (Qcg W5 [97,98]) hA3 (by decide) (by decide)
 rw [show ([[97,98]]:List (List Nat)).flatten = [97,98] from rfl] at hs1
 have e1:=Qzj hs1
 subst e1
 obtain ⟨G4,hG4⟩:∃ X,X = G3 ++ l3:=⟨_,rfl⟩
 have lG4:G3.length ≤ G4.length:=by rw [hG4]; simp
 obtain ⟨G5,hG5⟩:∃ X,X = G4 ++ [(⟨u8s [97,99],true,true,true,1⟩:Ob),⟨[.slice (some ⟨G4.length,0,none⟩) 2 2],true,true,true,1⟩]:=⟨_,rfl⟩
 have g5:∀ j,G5[G4.length + j]? = [(⟨u8s [97,99],true,true,true,1⟩:Ob),⟨[.slice (some ⟨G4.length,0,none⟩) 2 2],true,true,true,1⟩][j]? := fun j => by rw [hG5,Zh (by omega),Kb]
 have hA5:Args G5 (.slice (some ⟨G4.length + 1,0,none⟩) 1 1) [[97,99]]:=Args.one (g5 1) (g5 0) rfl (by decide) (by decide)
 obtain ⟨l5,c2,hc2,hs2⟩:=Qdg (G7 W5) (Tc W5) (M0 W5 [97,98]) (Qca W5 [97,98]) (D2 W5 [97,98]) (Qcg W5 [97,98]) hA5 (by decide) (by decide)
 rw [show ([[97,99]]:List (List Nat)).flatten = [97,99] from rfl] at hs2
 have e2:=Qsc Qyn hs2
 subst e2
 rw [show frL W5 [97,98] ++ bkL W5 [97,98] = Mt W5 [97,98] from rfl] at hc1 hc2
 have F1:[(⟨u8s [97],true,true,true,1⟩:Ob),⟨u8s [98],true,true,true,1⟩,⟨[.slice (some ⟨0,0,none⟩) 1 1,.slice (some ⟨1,0,none⟩) 1 1],true,true,true,1⟩] = G1:=hG1.symm
 have F2:G1 ++ l1 = G2:=hG2.symm
 have F3:G2 ++ [(⟨u8s (Mt W5 [97,98]),true,true,true,1⟩:Ob),⟨u8s (Ut W5),true,true,true,1⟩,⟨u8s [97,98],true,true,true,1⟩,⟨[.slice (some ⟨G2.length + 2,0,none⟩) 2 2],true,true,true,1⟩] = G3:=hG3.symm
 have F4:G3 ++ l3 = G4:=hG4.symm
 have F5:G4 ++ [(⟨u8s [97,99],true,true,true,1⟩:Ob),⟨[.slice (some ⟨G4.length,0,none⟩) 2 2],true,true,true,1⟩] = G5:=hG5.symm
 have u4:∀ l:List Ob,(G4 ++ l)[G2.length]? = some ⟨u8s (Mt W5 [97,98]),true,true,true,1⟩:=fun l => by
  rw [Qy (by omega),hG4,Qy (by omega)]; exact g3 0
 have u4':∀ l:List Ob,(G4 ++ l)[G2.length + 1]? = some ⟨u8s (Ut W5),true,true,true,1⟩:=fun l => by
  rw [Qy (by omega),hG4,Qy (by omega)]; exact g3 1
 have u5:G4[G2.length]? = some ⟨u8s (Mt W5 [97,98]),true,true,true,1⟩:=by
  rw [hG4,Qy (by omega)]; exact g3 0
 have u5':G4[G2.length + 1]? = some ⟨u8s (Ut W5),true,true,true,1⟩:=by
  rw [hG4,Qy (by omega)]; exact g3 1
 clear hG1 hG2 hG3 hG4 hG5 hs1 hs2 g3 g5 hA1 hA3 hA5
 generalize Mt W5 [97,98] = S at *
 generalize Ut W5 = P at *
 generalize dig 256 32 0 = Z at *
 generalize Qa 64 0 = Z64 at *
 generalize W5 = K at *
 generalize u8s [97] = b97 at *
 generalize u8s [98] = b98 at *
 generalize u8s [97,98] = bab at *
 generalize u8s [97,99] = bac at *
 apply Xg
 apply Zt
 rw [Jc (fn:=Q3i) rfl]
 simp only [Q3i,↓Zr,Z0,quiet,cF,↓pF,reduceCtorEq,Qb,Qp,Zi,Zf,Zg,Ze,Zc,Qj,Q3,Qi,Q2,Q6,Q5,↓Zu,↓Zm,↓Z5,↓Z9,↓Z6,↓Z7,cL,Qo,Qn,Qx,Qw,Qu,Ql,Qk,Qv,Qd,Qz,Q0,Qq,Qf,Qh,Qg,Qt,Qs,Qr,Qm,Qe,cJ,hz,hz64,fk,f97,f98,fab,fac,f1,f2,F1,hm,F2,hpub,F3,hc1,F4,u4,u4',u5,u5',F5,hc2,Jy,Xs,Vm,Xt,X2,lz,lz64,lk,lS,lP,Xd,Zd,Vl]
 rfl
structure BA (H0:List Ob) (bv:Value) (l:List Nat):Prop where
 len:vLen false bv = some (.int .i64 l.length)
 lt:∀ y ∈ l,y < 256
 le:l.length ≤ 2 ^ 47 - 4096
 fill:fillL [Value.slice none 0 0] [(0,1,bv)] = some [bv]
 whole:HPart (LtN H0.length) H0 bv l
 cut:∀ k,k ≤ l.length → ∃ s1 s2,(∀ G:List Ob,(∀ i,i < H0.length → G[i]? = H0[i]?) → vSliceSl G 1 none (some (.int .i64 (k:Nat))) none bv = some s1 ∧ vSliceSl G 1 (some (.int .i64 (k:Nat))) none none bv = some s2) ∧
  HPart (LtN H0.length) H0 s1 (l.take k) ∧ HPart (LtN H0.length) H0 s2 (l.drop k)
theorem BA.nil:BA [] (.slice none 0 0) [] :=
 ⟨rfl,by simp,by decide,rfl,⟨⟨_,_,rfl⟩,fun _ _ => rfl,by simp,by decide⟩,fun k hk => by
  have:k = 0:=by simpa using hk
  subst this
  exact ⟨.slice none 0 0,.slice none 0 0,fun G _ => ⟨rfl,rfl⟩,⟨⟨_,_,rfl⟩,fun _ _ => rfl,by simp,by decide⟩,⟨⟨_,_,rfl⟩,fun _ _ => rfl,by simp,by decide⟩⟩⟩
theorem BA.some {l:List Nat} {n:Nat} (ln:l.length = n) (xl:∀ x ∈ l,x < 256) (hm:n ≤ 2 ^ 47 - 4096):BA [⟨u8s l,true,false,false,1⟩] (.slice (some ⟨0,0,none⟩) n n) l:=by
 subst ln
 refine ⟨rfl,xl,hm,rfl,HPart.whole (w:=false) (e:=false) (s:=1) (n:=1) (R5) rfl xl hm,fun k hk => ?_⟩
 refine ⟨.slice (Ds ⟨0,0,none⟩) k l.length,.slice (Ds ⟨0,0 + k,none⟩) (l.length - k) (l.length - k),fun G hG => ?_,?_,?_⟩
 ·have hg:G[0]? = Ds ⟨u8s l,true,false,false,1⟩:=(hG 0 R5).trans rfl
  have hlv:liveAt G 0 = Ds ⟨u8s l,true,false,false,1⟩:=Yg hg rfl
  have b1:W4 l.length l.length none (Ds (.int .i64 (k:Nat))) none = Ds (0,k,l.length):=by
   rw [Bo,Gv hk,Q4]; rfl
  have b2:W4 l.length l.length (Ds (.int .i64 (k:Nat))) none none = Ds (k,l.length,l.length):=by
   rw [Bo,Tf,Q4,Gv hk,Q4]
  rw [Hz,Hz,b1,b2,Q4,Q4,hlv,Q4,Q4]
  simp [gate]
 ·have:=HPart.arr (n:=1) (H:=[(⟨u8s l,true,false,false,1⟩:Ob)]) (id:=0) (off:=0) (m:=k) (c:=l.length) (by decide) rfl xl (by omega) (by omega)
  rwa [Q2] at this
 ·have:=HPart.arr (n:=1) (H:=[(⟨u8s l,true,false,false,1⟩:Ob)]) (id:=0) (off:=0 + k) (m:=l.length - k) (c:=l.length - k) (by decide) rfl xl (by omega) (by omega)
  rw [Z1,Zl (by rw [Vs]; exact Zj _)] at this
  rw [Z1]
  exact this
theorem Args.of1 {H0 H:List Ob} {a c:Nat} {x:Value} {p:List Nat} {e:Bool} {s:Nat} (ha:H[a]? = some ⟨[x],true,true,e,s⟩) (hx:HPart (LtN H0.length) H0 x p) (hg:∀ i,i < H0.length → H[i]? = H0[i]?) (hl:H0.length ≤ H.length):Args H (.slice (some ⟨a,0,none⟩) 1 c) [p] :=
 Args.arr ha rfl (.cons (hx.ext hg hl) .nil) (by decide)
theorem HPart.b2s {K:Nat → Prop} {H G:List Ob} {x:Value} {p:List Nat} (h:HPart K H x p) (hg:∀ i,K i → G[i]? = H[i]?):elemsOf G 1 p.length x = some (u8s p):=h.reads G hg
theorem Q2q {H0:List Ob} {id k c:Nat} {l:List Nat} {w e:Bool} {s:Nat} (hid:H0[id]? = some ⟨u8s l,true,w,e,s⟩) (hok:e = true ∨ ¬ w = true ∨ 1 ≤ s) (xl:∀ x ∈ l,x < 256) (hk:k ≤ l.length) (hc:k ≤ c) (hm:l.length ≤ 2 ^ 47 - 4096) :
  BA H0 (.slice (some ⟨id,0,none⟩) k c) (l.take k):=by
 have hlt:id < H0.length:=(Q8.1 hid).1
 have lk:(l.take k).length = k:=by rw [Js]; omega
 have xk:∀ y ∈ l.take k,y < 256:=fun y hy => xl y (Kp hy)
 refine ⟨by rw [lk]; rfl,xk,by omega,rfl,?_,fun j hj => ?_⟩
 ·have:=HPart.arr (n:=H0.length) (H:=H0) (id:=id) (off:=0) (m:=k) (c:=c) hlt hid xl (by omega) (by omega)
  rwa [Q2] at this
 ·rw [lk] at hj
  refine ⟨.slice (some ⟨id,0,none⟩) j c,.slice (some ⟨id,0 + j,none⟩) (k - j) (c - j),fun G hG => ?_,?_,?_⟩
  ·have hg:G[id]? = some ⟨u8s l,true,w,e,s⟩:=(hG id hlt).trans hid
   have hlv:liveAt G id = some ⟨u8s l,true,w,e,s⟩:=Yg hg rfl
   have b1:W4 k c none (some (.int .i64 (j:Nat))) none = some (0,j,c):=by
    rw [Bo,Gv (by omega),Q4]; rfl
   have b2:W4 k c (some (.int .i64 (j:Nat))) none none = some (j,k,c):=by
    rw [Bo,Tf,Q4,Gv hj,Q4]
   rw [Hz,Hz,b1,b2,Q4,Q4,hlv,Q4,Q4]
   simp only [gate,if_pos hok]
   simp
  ·have:=HPart.arr (n:=H0.length) (H:=H0) (id:=id) (off:=0) (m:=j) (c:=c) hlt hid xl (by omega) (by omega)
   rw [Q2] at this
   rw [Quh,V8 hj]
   exact this
  ·have:=HPart.arr (n:=H0.length) (H:=H0) (id:=id) (off:=0 + j) (m:=k - j) (c:=c - j) hlt hid xl (by omega) (by omega)
   rw [Z1] at this ⊢
   rw [List.drop_take]
   exact this
structure BH (H0:List Ob) (bv:Value) (l:List Nat):Prop where
 len:vLen false bv = some (.int .i64 l.length)
 head:∀ k,k ≤ l.length → ∃ bw,(∀ G:List Ob,(∀ i,i < H0.length → G[i]? = H0[i]?) → vSliceSl G 1 none (some (.int .i64 (k:Nat))) none bv = some bw) ∧ BA H0 bw (l.take k)
theorem Q2r (H0:List Ob):BA H0 (.slice none 0 0) [] :=
 ⟨rfl,by simp,by decide,rfl,⟨⟨_,_,rfl⟩,fun _ _ => rfl,by simp,by decide⟩,fun k hk => by
  have:k = 0:=by simpa using hk
  subst this
  exact ⟨.slice none 0 0,.slice none 0 0,fun G _ => ⟨rfl,rfl⟩,⟨⟨_,_,rfl⟩,fun _ _ => rfl,by simp,by decide⟩,⟨⟨_,_,rfl⟩,fun _ _ => rfl,by simp,by decide⟩⟩⟩
theorem Qdk (H0:List Ob):BH H0 (.slice none 0 0) [] :=
 ⟨rfl,fun k hk => ⟨.slice none 0 0,fun G _ => by
  have:k = 0:=by simpa using hk
  subst this
  rfl,by rw [List.take_nil]; exact Q2r H0⟩⟩
theorem Qoi {H0:List Ob} {id n:Nat} {l:List Nat} {w e:Bool} {s:Nat} (hid:H0[id]? = some ⟨u8s l,true,w,e,s⟩) (hok:e = true ∨ ¬ w = true ∨ 1 ≤ s) (xl:∀ x ∈ l,x < 256) (ln:l.length = n) (hm:n ≤ 2 ^ 47 - 4096) :
  BH H0 (.slice (some ⟨id,0,none⟩) n n) l:=by
 subst ln
 have hlt:id < H0.length:=(Q8.1 hid).1
 refine ⟨rfl,fun k hk => ⟨.slice (some ⟨id,0,none⟩) k l.length,fun G hG => ?_,Q2q hid hok xl hk hk hm⟩⟩
 have hg:G[id]? = some ⟨u8s l,true,w,e,s⟩:=(hG id hlt).trans hid
 have hlv:liveAt G id = some ⟨u8s l,true,w,e,s⟩:=Yg hg rfl
 have b1:W4 l.length l.length none (some (.int .i64 (k:Nat))) none = some (0,k,l.length):=by
  rw [Bo,Gv hk,Q4]; rfl
 rw [Hz,b1,Q4,hlv,Q4]
 simp only [gate,if_pos hok]
 simp
theorem BH.nil:BH [] (.slice none 0 0) []:=Qdk []
theorem BH.some {l:List Nat} {n:Nat} (ln:l.length = n) (xl:∀ x ∈ l,x < 256) (hm:n ≤ 2 ^ 47 - 4096):BH [⟨u8s l,true,false,false,1⟩] (.slice (some ⟨0,0,none⟩) n n) l :=
 Qoi (w:=false) (e:=false) (s:=1) rfl (.inr (.inr (Zj 1))) xl ln hm
theorem Qrq (n b:Nat):(if ((b:Nat):Int) < (n:Int) then ((b:Nat):Int) else (n:Int)) = ((min n b:Nat):Int):=by
 split <;> omega
theorem Qfc {H:List Ob} {K:Nat → Prop} {x:Value} {p:List Nat} (hx:HPart K H x p):fillL [Value.slice none 0 0] [(0,1,x)] = some [x]:=by
 obtain ⟨a,c,rfl⟩:=hx.shape
 rfl
theorem Qlv {G l m:List Ob} {i:Nat} (h:i < G.length):(G ++ l ++ m)[i]? = G[i]? := by
 rw [Jx,Qy h]
theorem Qa2 {H0:List Ob} {ss l1 l2:List Nat} {av bv:Value} (lss:ss.length = 64) (xss:∀ y ∈ ss,y < 256) (ha:BH H0 av l1) (hb:BH H0 bv l2):∃ H',V6 T 5 [.agg (u8s ss).toArray,av,bv] H0 = some (.bool true,H',[]):=by
 have hsg:=Q47
 have hz:Qa 32 (Value.int .u8 0) = u8s (dig 256 32 0):=rfl
 have lz:(dig 256 32 0).length = 32:=rfl
 have hz64:=Ty
 have lz64:(Qa 64 0).length = 64:=Zd
 have hlen1:=ha.len
 have hlen2:=hb.len
 have hmin1:=Qrq l1.length 200
 have hmin2:=Qrq l2.length 200
 rw [show ((200:Nat):Int) = 200 from rfl] at hmin1 hmin2
 obtain ⟨aw,hcut1,hw1⟩:=ha.head (min l1.length 200) (by omega)
 obtain ⟨bw,hcut2,hw2⟩:=hb.head (min l2.length 200) (by omega)
 have lw1:(l1.take (min l1.length 200)).length ≤ 200:=by rw [Js]; omega
 have lw2:(l2.take (min l2.length 200)).length ≤ 200:=by rw [Js]; omega
 obtain ⟨a,hav⟩:∃ m,m = l1.take (min l1.length 200):=⟨_,rfl⟩
 obtain ⟨b,hbv⟩:∃ m,m = l2.take (min l2.length 200):=⟨_,rfl⟩
 rw [← hav] at hw1 lw1
 rw [← hbv] at hw2 lw2
 obtain ⟨s0,hs0⟩:∃ m,m = ss.take 32:=⟨_,rfl⟩
 obtain ⟨s1,hs1⟩:∃ m,m = (ss.drop 32).take 32:=⟨_,rfl⟩
 have ls0:s0.length = 32:=by rw [hs0,Js,lss]; rfl
 have ls1:s1.length = 32:=by rw [hs1,Js,Vs,lss]; rfl
 have xs0:∀ y ∈ s0,y < 256:=fun y hy => xss y (Kp (hs0 ▸ hy))
 have xs1:∀ y ∈ s1,y < 256:=fun y hy => xss y (Yz (Kp (hs1 ▸ hy)))
 have t0:We 32 (u8s ss) = u8s s0:=by rw [Dk,hs0]
 have t1:We 32 (Bs 32 (u8s ss)) = u8s s1:=by rw [Qgg,Dk,hs1]
 have hp0:=Qgw ls0 xs0
 have hp1:=Qgw ls1 xs1
 have lP0:=G7 s0
 have lP1:=G7 s1
 obtain ⟨G1,hG1⟩:∃ X,X = H0 ++ [(⟨u8s ss,true,true,true,1⟩:Ob)]:=⟨_,rfl⟩
 have lG1:G1.length = H0.length + 1:=by rw [hG1]; simp
 have up1:∀ i,i < H0.length → G1[i]? = H0[i]? := fun i hi => by rw [hG1,Qy hi]
 have us1:G1[H0.length]? = some ⟨u8s ss,true,true,true,1⟩:=by rw [hG1,Zh (Zj _),Kv]; rfl
 have F1:H0 ++ [(⟨u8s ss,true,true,true,1⟩:Ob)] = G1:=hG1.symm
 have c1:vSliceSl G1 1 none (some (.int .i64 ((min l1.length 200:Nat):Int))) none av = some aw:=hcut1 G1 up1
 have c2:vSliceSl G1 1 none (some (.int .i64 ((min l2.length 200:Nat):Int))) none bv = some bw:=hcut2 G1 up1
 obtain ⟨aa,ac,haw⟩:=hw1.whole.shape
 obtain ⟨ba,bc,hbw⟩:=hw2.whole.shape
 have fa:=Qfc hw1.whole
 have fb:=Qfc hw2.whole
 have hfa:([a]:List (List Nat)).flatten = a:=by simp
 have hfb:([b]:List (List Nat)).flatten = b:=by simp
 have hA1:Args (G1 ++ [⟨[aw],true,true,true,1⟩]) (.slice (some ⟨G1.length,0,none⟩) 1 1) [a]:=Args.of1 (e:=true) (s:=1) (by rw [Zh (by omega),Kv]; rfl) hw1.whole (fun i hi => by rw [Qy (by omega),up1 i hi]) (by simp; omega)
 obtain ⟨q1,hm⟩:=Qrr ls0 xs0 hA1 (by show 1 ≤ 1000; decide) (by rw [hfa]; omega)
 rw [hfa] at hm
 have lS:=Qgm s0 a
 obtain ⟨G2,hG2⟩:∃ X,X = G1 ++ [⟨[aw],true,true,true,1⟩] ++ q1:=⟨_,rfl⟩
 rw [← hG2] at hm
 have lG2:G1.length < G2.length:=by rw [hG2]; simp
 have us2:∀ m:List Ob,(G2 ++ m)[H0.length]? = some ⟨u8s ss,true,true,true,1⟩:=fun m => by rw [Qy (by omega),hG2,Qlv (by omega),us1]
 obtain ⟨G3,hG3⟩:∃ X,X = G2 ++ [(⟨u8s (Mt s0 a),true,true,true,1⟩:Ob),⟨u8s (Ut s0),true,true,true,1⟩,⟨u8s (Ut s1),true,true,true,1⟩]:=⟨_,rfl⟩
 have lG3:G3.length = G2.length + 3:=by rw [hG3]; simp
 have F3:G2 ++ [(⟨u8s (Mt s0 a),true,true,true,1⟩:Ob),⟨u8s (Ut s0),true,true,true,1⟩,⟨u8s (Ut s1),true,true,true,1⟩] = G3:=hG3.symm
 have up3:∀ i,i < H0.length → G3[i]? = H0[i]? := fun i hi => by rw [hG3,Qy (by omega),hG2,Qlv (by omega),up1 i hi]
 have g0:G3[G2.length]? = some ⟨u8s (Mt s0 a),true,true,true,1⟩:=by rw [hG3,Zh (Zj _),Kv]; rfl
 have g1:G3[G2.length + 1]? = some ⟨u8s (Ut s0),true,true,true,1⟩:=by rw [hG3,Zh (by omega),Kb]; rfl
 have g2:G3[G2.length + 2]? = some ⟨u8s (Ut s1),true,true,true,1⟩:=by rw [hG3,Zh (by omega),Kb]; rfl
 have hA2:Args (G3 ++ [⟨[bw],true,true,true,1⟩]) (.slice (some ⟨G3.length,0,none⟩) 1 1) [b]:=Args.of1 (e:=true) (s:=1) (by rw [Zh (by omega),Kv]; rfl) hw2.whole (fun i hi => by rw [Qy (by omega),up3 i hi]) (by simp; omega)
 obtain ⟨q2,x1,hk1,hs1'⟩:=Qdg (G7 s0) (Tc s0) (M0 s0 a) (Qca s0 a) (D2 s0 a) (Qcg s0 a) hA2 (by show 1 ≤ 1000; decide) (by rw [hfb]; omega)
 rw [hfb] at hs1'
 have hr1:=Qmz (G7 s0) (Tc s0) (M0 s0 a) (Qca s0 a) (D2 s0 a) (Qcg s0 a) hw2.lt (by omega) hs1'
 obtain ⟨G4,hG4⟩:∃ X,X = G3 ++ [⟨[bw],true,true,true,1⟩] ++ q2:=⟨_,rfl⟩
 have lG4:G3.length < G4.length:=by rw [hG4]; simp
 have gg:∀ i,i < G3.length → ∀ m:List Ob,(G4 ++ m)[i]? = G3[i]? := fun i hi m => by rw [Qy (by omega),hG4,Qlv hi]
 have hA3:Args (G4 ++ [⟨[aw],true,true,true,1⟩]) (.slice (some ⟨G4.length,0,none⟩) 1 1) [a]:=Args.of1 (e:=true) (s:=1) (by rw [Zh (by omega),Kv]; rfl) hw1.whole (fun i hi => by rw [gg i (by omega),up3 i hi]) (by simp; omega)
 obtain ⟨q3,x2,hk2,hs2'⟩:=Qdg (G7 s1) (Tc s1) (M0 s0 a) (Qca s0 a) (D2 s0 a) (Qcg s0 a) hA3 (by show 1 ≤ 1000; decide) (by rw [hfa]; omega)
 rw [hfa] at hs2'
 have hr2:=Qmz (G7 s1) (Tc s1) (M0 s0 a) (Qca s0 a) (D2 s0 a) (Qcg s0 a) hw1.lt (by omega) hs2'
 rw [show frL s0 a ++ bkL s0 a = Mt s0 a from rfl] at hk1 hr1 hk2 hr2
 rw [← hG4] at hk1
 rw [Jx] at hk2
 have gs0:∀ m:List Ob,(G3 ++ m)[G2.length]? = some ⟨u8s (Mt s0 a),true,true,true,1⟩:=fun m => by rw [Qy (by omega),g0]
 have gs1:∀ m:List Ob,(G3 ++ m)[G2.length + 1]? = some ⟨u8s (Ut s0),true,true,true,1⟩:=fun m => by rw [Qy (by omega),g1]
 have gs2:∀ m:List Ob,(G3 ++ m)[G2.length + 2]? = some ⟨u8s (Ut s1),true,true,true,1⟩:=fun m => by rw [Qy (by omega),g2]
 have gt0:∀ m:List Ob,(G4 ++ m)[G2.length]? = some ⟨u8s (Mt s0 a),true,true,true,1⟩:=fun m => by rw [gg _ (by omega),g0]
 have gt1:∀ m:List Ob,(G4 ++ m)[G2.length + 1]? = some ⟨u8s (Ut s0),true,true,true,1⟩:=fun m => by rw [gg _ (by omega),g1]
 have gt2:∀ m:List Ob,(G4 ++ m)[G2.length + 2]? = some ⟨u8s (Ut s1),true,true,true,1⟩:=fun m => by rw [gg _ (by omega),g2]
 have gu0:=gt0 []
 have gu1:=gt1 []
 have gu2:=gt2 []
 rw [Kw] at gu0 gu1 gu2
 have ea:∀ X:List Ob,elemsOf (G4 ++ X) 1 a.length aw = some (u8s a):=fun X => hw1.whole.b2s (fun i hi => by rw [gg i (by omega),up3 i hi])
 have eb:∀ X:List Ob,elemsOf (G4 ++ X) 1 b.length bw = some (u8s b):=fun X => hw2.whole.b2s (fun i hi => by rw [gg i (by omega),up3 i hi])
 have ea0:=ea []
 have eb0:=eb []
 rw [Kw] at ea0 eb0
 have ya:=Qam a
 have yb:=Qam b
 rw [show W8 b = .string ⟨(b.map UInt8.ofNat).toArray⟩ from rfl] at hr1
 rw [show W8 a = .string ⟨(a.map UInt8.ofNat).toArray⟩ from rfl] at hr2
 have r1:rf (.string ⟨(b.map UInt8.ofNat).toArray⟩) = true:=rfl
 have r2:rf (.string ⟨(a.map UInt8.ofNat).toArray⟩) = true:=rfl
 have hq:=Ga lP0 lP1
 obtain ⟨B1,hB1⟩:∃ X,X = (x1 == (0:Int)):=⟨_,rfl⟩
 have hn1:(x1 != (0:Int)) = !B1:=by rw [hB1]; rfl
 obtain ⟨B2,hB2⟩:∃ X,X = (x2 == (0:Int)):=⟨_,rfl⟩
 have hn2:(x2 != (0:Int)) = !B2:=by rw [hB2]; rfl
 have hB1':=hB1.symm
 have hB2':=hB2.symm
 subst haw hbw
 clear hcut1 hcut2 hw1 hw2 hA1 hA2 hA3 hs1' hs2' ha hb hav hbv hs0 hs1 hG1 hG2 hG3 hG4 up1 up3 gg hB1 hB2
 generalize min l1.length 200 = n1 at *
 generalize min l2.length 200 = n2 at *
 generalize a.map UInt8.ofNat = MA at *
 generalize b.map UInt8.ofNat = MB at *
 generalize Mt s0 a = S at *
 generalize hP0:Ut s0 = P0 at *
 generalize hP1:Ut s1 = P1 at *
 obtain ⟨B3,hB3⟩:∃ X,((⟨MA.toArray⟩:ByteArray).toList == (⟨MB.toArray⟩:ByteArray).toList) = X:=⟨_,rfl⟩
 generalize (P0 == P1) = B4 at *
 generalize dig 256 32 0 = Z at *
 generalize Qa 64 0 = Z64 at *
 have im:∀ k,H0.length ≤ k → Xo H0.length [] [k] = []:=fun k hk => Yi (by simp; omega)
 have im1:=im G2.length (by omega)
 have im2:=im (G2.length + 1) (by omega)
 have im3:=im (G2.length + 2) (by omega)
 have e3:((B1 = false) ∨ (B1 = true ∧ B3 = true) ∨ (B1 = true ∧ B3 = false)) ∧ ((B2 = false) ∨ (B2 = true ∧ B4 = true) ∨ (B2 = true ∧ B4 = false)):=by
  cases B1 <;> cases B2 <;> cases B3 <;> cases B4 <;> simp
 clear im
 apply Zt
 rw [Jc (fn:=Q24) rfl]
 obtain ⟨e | ⟨e,e'⟩ | ⟨e,e'⟩,e4 | ⟨e4,e5⟩ | ⟨e4,e5⟩⟩:=e3 <;> subst e e4 <;> (try subst e') <;> (try subst e5)
 all_goals
  simp only [Q24,↓Zr,Z0,quiet,cF,↓pF,reduceCtorEq,Qb,Qp,Zi,Zf,Zg,Ze,Zc,Qj,Q3,Qi,Q2,Q6,Q5,↓Zu,↓Zm,↓Z5,↓Z9,↓Z6,↓Z7,cL,Qo,Qn,Qx,Qw,Qu,Ql,Qk,Qv,Qd,Qz,Q0,Qq,Qf,Qh,Qg,Qt,Qs,Qr,Qm,Qe,cJ,hz,hz64,hsg,hlen1,hlen2,hmin1,hmin2,F1,us1,us2,c1,c2,fa,fb,hm,t0,t1,hp0,hp1,F3,hk1,hk2,hr1,hr2,g0,g1,g2,gs0,gs1,gs2,gt0,gt1,gt2,gu0,gu1,gu2,ea,eb,ea0,eb0,ya,yb,hq,hn1,hn2,hB1',hB2',hB3,im1,im2,im3,Jy,Xs,Vm,Xt,X2,lss,ls0,ls1,lS,lz,lz64,lP0,lP1,Xd,Zd,Vl,r1,r2]
 all_goals rfl
end Go.Ev.YtgacigcbglflkaaGreat

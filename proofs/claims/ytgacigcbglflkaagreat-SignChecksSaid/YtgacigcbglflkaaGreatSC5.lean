/- What the law leans on, part 5. -/
import Derived.Test.YtgacigcbglflkaaGreatSC4
set_option linter.unusedSimpArgs false
set_option linter.unusedVariables false
open Bool renaming and_eq_true → Vw
open Exists renaming intro → Zt
open Int renaming cast_ofNat_Int → Wx, natCast_add → B1, natCast_mul → Uq, natCast_one → B0, natCast_zero → Xu, reduceAdd → Qx, reduceBEq → Q6, reduceBNe → Q5, reduceEq → Qp, reduceGE → Q0, reduceGT → Qz, reduceLE → Qo, reduceLT → Qn, reduceMul → Qw, reduceNeg → Qv, reducePow → Qq, reduceSub → Qu, reduceTDiv → Ql, reduceTMod → Qk, reduceToNat → Qd
open List renaming all_cons → J2, append_assoc → J3, append_nil → Kv, cons_append → Zb, drop → Bz, drop_append_of_le_length → Uj, drop_eq_getElem?_toList_append → Yr, drop_of_length_le → Yb, drop_succ_cons → Qi, drop_zero → Q2, eq_nil_of_length_eq_zero → Yk, ext_getElem? → Ym, flatten_append → Wb, flatten_cons → Vj, flatten_nil → Ud, getElem?_append_left → Qy, getElem?_append_right → Zi, getElem?_cons_succ → Zp, getElem?_drop → Vx, getElem?_eq_getElem → Q1, getElem?_eq_none → Jy, getElem?_eq_some_iff → Q8, getElem?_map → Uv, getElem?_range → Hr, getElem?_replicate → Qca, getElem?_set_ne → Ji, getElem?_set_self → Xp, getElem?_take → Ks, getElem?_zipWith → Qex, length_append → Z4, length_drop → Vs, length_nil → Je, length_replicate → Zd, length_set → Xe, length_take → Jx, length_zipWith → Qik, map_append → Gx, map_cons → Wa, map_map → Qlq, map_nil → Uo, mem_append → Xb, mem_of_getElem? → Zk, mem_of_mem_drop → Yz, mem_of_mem_take → Kr, mem_or_eq_of_mem_set → Hq, mem_singleton → Bt, nil_append → Za, range → Y5, replicate → Qa, replicate_succ' → Rg, set_append_left → Rf, set_append_right → Uk, set_set → Qdq, take → Wn, take_add_one → Yf, take_append_drop → Y7, take_append_of_le_length → Wu, take_length → Hp, take_of_length_le → Zl, take_succ_cons → Qj, take_take → Qtz, take_zero → Q3, zipWith → B5
open Nat renaming Coprime → Q6j, add_assoc → Ka, add_comm → B4, add_mul → Kt, add_sub_cancel_left → Ke, add_zero → Jq, and_lt_two_pow → Dk, and_two_pow_sub_one_eq_mod → Mm, div_add_mod → Vr, div_div_eq_div_mul → X9, div_eq_of_lt → W0, div_le_self → W8, div_one → Wi, eq_zero_or_pos → Yd, le_of_lt → Wh, le_refl → Zj, le_trans → Un, lt_add_one → Qty, lt_irrefl → Xj, lt_of_le_of_lt → Wk, lt_of_lt_of_le → X1, lt_or_ge → V5, lt_trans → Uc, min_eq_left → V8, mod_eq_of_lt → Z3, mod_lt → Jj, mod_mod → Hb, mod_mul_mod → Qql, mod_one → Qod, mul_add → Ha, mul_assoc → Vo, mul_comm → K6, mul_le_mul → Wg, mul_le_mul_left → Ug, mul_le_mul_right → Vt, mul_lt_mul'' → Qob, mul_one → Xy, mul_zero → Te, not_lt_zero → Jw, one_mul → Wm, or_lt_two_pow → Qa7, pow_add → Wl, pow_le_pow_right → Vf, pow_mul → Yp, pow_pos → Wt, pow_succ → Kp, pow_zero → Ya, reduceAdd → Qf, reduceDiv → Qt, reduceEqDiff → Qb, reduceLT → Qm, reduceLeDiff → Qe, reduceMod → Qs, reduceMul → Qh, reducePow → Qr, reduceSub → Qg, strongRecOn → Qdt, sub_self → K9, sub_zero → Xw, testBit_and → Qds, testBit_or → Qfg, testBit_xor → Qqk, zero_add → Z1, zero_lt_one → Rx, zero_lt_succ → Qn9, zero_mul → Xi
open Option renaming bind_some → Q4, map_some → Dc, some → Dl
open Option.some renaming inj → Gw
set_option linter.unusedSimpArgs false
set_option linter.unusedVariables false
namespace Go.Ev.YtgacigcbglflkaaGreat
open Go Go.Ev
attribute [local congr] W7 Ul W6 Um Ww
set_option maxRecDepth 100000
def Qou (n p i:Nat) (ex:Env):St:=⟨[(0,.int .i64 n),(3,.int .u64 p),(4,.int .i64 i)] ++ ex,[],[]⟩
theorem Qzy {n:Nat} (h:n < 64):2 ^ n < 18446744073709551616:=Nat.pow_lt_pow_right (by decide:1 < 2) (m:=n) (n:=64) h
theorem Qu9 {n i:Nat} (hn:n < 64) (hi:i < n):Jk T 0 Qdb (Qou n (2 ^ i) i []) = some (.normal,Qou n (2 ^ (i + 1)) (i + 1) []):=by
 have e1:((i:Int) < (n:Int)) = True:=eq_true (by omega)
 have w1:IntKind.i64.wrap ((i:Int) + 1) = ((i + 1:Nat):Int):=Vn (n:=i + 1) (by omega)
 have hlt:2 ^ (i + 1) < 18446744073709551616:=Qzy (by omega)
 have w2:IntKind.u64.wrap (((2 ^ i:Nat):Int) * 2) = ((2 ^ (i + 1):Nat):Int):=by
  rw [show (((2 ^ i:Nat):Int) * 2) = ((2 ^ (i + 1):Nat):Int) by rw [Kp]; exact (Uq _ _).symm,Qbg,Z3 hlt]
 generalize 2 ^ (i + 1) = q at *
 generalize 2 ^ i = p at *
 generalize i + 1 = i1 at *
 simp only [Qou,Qdb,↓Zr,Z0,quiet,cF,↓pF,reduceCtorEq,Qb,Qp,Zh,Zf,Zg,Ze,Zc,Qj,Q3,Qi,Q2,Q6,Q5,↓Zu,↓Zm,↓Z5,↓Z9,↓Z6,↓Z7,cL,Qo,Qn,Qx,Qw,Qu,Ql,Qk,Qv,Qd,Qz,Q0,Qq,Qf,Qh,Qg,Qt,Qs,Qr,Qm,Qe,cJ,e1,w1,w2]
theorem Qgk {n:Nat} (hn:n < 64):Vd T 106 [.int .i64 n] = some (.int .u64 ((2 ^ n:Nat):Int)):=by
 have hb:=Wc (T:=T) (base:=0) (id:=0) (body:=Qdb) (fun i => Qou n (2 ^ i) i []) (s':=Qou n (2 ^ n) n [(7,.bool false)]) n
  (fun i hi => Qu9 hn hi) (by
   have e1:((n:Int) < (n:Int)) = False:=eq_false (by omega)
   generalize 2 ^ n = p at *
   simp only [Qou,Qdb,↓Zr,Z0,quiet,cF,↓pF,reduceCtorEq,Qb,Qp,Zh,Zf,Zg,Ze,Zc,Qj,Q3,Qi,Q2,Q6,Q5,↓Zu,↓Zm,↓Z5,↓Z9,↓Z6,↓Z7,cL,Qo,Qn,Qx,Qw,Qu,Ql,Qk,Qv,Qd,Qz,Q0,Qq,Qf,Qh,Qg,Qt,Qs,Qr,Qm,Qe,cJ,e1])
 generalize 2 ^ n = p at *
 simp only [Qou,Zb,Za,Ya,Xu,B0] at hb
 apply Xg
 apply Zt
 rw [Jb (fn:=Q2m) rfl]
 simp only [Q2m,↓Zr,Z0,quiet,cF,↓pF,reduceCtorEq,Qb,Qp,Zh,Zf,Zg,Ze,Zc,Qj,Q3,Qi,Q2,Q6,Q5,↓Zu,↓Zm,↓Z5,↓Z9,↓Z6,↓Z7,cL,Qo,Qn,Qx,Qw,Qu,Ql,Qk,Qv,Qd,Qz,Q0,Qq,Qf,Qh,Qg,Qt,Qs,Qr,Qm,Qe,cJ,hb]
 rfl
theorem M0 {x r:Nat} (hx:x < 18446744073709551616) (hr:0 < r) (hr':r ≤ 63):Vd T 105 [.int .u64 x,.int .i64 r,.int .i64 64] = some (.int .u64 (Y8 x r:Nat)):=by
 have h1:=Qgk (n:=r) (by omega)
 have h2:=Qgk (n:=64 - r) (by omega)
 have hsub:IntKind.i64.wrap (64 - (r:Int)) = ((64 - r:Nat):Int):=by rw [show (64:Int) - (r:Int) = ((64 - r:Nat):Int) by omega]; exact Vn (by omega)
 have hp:0 < 2 ^ r:=Wt (by decide)
 have hz:(((2 ^ r:Nat):Int) = 0) = False:=eq_false (by omega)
 have hd:((x:Nat):Int).tdiv ((2 ^ r:Nat):Int) = ((x / 2 ^ r:Nat):Int):=rfl
 have hd':IntKind.u64.wrap ((x / 2 ^ r:Nat):Int) = ((x / 2 ^ r:Nat):Int):=by rw [Qbg,Z3 (Wk (W8 _ _) hx)]
 have hm:IntKind.u64.wrap ((x:Int) * ((2 ^ (64 - r):Nat):Int)) = ((x * 2 ^ (64 - r) % 18446744073709551616:Nat):Int):=by rw [← Uq,Qbg]
 have hrot:x / 2 ^ r + x * 2 ^ (64 - r) % 18446744073709551616 = Y8 x r:=rfl
 have ha:IntKind.u64.wrap (((x / 2 ^ r:Nat):Int) + ((x * 2 ^ (64 - r) % 18446744073709551616:Nat):Int)) = ((Y8 x r:Nat):Int):=by
  rw [D3,hrot,Z3 (Ut hx hr hr')]
 generalize Y8 x r = R at *
 generalize x * 2 ^ (64 - r) % 18446744073709551616 = M at *
 generalize x / 2 ^ r = D at *
 generalize 2 ^ (64 - r) = A at *
 generalize 2 ^ r = B at *
 generalize 64 - r = q at *
 apply Xg
 apply Zt
 rw [Jb (fn:=Q2n) rfl]
 simp only [Q2n,↓Zr,Z0,quiet,cF,↓pF,reduceCtorEq,Qb,Qp,Zh,Zf,Zg,Ze,Zc,Qj,Q3,Qi,Q2,Q6,Q5,↓Zu,↓Zm,↓Z5,↓Z9,↓Z6,↓Z7,cL,Qo,Qn,Qx,Qw,Qu,Ql,Qk,Qv,Qd,Qz,Q0,Qq,Qf,Qh,Qg,Qt,Qs,Qr,Qm,Qe,cJ,h1,h2,hsub,hz,hd,hd',hm,ha]
 rfl
theorem Qg0 (x:Nat):Vd T 107 [.int .u64 x,.int .i64 64] = some (.int .u64 (x:Nat)):=by
 apply Xg
 apply Zt
 rw [Jb (fn:=Q2l) rfl]
 simp only [Q2l,↓Zr,Z0,quiet,cF,↓pF,reduceCtorEq,Qb,Qp,Zh,Zf,Zg,Ze,Zc,Qj,Q3,Qi,Q2,Q6,Q5,↓Zu,↓Zm,↓Z5,↓Z9,↓Z6,↓Z7,cL,Qo,Qn,Qx,Qw,Qu,Ql,Qk,Qv,Qd,Qz,Q0,Qq,Qf,Qh,Qg,Qt,Qs,Qr,Qm,Qe,cJ]
 rfl
theorem Qfr {a b c:Nat} (ha:a < 18446744073709551616) (hb:b < 18446744073709551616) (hc:c < 18446744073709551616):Vd T 104 [.int .u64 a,.int .u64 b,.int .u64 c] = some (.int .u64 ((a ^^^ b ^^^ c:Nat):Int)):=by
 have h1:=Mo ha hb
 have h2:=Mo (D1 ha hb) hc
 generalize a ^^^ b ^^^ c = R at *
 generalize a ^^^ b = q at *
 apply Xg
 apply Zt
 rw [Jb (fn:=Q2o) rfl]
 simp only [Q2o,↓Zr,Z0,quiet,cF,↓pF,reduceCtorEq,Qb,Qp,Zh,Zf,Zg,Ze,Zc,Qj,Q3,Qi,Q2,Q6,Q5,↓Zu,↓Zm,↓Z5,↓Z9,↓Z6,↓Z7,cL,Qo,Qn,Qx,Qw,Qu,Ql,Qk,Qv,Qd,Qz,Q0,Qq,Qf,Qh,Qg,Qt,Qs,Qr,Qm,Qe,cJ,h1,h2]
 rfl
theorem Qtw {e f g:Nat} (he:e < 2 ^ 64):(e &&& f) ||| ((2 ^ 64 - 1 - e) &&& g) = (e &&& f) ^^^ (((2 ^ 64 - 1) ^^^ e) &&& g):=by
 apply Nat.eq_of_testBit_eq
 intro i
 have h1:(2 ^ 64 - 1 - e).testBit i = (decide (i < 64) && !e.testBit i):=by
  rw [show 2 ^ 64 - 1 - e = 2 ^ 64 - (e + 1) by omega,Nat.testBit_two_pow_sub_succ he]
 have h2:((2 ^ 64 - 1) ^^^ e).testBit i = (decide (i < 64) ^^ e.testBit i):=by
  rw [Qqk,Nat.testBit_two_pow_sub_one]
 have h3:e.testBit i = true → i < 64:=fun h => by
  rcases V5 i 64 with k | k
  ·exact k
  ·rw [Nat.testBit_lt_two_pow (X1 he (Vf (by decide) k))] at h; cases h
 rw [Qfg,Qqk,Qds,Qds,Qds,h1,h2]
 cases he':e.testBit i <;> cases f.testBit i <;> cases g.testBit i <;> simp_all
theorem Q5u (a b c:Nat):(a &&& b) ||| (a &&& c) ||| (b &&& c) = maO a b c:=by
 apply Nat.eq_of_testBit_eq
 intro i
 simp only [maO,Qfg,Qqk,Qds]
 cases a.testBit i <;> cases b.testBit i <;> cases c.testBit i <;> rfl
theorem ch_or {e f g:Nat} (he:e < 18446744073709551616):(e &&& f) ||| ((18446744073709551615 - e) &&& g) = chO e f g:=Qtw (e:=e) (f:=f) (g:=g) he
theorem Qr0 (H:List Ob):V6 T 103 [] H = some (.slice (some ⟨H.length,0,none⟩) 80 80,H ++ [⟨ns .u64 Dn,true,true,true,1⟩],[]):=by
 have hf:=Qjt
 have l8:(ns .u64 Dn).length = 80:=rfl
 rw [Jb (fn:=Q2p) rfl]
 simp only [Q2p,↓Zr,Z0,quiet,cF,↓pF,reduceCtorEq,Qb,Qp,Zh,Zf,Zg,Ze,Zc,Qj,Q3,Qi,Q2,Q6,Q5,↓Zu,↓Zm,↓Z5,↓Z9,↓Z6,↓Z7,cL,Qo,Qn,Qx,Qw,Qu,Ql,Qk,Qv,Qd,Qz,Q0,Qq,Qf,Qh,Qg,Qt,Qs,Qr,Qm,Qe,cJ,hf,l8]
def shC (sv:Value):List Value:=[.int .i64 64,.int .i64 80,.int .i64 128,sv,.int .i64 1,.int .i64 8,.int .i64 7,.int .i64 19,.int .i64 61,.int .i64 6,.int .i64 28,.int .i64 34,.int .i64 39,.int .i64 14,.int .i64 18,.int .i64 41]
theorem shC_0 (sv:Value):(shC sv)[0]? = some (.int .i64 64):=rfl
theorem Qi7 (sv:Value):(shC sv)[1]? = some (.int .i64 80):=rfl
theorem Q3h (sv:Value):(shC sv)[2]? = some (.int .i64 128):=rfl
theorem shC_3 (sv:Value):(shC sv)[3]? = some sv:=rfl
theorem Qqt (sv:Value):(shC sv).length = 16:=rfl
def rzI (B:Nat) (x s:Value) (Hc:List Ob) (ex:Env):St:=⟨[(0,x),(3,.pointer (some ⟨B,0,none⟩)),(5,.int .i64 8),(6,s)] ++ ex,Hc,[]⟩
theorem Qu4 {B N:Nat} {x sv s0:Value} {H1 Hc0:List Ob} {bs:List Nat} (hBN:B < N) (hh:H1[B]? = some ⟨shC sv,true,true,true,1⟩) (hn:bs.length < 2 ^ 46) (hg0:Grown .u8 N Hc0 s0 (bs ++ [128])) (hL0:N ≤ Hc0.length) (hF0:∀ i,i < N → Hc0[i]? = H1[i]?) :
  ∃ s Hc,Jk T B (.block 0 (.loop Qdc)) (rzI B x s0 Hc0 []) = some (.normal,rzI B x s Hc [(48,.bool false)]) ∧ Grown .u8 N Hc s (bs ++ 128 :: Qa (B6 bs.length) 0) ∧ N ≤ Hc.length ∧ ∀ i,i < N → Hc[i]? = H1[i]? := by
 have f0:fillL [Value.int .u8 0] [(0,1,.int .u8 0)] = some [.int .u8 0]:=rfl
 have c2:=Q3h sv
 have hz:=Qcq bs.length
 obtain ⟨st,hb,s,Hc,rfl,hg,hL,hF⟩:=Vi (T:=T) (base:=B) (id:=0) (body:=Qdc)
  (fun j st => ∃ s Hc,st = rzI B x s Hc [] ∧ Grown .u8 N Hc s (bs ++ 128 :: Qa j 0) ∧ N ≤ Hc.length ∧ ∀ i,i < N → Hc[i]? = H1[i]?)
  (Q:=fun st => ∃ s Hc,st = rzI B x s Hc [(48,.bool false)] ∧ Grown .u8 N Hc s (bs ++ 128 :: Qa (B6 bs.length) 0) ∧ N ≤ Hc.length ∧ ∀ i,i < N → Hc[i]? = H1[i]?)
  (B6 bs.length) (s:=rzI B x s0 Hc0 []) ⟨_,_,rfl,hg0,hL0,hF0⟩
  (fun j st hj hs => by
   obtain ⟨s,Hc,rfl,hg,hL,hF⟩:=hs
   have hl:=hg.len
   have e1:(bs ++ 128 :: Qa j 0).length = bs.length + (1 + j):=by simp; omega
   rw [e1] at hl
   obtain ⟨s',H',M,h1,h2,h3,h4,h5⟩:=Me (x:=0) (bytes:=1) hg hL (by rw [e1]; omega) (by decide)
   have hm:Xo B [] M = []:=Yl fun i hi => by have:=h3 i hi; omega
   have hget:Hc[B]? = some ⟨shC sv,true,true,true,1⟩:=(hF B hBN).trans hh
   have w3:IntKind.i64.wrap (((bs.length + (1 + j):Nat):Int) + 16) = ((bs.length + (1 + j) + 16:Nat):Int):=Y0 (b:=16) (by omega)
   have w4:((bs.length + (1 + j) + 16:Nat):Int).tmod 128 = (((bs.length + (1 + j) + 16) % 128:Nat):Int):=rfl
   have w5:((((bs.length + (1 + j) + 16) % 128:Nat):Int) != 0) = true:=bne_iff_ne.2 (by have:=Qe4 bs.length j hj; omega)
   refine ⟨rzI B x s' H' [],?_,s',H',rfl,by rw [Rg,← Zb,← J3]; exact h2,h4,fun i hi => by rw [h5 i hi,hF i hi]⟩
   simp only [Xu] at h1
   generalize (bs.length + (1 + j) + 16) % 128 = r at *
   generalize bs.length + (1 + j) + 16 = r2 at *
   generalize bs.length + (1 + j) = r3 at *
   generalize shC sv = sc at *
   simp only [rzI,Qdc,↓Zr,Z0,quiet,cF,↓pF,reduceCtorEq,Qb,Qp,Zh,Zf,Zg,Ze,Zc,Qj,Q3,Qi,Q2,Q6,Q5,↓Zu,↓Zm,↓Z5,↓Z9,↓Z6,↓Z7,cL,Qo,Qn,Qx,Qw,Qu,Ql,Qk,Qv,Qd,Qz,Q0,Qq,Qf,Qh,Qg,Qt,Qs,Qr,Qm,Qe,cJ,hget,c2,hl,w3,w4,w5,f0,h1,hm])
  (fun st hs => by
   obtain ⟨s,Hc,rfl,hg,hL,hF⟩:=hs
   have hl:=hg.len
   have e1:(bs ++ 128 :: Qa (B6 bs.length) 0).length = bs.length + (1 + B6 bs.length):=by simp; omega
   rw [e1] at hl
   have hget:Hc[B]? = some ⟨shC sv,true,true,true,1⟩:=(hF B hBN).trans hh
   have w3:IntKind.i64.wrap (((bs.length + (1 + B6 bs.length):Nat):Int) + 16) = ((bs.length + (1 + B6 bs.length) + 16:Nat):Int):=Y0 (b:=16) (by omega)
   have w4:((bs.length + (1 + B6 bs.length) + 16:Nat):Int).tmod 128 = 0:=by
    have:((bs.length + (1 + B6 bs.length) + 16:Nat):Int).tmod 128 = (((bs.length + (1 + B6 bs.length) + 16) % 128:Nat):Int):=rfl
    rw [this,Qgo]; rfl
   refine ⟨_,?_,s,Hc,rfl,hg,hL,hF⟩
   generalize bs.length + (1 + B6 bs.length) + 16 = r2 at *
   generalize bs.length + (1 + B6 bs.length) = r3 at *
   generalize shC sv = sc at *
   simp only [rzI,Qdc,↓Zr,Z0,quiet,cF,↓pF,reduceCtorEq,Qb,Qp,Zh,Zf,Zg,Ze,Zc,Qj,Q3,Qi,Q2,Q6,Q5,↓Zu,↓Zm,↓Z5,↓Z9,↓Z6,↓Z7,cL,Qo,Qn,Qx,Qw,Qu,Ql,Qk,Qv,Qd,Qz,Q0,Qq,Qf,Qh,Qg,Qt,Qs,Qr,Qm,Qe,cJ,hget,c2,hl,w3,w4])
 exact ⟨s,Hc,hb,hg,hL,hF⟩
def rcI (B:Nat) (s:Value) (Hm:List Ob) (C:List Nat) (m:Nat) (iv:Int) (ex:Env):St:=⟨[(3,.pointer (some ⟨B,0,none⟩)),(5,.int .i64 8),(6,s),(7,.slice (some ⟨Hm.length,0,none⟩) 16 16),(8,.int .u64 m),(9,.int .i64 iv)] ++ ex,Hm ++ [⟨u8s C,true,true,true,1⟩],[]⟩
theorem Qvl {B n:Nat} {s:Value} {Hm:List Ob} {C:List Nat} (hB:B ≤ Hm.length) (lC:C.length = 16) (hn:n < 18446744073709551616) :
  Jk T B Mx (rcI B s Hm C n 15 []) = some (.normal,rcI B s Hm (C.set 15 (Mc n 15)) (n / 32) 14 []):=by
 have w1:(n:Int).tmod 32 = ((n % 32:Nat):Int):=rfl
 have w2:IntKind.u64.wrap (((n % 32:Nat):Int) * 8) = ((n % 32 * 8:Nat):Int):=by
  rw [show ((n % 32:Nat):Int) * 8 = ((n % 32 * 8:Nat):Int) from (Uq _ _).symm,Qbg,Z3 (by omega)]
 have hp:Mc n 15 = n % 32 * 8:=by
  unfold Mc
  rw [show 15 - 15 = 0 from rfl,Ya,Wi]
  omega
 have w3:IntKind.u8.wrap ((n % 32 * 8:Nat):Int) = ((n % 32 * 8:Nat):Int):=by rw [Qpp,Z3 (by omega)]
 have w4:IntKind.u64.wrap ((n:Int).tdiv 32) = ((n / 32:Nat):Int):=by rw [show ((n:Int).tdiv 32) = ((n / 32:Nat):Int) from rfl,Qbg,Z3 (by omega)]
 have hset:=U2 C 15 (n % 32 * 8)
 have im:Xo B [] [Hm.length] = []:=Yl (by simp; omega)
 have hl:15 + 1 ≤ (u8s C).length:=by rw [X2,lC]; decide
 rw [hp]
 generalize n % 32 * 8 = d at *
 generalize n % 32 = r at *
 generalize n / 32 = m at *
 simp only [rcI,Mx,↓Zr,Z0,quiet,cF,↓pF,reduceCtorEq,Qb,Qp,Zh,Zf,Zg,Ze,Zc,Qj,Q3,Qi,Q2,Q6,Q5,↓Zu,↓Zm,↓Z5,↓Z9,↓Z6,↓Z7,cL,Qo,Qn,Qx,Qw,Qu,Ql,Qk,Qv,Qd,Qz,Q0,Qq,Qf,Qh,Qg,Qt,Qs,Qr,Qm,Qe,cJ,w1,w2,w3,w4,hset,im,hl]
theorem Qzr {B n k:Nat} {s:Value} {Hm:List Ob} {C:List Nat} (hB:B ≤ Hm.length) (lC:C.length = 16) (hk:k < 15) (hn:n < 18446744073709551616) :
  Jk T B Mx (rcI B s Hm C n (k:Nat) []) = some (.normal,rcI B s Hm (C.set k (n % 256)) (n / 256) ((k:Int) - 1) []):=by
 have w1:(n:Int).tmod 256 = ((n % 256:Nat):Int):=rfl
 have w3:IntKind.u8.wrap ((n % 256:Nat):Int) = ((n % 256:Nat):Int):=by rw [Qpp,Hb]
 have w4:IntKind.u64.wrap ((n:Int).tdiv 256) = ((n / 256:Nat):Int):=by rw [show ((n:Int).tdiv 256) = ((n / 256:Nat):Int) from rfl,Qbg,Z3 (by omega)]
 have w5:IntKind.i64.wrap ((k:Int) - 1) = (k:Int) - 1:=K7 (by omega) (by omega)
 have e1:(0 ≤ (k:Int)) = True:=eq_true (by omega)
 have e2:((k:Int) == 15) = false:=beq_eq_false_iff_ne.2 (by omega)
 have e3:((k:Int) < 16) = True:=eq_true (by omega)
 have hset:=U2 C k (n % 256)
 have im:Xo B [] [Hm.length] = []:=Yl (by simp; omega)
 have hl:k + 1 ≤ (u8s C).length:=by rw [X2,lC]; omega
 generalize n % 256 = d at *
 generalize n / 256 = m at *
 simp only [rcI,Mx,↓Zr,Z0,quiet,cF,↓pF,reduceCtorEq,Qb,Qp,Zh,Zf,Zg,Ze,Zc,Qj,Q3,Qi,Q2,Q6,Q5,↓Zu,↓Zm,↓Z5,↓Z9,↓Z6,↓Z7,cL,Qo,Qn,Qx,Qw,Qu,Ql,Qk,Qv,Qd,Qz,Q0,Qq,Qf,Qh,Qg,Qt,Qs,Qr,Qm,Qe,cJ,w1,w3,w4,w5,e1,e2,e3,hset,im,hl]
theorem Qvm {B n:Nat} {s:Value} {Hm:List Ob} (hB:B ≤ Hm.length) (hn:n < 2 ^ 46) :
  Jk T B (.block 2 (.loop Mx)) (rcI B s Hm (Qa 16 0) n 15 []) = some (.normal,rcI B s Hm ((Y5 16).map (Mc n)) (8 * n / 256 ^ 16) (-1) [(62,.bool false)]):=by
 obtain ⟨st,hb,C,rfl,lC,hC⟩:=Vi (T:=T) (base:=B) (id:=2) (body:=Mx)
  (fun j st => ∃ C m,st = rcI B s Hm C m ((15:Int) - (j:Nat)) [] ∧ C.length = 16 ∧ (m = if j = 0 then n else 8 * n / 256 ^ j) ∧ ∀ i,16 ≤ i + j → i < 16 → C[i]? = some (Mc n i))
  (Q:=fun st => ∃ C,st = rcI B s Hm C (8 * n / 256 ^ 16) (-1) [(62,.bool false)] ∧ C.length = 16 ∧ ∀ i,i < 16 → C[i]? = some (Mc n i))
  16 (s:=rcI B s Hm (Qa 16 0) n 15 []) ⟨_,_,rfl,rfl,rfl,fun i h1 h2 => by omega⟩
  (fun j st hj hs => by
   obtain ⟨C,m,rfl,lC,hm,hC⟩:=hs
   rcases Yd j with h0 | h0
   ·subst h0
    rw [if_pos rfl] at hm
    subst hm
    refine ⟨_,Qvl hB lC (by omega),_,_,rfl,by rw [Xe]; exact lC,by rw [if_neg (by decide),Z1,Nat.pow_one]; omega,fun i h1 h2 => ?_⟩
    have:i = 15:=by omega
    subst this
    rw [Xp (by omega)]
   ·rw [if_neg (by omega)] at hm
    subst hm
    have e:((15:Int) - (j:Nat)) = ((15 - j:Nat):Int):=by omega
    have hlt:8 * n / 256 ^ j < 18446744073709551616:=Wk (W8 _ _) (by omega)
    have hp:Mc n (15 - j) = 8 * n / 256 ^ j % 256:=by unfold Mc; rw [show 15 - (15 - j) = j by omega]
    have hd:8 * n / 256 ^ j / 256 = 8 * n / 256 ^ (j + 1):=by rw [X9,Kp]
    have hbd:=Qzr (s:=s) hB lC (k:=15 - j) (by omega) hlt
    rw [← e,← hp,hd] at hbd
    refine ⟨_,hbd,_,_,by rw [show (15:Int) - (j:Nat) - 1 = (15:Int) - ((j + 1:Nat):Int) by omega],by rw [Xe]; exact lC,by rw [if_neg (by omega)],fun i h1 h2 => ?_⟩
    by_cases h:i = 15 - j
    ·subst h; rw [Xp (by omega)]
    ·rw [Ji (by omega)]; exact hC i (by omega) h2)
  (fun st hs => by
   obtain ⟨C,m,rfl,lC,hm,hC⟩:=hs
   rw [if_neg (by decide)] at hm
   refine ⟨_,?_,C,rfl,lC,fun i hi => hC i (by omega) hi⟩
   subst hm
   generalize 8 * n / 256 ^ 16 = m at *
   simp only [rcI,Mx,↓Zr,Z0,quiet,cF,↓pF,reduceCtorEq,Qb,Qp,Zh,Zf,Zg,Ze,Zc,Qj,Q3,Qi,Q2,Q6,Q5,↓Zu,↓Zm,↓Z5,↓Z9,↓Z6,↓Z7,cL,Qo,Qn,Qx,Qw,Qu,Ql,Qk,Qv,Qd,Qz,Q0,Qq,Qf,Qh,Qg,Qt,Qs,Qr,Qm,Qe,cJ])
 have:C = (Y5 16).map (Mc n):=Ym fun i => by
  by_cases h:i < 16
  ·rw [hC i h]; simp [h]
  ·rw [Jy (by omega),Jy (by simp; omega)]
 rw [← this]
 exact hb
def tuC:List Value:=[.int .i64 1,.int .i64 8,.int .i64 7,.int .i64 19,.int .i64 61,.int .i64 6,.int .i64 28,.int .i64 34,.int .i64 39,.int .i64 14,.int .i64 18,.int .i64 41]
def rhE (B tid L:Nat) (tb sv:Value) (u at_ q:Nat) (i:Int):Env:=[(3,.pointer (some ⟨B,0,none⟩)),(5,.int .i64 8),(6,.slice (some ⟨tid,0,none⟩) L L),(10,tb),(11,sv),(12,.int .i64 64),(13,.pointer (some ⟨u,0,none⟩)),(14,.int .i64 at_),(15,.slice (some ⟨q,0,none⟩) 80 80),(16,.int .i64 i)]
def rhI (B tid L:Nat) (tb sv:Value) (u at_:Nat) (Hm:List Ob) (W:List Nat) (i:Int) (ex:Env):St:=⟨rhE B tid L tb sv u at_ Hm.length i ++ ex,Hm ++ [⟨ns .u64 W,true,true,true,1⟩],[]⟩
theorem Qvr {B tid u at_ i:Nat} {tb sv:Value} {Hm:List Ob} {all b:List Nat} {x4:Bool} (hB:B ≤ Hm.length) (ht:Hm[tid]? = some ⟨u8s all,true,true,x4,1⟩) (hL:all.length < 2 ^ 50) (hb:∀ j,j < 128 → all[at_ + j]? = b[j]?) (hbl:b.length = 128) (hx:∀ y ∈ b,y < 256) (hat:at_ + 128 ≤ all.length) (hi:i < 16) :
  Jk T B (.block 8 (.loop Qdd)) (rhI B tid all.length tb sv u at_ Hm (pf 80 (Wd b) i) i [(17,.int .i64 0)]) = some (.normal,rhI B tid all.length tb sv u at_ Hm (pf 80 (Wd b) (i + 1)) i [(17,.int .i64 8),(120,.bool false)]):=by
 have hWl:=He b
 have h8:((b.drop (8 * i)).take 8).length = 8:=by rw [Jx,Vs]; omega
 have hz:=Qgn (L:=Wd b) (by omega:i < 80) hWl
 have hpl:=Hw hWl (by omega:i ≤ 80)
 have Qg7:(pf 80 (Wd b) i).set i (be []) = pf 80 (Wd b) i:=Qme hz
 have hW:=Qdz (b:=b) hi
 have hstep:=Gq hWl (by omega:i < 80) hW
 have h:=Wc (T:=T) (base:=B) (id:=8) (body:=Qdd) (fun j => rhI B tid all.length tb sv u at_ Hm ((pf 80 (Wd b) i).set i (be (((b.drop (8 * i)).take 8).take j))) i [(17,.int .i64 j)]) (s':=rhI B tid all.length tb sv u at_ Hm (pf 80 (Wd b) (i + 1)) i [(17,.int .i64 8),(120,.bool false)]) 8
  (fun j hj => by
   obtain ⟨x,hxj⟩:∃ x,((b.drop (8 * i)).take 8)[j]? = some x:=⟨_,Q1 (by omega)⟩
   have hxb:b[8 * i + j]? = some x:=by
    rw [Ks,if_pos hj,Vx] at hxj; exact hxj
   have hx':=hx x (Zk hxb)
   have hxa:(u8s all)[at_ + 8 * i + j]? = some (.int .u8 (x:Nat)):=Wp (by rw [show at_ + 8 * i + j = at_ + (8 * i + j) by omega,hb _ (by omega)]; exact hxb)
   have hbel:=Qrn j (((b.drop (8 * i)).take 8).take j) (by rw [Jx]; omega) (fun y hy => hx y (Yz (Kr (Kr hy))))
   have hbes:be (((b.drop (8 * i)).take 8).take (j + 1)) = be (((b.drop (8 * i)).take 8).take j) * 256 + x:=by rw [Yf,hxj]; exact Qlh _ _
   rw [hbes]
   have h256:(256:Nat) ^ j ≤ 256 ^ 7:=Vf (by decide) (by omega)
   have e7:(256:Nat) ^ 7 = 72057594037927936:=by decide
   rw [e7] at h256
   generalize be (((b.drop (8 * i)).take 8).take j) = a at *
   have hg:((pf 80 (Wd b) i).set i a)[i]? = some a:=by rw [Xp (by rw [hpl]; omega)]
   have hgc:=Yo (k := .u64) hg
   have hss:=Uw .u64 ((pf 80 (Wd b) i).set i a) i (a * 256 + x)
   rw [Qdq] at hss
   have hln:((pf 80 (Wd b) i).set i a).length = 80:=by rw [Xe]; exact hpl
   have w1:IntKind.i64.wrap ((j:Int) + 1) = ((j + 1:Nat):Int):=Y0 (b:=1) (by omega)
   have w2:IntKind.u64.wrap (x:Int) = (x:Int):=D2 (by omega)
   have w3:IntKind.u64.wrap ((a:Int) * 256) = ((a * 256:Nat):Int):=by
    rw [show (a:Int) * 256 = ((a * 256:Nat):Int) from (Uq _ _).symm]; exact D2 (by omega)
   have w4:IntKind.u64.wrap (((a * 256:Nat):Int) + (x:Int)) = ((a * 256 + x:Nat):Int):=by
    rw [← B1]; exact D2 (by omega)
   have w5:IntKind.i64.wrap (8 * (i:Int)) = ((8 * i:Nat):Int):=Vn (n:=8 * i) (by omega)
   have w6:IntKind.i64.wrap ((at_:Int) + ((8 * i:Nat):Int)) = ((at_ + 8 * i:Nat):Int):=Y0 (by omega)
   have w7:IntKind.i64.wrap (((at_ + 8 * i:Nat):Int) + (j:Int)) = ((at_ + 8 * i + j:Nat):Int):=Y0 (by omega)
   have e1:((j:Int) < 8) = True:=eq_true (by omega)
   have e2:((i:Int) < 80) = True:=eq_true (by omega)
   have e3:(((at_ + 8 * i + j:Nat):Int) < ((all.length:Nat):Int)) = True:=eq_true (by omega)
   have hget:(Hm ++ [⟨ns .u64 ((pf 80 (Wd b) i).set i a),true,true,true,1⟩])[tid]? = some ⟨u8s all,true,true,x4,1⟩:=by rw [Qy (Q8.1 ht).1]; exact ht
   have hle:i + 1 ≤ (ns .u64 ((pf 80 (Wd b) i).set i a)).length:=by rw [J0,hln]; omega
   have im:Xo B [] [Hm.length] = []:=Yl (by simp; omega)
   generalize (pf 80 (Wd b) i).set i a = O1 at *
   generalize (pf 80 (Wd b) i).set i (a * 256 + x) = O2 at *
   generalize hv:a * 256 + x = v at *
   generalize a * 256 = v2 at *
   generalize hoo:at_ + 8 * i + j = oo at *
   generalize at_ + 8 * i = o2 at *
   generalize 8 * i = o3 at *
   generalize all.length = LL at *
   generalize j + 1 = j1 at *
   simp only [rhI,rhE,Qdd,↓Zr,Z0,quiet,cF,↓pF,reduceCtorEq,Qb,Qp,Zh,Zf,Zg,Ze,Zc,Qj,Q3,Qi,Q2,Q6,Q5,↓Zu,↓Zm,↓Z5,↓Z9,↓Z6,↓Z7,cL,Qo,Qn,Qx,Qw,Qu,Ql,Qk,Qv,Qd,Qz,Q0,Qq,Qf,Qh,Qg,Qt,Qs,Qr,Qm,Qe,cJ,e1,e2,e3,w1,w2,w3,w4,w5,w6,w7,hget,hxa,hgc,hss,hle,im])
  (by
   have e8:((b.drop (8 * i)).take 8).take 8 = (b.drop (8 * i)).take 8:=by rw [Qtz,Nat.min_self]
   rw [e8,hstep]
   generalize pf 80 (Wd b) (i + 1) = O2 at *
   simp only [rhI,rhE,Qdd,↓Zr,Z0,quiet,cF,↓pF,reduceCtorEq,Qb,Qp,Zh,Zf,Zg,Ze,Zc,Qj,Q3,Qi,Q2,Q6,Q5,↓Zu,↓Zm,↓Z5,↓Z9,↓Z6,↓Z7,cL,Qo,Qn,Qx,Qw,Qu,Ql,Qk,Qv,Qd,Qz,Q0,Qq,Qf,Qh,Qg,Qt,Qs,Qr,Qm,Qe,cJ])
 rw [Q3,Qg7] at h
 exact h
theorem Qqq:tuC.length = 12:=rfl
theorem p7_v:Vd T 106 [.int .i64 7] = some (.int .u64 128):=Qgk (n:=7) (by decide)
theorem p6_v:Vd T 106 [.int .i64 6] = some (.int .u64 64):=Qgk (n:=6) (by decide)
theorem Qzu {B tid u at_ i:Nat} {tb sv sh:Value} {Hm:List Ob} {L:Nat} {b:List Nat} (hB:B < Hm.length) (hS:Hm[B]? = some ⟨shC sh,true,true,true,1⟩) (hU:Hm[u]? = some ⟨tuC,true,true,true,1⟩) (hb:∀ x ∈ b,x < 256) (hi:16 ≤ i) (hi':i < 80) :
  Jk T B My (rhI B tid L tb sv u at_ Hm (pf 80 (Wd b) i) i []) = some (.normal,rhI B tid L tb sv u at_ Hm (pf 80 (Wd b) (i + 1)) ((i + 1:Nat):Int) []):=by
 have hWl:=He b
 have hW:=Qdy (b:=b) hi hi'
 have hstep:=Gq hWl hi' hW
 have hpl:=Hw hWl (Wh hi')
 obtain ⟨x,hx⟩:∃ x,(Wd b)[i - 15]? = some x:=⟨_,Q1 (by omega)⟩
 obtain ⟨y,hy⟩:∃ x,(Wd b)[i - 2]? = some x:=⟨_,Q1 (by omega)⟩
 obtain ⟨w,hu⟩:∃ x,(Wd b)[i - 16]? = some x:=⟨_,Q1 (by omega)⟩
 obtain ⟨v,hv⟩:∃ x,(Wd b)[i - 7]? = some x:=⟨_,Q1 (by omega)⟩
 have lx:=Qfk hb hx
 have ly:=Qfk hb hy
 have cx:=Yo (k := .u64) ((Ty (n:=80) (by omega:i - 15 < i) (by omega)).trans hx)
 have cy:=Yo (k := .u64) ((Ty (n:=80) (by omega:i - 2 < i) (by omega)).trans hy)
 have cu:=Yo (k := .u64) ((Ty (n:=80) (by omega:i - 16 < i) (by omega)).trans hu)
 have cv:=Yo (k := .u64) ((Ty (n:=80) (by omega:i - 7 < i) (by omega)).trans hv)
 rw [Bn hx,Bn hy,Bn hu,Bn hv] at hstep
 have r1:Vd T 105 [.int .u64 x,.int .i64 1,.int .i64 64] = some (.int .u64 (Y8 x 1:Nat)):=M0 (r:=1) lx (by decide) (by decide)
 have r8:Vd T 105 [.int .u64 x,.int .i64 8,.int .i64 64] = some (.int .u64 (Y8 x 8:Nat)):=M0 (r:=8) lx (by decide) (by decide)
 have r19:Vd T 105 [.int .u64 y,.int .i64 19,.int .i64 64] = some (.int .u64 (Y8 y 19:Nat)):=M0 (r:=19) ly (by decide) (by decide)
 have r61:Vd T 105 [.int .u64 y,.int .i64 61,.int .i64 64] = some (.int .u64 (Y8 y 61:Nat)):=M0 (r:=61) ly (by decide) (by decide)
 have b1:=Ut (r:=1) lx (by decide) (by decide)
 have b8:=Ut (r:=8) lx (by decide) (by decide)
 have b19:=Ut (r:=19) ly (by decide) (by decide)
 have b61:=Ut (r:=61) ly (by decide) (by decide)
 have b7:x / 2 ^ 7 < 18446744073709551616:=Qc3 lx
 have b6:y / 2 ^ 6 < 18446744073709551616:=Qc3 ly
 have x2:Vd T 104 [.int .u64 (Y8 x 1:Nat),.int .u64 (Y8 x 8:Nat),.int .u64 (x / 2 ^ 7:Nat)] = some (.int .u64 (sg0 x:Nat)):=Qfr b1 b8 b7
 have y2:Vd T 104 [.int .u64 (Y8 y 19:Nat),.int .u64 (Y8 y 61:Nat),.int .u64 (y / 2 ^ 6:Nat)] = some (.int .u64 (sg1 y:Nat)):=Qfr b19 b61 b6
 have p7:=p7_v
 have p6:=p6_v
 have s7:IntKind.u64.wrap ((x:Int).tdiv 128) = ((x / 2 ^ 7:Nat):Int):=D2 b7
 have s6:IntKind.u64.wrap ((y:Int).tdiv 64) = ((y / 2 ^ 6:Nat):Int):=D2 b6
 have m1:=D3 w (sg0 x)
 have m2:=D3 ((w + sg0 x) % 18446744073709551616) v
 have m3:=D3 (((w + sg0 x) % 18446744073709551616 + v) % 18446744073709551616) (sg1 y)
 have hsum:(((w + sg0 x) % 18446744073709551616 + v) % 18446744073709551616 + sg1 y) % 18446744073709551616 = (w + v + sg0 x + sg1 y) % 18446744073709551616:=by omega
 rw [hsum] at m3
 have kp:=Qg0 ((w + v + sg0 x + sg1 y) % 18446744073709551616)
 have hset:=Uw .u64 (pf 80 (Wd b) i) i ((w + v + sg0 x + sg1 y) % 18446744073709551616)
 rw [hstep] at hset
 have e1:((i:Int) < 80) = True:=eq_true (by omega)
 have e2:((i:Int) < 16) = False:=eq_false (by omega)
 have i15:IntKind.i64.wrap ((i:Int) - 15) = ((i - 15:Nat):Int):=by rw [K7 (by omega) (by omega)]; omega
 have i2:IntKind.i64.wrap ((i:Int) - 2) = ((i - 2:Nat):Int):=by rw [K7 (by omega) (by omega)]; omega
 have i16:IntKind.i64.wrap ((i:Int) - 16) = ((i - 16:Nat):Int):=by rw [K7 (by omega) (by omega)]; omega
 have i7:IntKind.i64.wrap ((i:Int) - 7) = ((i - 7:Nat):Int):=by rw [K7 (by omega) (by omega)]; omega
 have j15:(((i - 15:Nat):Int) < 80) = True:=eq_true (by omega)
 have j2:(((i - 2:Nat):Int) < 80) = True:=eq_true (by omega)
 have j16:(((i - 16:Nat):Int) < 80) = True:=eq_true (by omega)
 have j7:(((i - 7:Nat):Int) < 80) = True:=eq_true (by omega)
 have w3:IntKind.i64.wrap ((i:Int) + 1) = ((i + 1:Nat):Int):=Y0 (b:=1) (by omega)
 have hle:i + 1 ≤ (ns .u64 (pf 80 (Wd b) i)).length:=by rw [J0,hpl]; omega
 have im:Xo B [] [Hm.length] = []:=Yl (by simp; omega)
 have gS:∀ m:List Ob,(Hm ++ m)[B]? = some ⟨shC sh,true,true,true,1⟩:=fun m => by rw [Qy hB]; exact hS
 have gU:∀ m:List Ob,(Hm ++ m)[u]? = some ⟨tuC,true,true,true,1⟩:=fun m => by rw [Qy (Q8.1 hU).1]; exact hU
 have c1:=Qi7 sh
 have t0:tuC[0]? = some (.int .i64 1):=rfl
 have t1:tuC[1]? = some (.int .i64 8):=rfl
 have t2:tuC[2]? = some (.int .i64 7):=rfl
 have t3:tuC[3]? = some (.int .i64 19):=rfl
 have t4:tuC[4]? = some (.int .i64 61):=rfl
 have t5:tuC[5]? = some (.int .i64 6):=rfl
 clear hsum hstep hW hx hy hu hv hWl hS hU
 generalize pf 80 (Wd b) i = O1 at *
 generalize pf 80 (Wd b) (i + 1) = O2 at *
 generalize (w + v + sg0 x + sg1 y) % 18446744073709551616 = z at *
 generalize ((w + sg0 x) % 18446744073709551616 + v) % 18446744073709551616 = z2 at *
 generalize (w + sg0 x) % 18446744073709551616 = z3 at *
 generalize sg0 x = gx at *
 generalize sg1 y = gy at *
 generalize Y8 x 1 = x1v at *
 generalize Y8 x 8 = x8v at *
 generalize Y8 y 19 = y19v at *
 generalize Y8 y 61 = y61v at *
 generalize x / 2 ^ 7 = x7v at *
 generalize y / 2 ^ 6 = y6v at *
 generalize i - 15 = k15 at *
 generalize i - 2 = k2 at *
 generalize i - 16 = k16 at *
 generalize i - 7 = k7 at *
 generalize hi1:i + 1 = i1 at *
 generalize tuC = tc at *
 generalize shC sh = sc at *
 simp only [rhI,rhE,My,↓Zr,Z0,quiet,cF,↓pF,reduceCtorEq,Qb,Qp,Zh,Zf,Zg,Ze,Zc,Qj,Q3,Qi,Q2,Q6,Q5,↓Zu,↓Zm,↓Z5,↓Z9,↓Z6,↓Z7,cL,Qo,Qn,Qx,Qw,Qu,Ql,Qk,Qv,Qd,Qz,Q0,Qq,Qf,Qh,Qg,Qt,Qs,Qr,Qm,Qe,cJ,gS,gU,c1,t0,t1,t2,t3,t4,t5,e1,e2,i15,i2,i16,i7,j15,j2,j16,j7,cx,cy,cu,cv,r1,r8,r19,r61,p7,p6,s7,s6,x2,y2,m1,m2,m3,kp,hset,w3,hi1,hle,im]
theorem Q45 {B tid u at_ i:Nat} {tb sv sh:Value} {Hm:List Ob} {all b:List Nat} {x4:Bool} (hB:B < Hm.length) (hS:Hm[B]? = some ⟨shC sh,true,true,true,1⟩) (ht:Hm[tid]? = some ⟨u8s all,true,true,x4,1⟩) (hL:all.length < 2 ^ 50) (hb:∀ j,j < 128 → all[at_ + j]? = b[j]?) (hbl:b.length = 128) (hx:∀ y ∈ b,y < 256) (hat:at_ + 128 ≤ all.length) (hi:i < 16) :
  Jk T B My (rhI B tid all.length tb sv u at_ Hm (pf 80 (Wd b) i) i []) = some (.normal,rhI B tid all.length tb sv u at_ Hm (pf 80 (Wd b) (i + 1)) ((i + 1:Nat):Int) []):=by
 have h4:=Qvr (tb:=tb) (sv:=sv) (u:=u) (Wh hB) ht hL hb hbl hx hat hi
 have e1:((i:Int) < 80) = True:=eq_true (by omega)
 have e2:((i:Int) < 16) = True:=eq_true (by omega)
 have w3:IntKind.i64.wrap ((i:Int) + 1) = ((i + 1:Nat):Int):=Y0 (b:=1) (by omega)
 have gS:∀ m:List Ob,(Hm ++ m)[B]? = some ⟨shC sh,true,true,true,1⟩:=fun m => by rw [Qy hB]; exact hS
 have c1:=Qi7 sh
 simp only [rhI,rhE,Zb,Za] at h4
 generalize pf 80 (Wd b) i = O1 at *
 generalize pf 80 (Wd b) (i + 1) = O2 at *
 generalize hi1:i + 1 = i1 at *
 generalize shC sh = sc at *
 simp only [rhI,rhE,My,↓Zr,Z0,quiet,cF,↓pF,reduceCtorEq,Qb,Qp,Zh,Zf,Zg,Ze,Zc,Qj,Q3,Qi,Q2,Q6,Q5,↓Zu,↓Zm,↓Z5,↓Z9,↓Z6,↓Z7,cL,Qo,Qn,Qx,Qw,Qu,Ql,Qk,Qv,Qd,Qz,Q0,Qq,Qf,Qh,Qg,Qt,Qs,Qr,Qm,Qe,cJ,gS,c1,e1,e2,h4,w3,hi1]
theorem Qvq {B tid u at_:Nat} {tb sv sh:Value} {Hm:List Ob} {all b:List Nat} {x4:Bool} (hB:B < Hm.length) (hS:Hm[B]? = some ⟨shC sh,true,true,true,1⟩) (hU:Hm[u]? = some ⟨tuC,true,true,true,1⟩) (ht:Hm[tid]? = some ⟨u8s all,true,true,x4,1⟩) (hL:all.length < 2 ^ 50) (hb:∀ j,j < 128 → all[at_ + j]? = b[j]?) (hbl:b.length = 128) (hx:∀ y ∈ b,y < 256) (hat:at_ + 128 ≤ all.length) :
  Jk T B (.block 6 (.loop My)) (rhI B tid all.length tb sv u at_ Hm (Qa 80 0) 0 []) = some (.normal,rhI B tid all.length tb sv u at_ Hm (Wd b) 80 [(113,.bool false)]):=by
 have hWl:=He b
 have h:=Wc (T:=T) (base:=B) (id:=6) (body:=My) (fun i => rhI B tid all.length tb sv u at_ Hm (pf 80 (Wd b) i) i []) (s':=rhI B tid all.length tb sv u at_ Hm (Wd b) 80 [(113,.bool false)]) 80
  (fun i hi => by
   by_cases h:i < 16
   ·exact Q45 hB hS ht hL hb hbl hx hat h
   ·exact Qzu hB hS hU hx (by omega) hi)
  (by
   have gS:∀ m:List Ob,(Hm ++ m)[B]? = some ⟨shC sh,true,true,true,1⟩:=fun m => by rw [Qy hB]; exact hS
   have c1:=Qi7 sh
   rw [Hy hWl]
   generalize Wd b = O2 at *
   generalize shC sh = sc at *
   simp only [rhI,rhE,My,↓Zr,Z0,quiet,cF,↓pF,reduceCtorEq,Qb,Qp,Zh,Zf,Zg,Ze,Zc,Qj,Q3,Qi,Q2,Q6,Q5,↓Zu,↓Zm,↓Z5,↓Z9,↓Z6,↓Z7,cL,Qo,Qn,Qx,Qw,Qu,Ql,Qk,Qv,Qd,Qz,Q0,Qq,Qf,Qh,Qg,Qt,Qs,Qr,Qm,Qe,cJ,gS,c1])
 rw [Hx] at h
 exact h
def rvE (B tid L kid:Nat) (sv:Value) (u at_ q vid:Nat) (i:Int):Env:=[(3,.pointer (some ⟨B,0,none⟩)),(5,.int .i64 8),(6,.slice (some ⟨tid,0,none⟩) L L),(10,.slice (some ⟨kid,0,none⟩) 80 80),(11,sv),(12,.int .i64 64),(13,.pointer (some ⟨u,0,none⟩)),(14,.int .i64 at_),(15,.slice (some ⟨q,0,none⟩) 80 80),(22,.slice (some ⟨vid,0,none⟩) 8 8),(23,.int .i64 i)]
def rvI (B tid L kid:Nat) (sv:Value) (u at_ q vid:Nat) (i:Int) (Hc:List Ob) (ex:Env):St:=⟨rvE B tid L kid sv u at_ q vid i ++ ex,Hc,[]⟩
theorem Qzc {B tid L kid u at_ q vid i:Nat} {sv sh:Value} {Hc:List Ob} {w s:List Nat} {x1 x2:Bool} (hS:Hc[B]? = some ⟨shC sh,true,true,true,1⟩) (hU:Hc[u]? = some ⟨tuC,true,true,true,1⟩) (hK:Hc[kid]? = some ⟨ns .u64 Dn,true,true,true,1⟩) (hq:Hc[q]? = some ⟨ns .u64 w,true,true,true,1⟩) (hvo:Hc[vid]? = some ⟨ns .u64 s,true,x1,x2,1⟩) (hw:w.length = 80) (hs:s.length = 8) (hx:∀ x ∈ s,x < 18446744073709551616) (hi:i < 80) :
  Jk T B Qa1 (rvI B tid L kid sv u at_ q vid i Hc []) = some (.normal,rvI B tid L kid sv u at_ q Hc.length ((i + 1:Nat):Int) (Hc ++ [⟨ns .u64 (rnd s (Dn.getD i 0) (w.getD i 0)),true,true,true,1⟩]) []):=by
 obtain ⟨a,b,c,d,e,f,g,h,rfl⟩:=eight hs
 obtain ⟨k,hk⟩:∃ k,Dn[i]? = some k:=⟨_,Q1 (by rw [Qcy]; exact hi)⟩
 obtain ⟨v,hv⟩:∃ k,w[i]? = some k:=⟨_,Q1 (by omega)⟩
 rw [Bn hk,Bn hv]
 have kc:=Yo (k := .u64) hk
 have vc:=Yo (k := .u64) hv
 have la:=hx a (by simp)
 have lb:=hx b (by simp)
 have lc:=hx c (by simp)
 have le:=hx e (by simp)
 have lf:=hx f (by simp)
 have lg:=hx g (by simp)
 have r14:Vd T 105 [.int .u64 e,.int .i64 14,.int .i64 64] = some (.int .u64 (Y8 e 14:Nat)):=M0 (r:=14) le (by decide) (by decide)
 have r18:Vd T 105 [.int .u64 e,.int .i64 18,.int .i64 64] = some (.int .u64 (Y8 e 18:Nat)):=M0 (r:=18) le (by decide) (by decide)
 have r41:Vd T 105 [.int .u64 e,.int .i64 41,.int .i64 64] = some (.int .u64 (Y8 e 41:Nat)):=M0 (r:=41) le (by decide) (by decide)
 have r28:Vd T 105 [.int .u64 a,.int .i64 28,.int .i64 64] = some (.int .u64 (Y8 a 28:Nat)):=M0 (r:=28) la (by decide) (by decide)
 have r34:Vd T 105 [.int .u64 a,.int .i64 34,.int .i64 64] = some (.int .u64 (Y8 a 34:Nat)):=M0 (r:=34) la (by decide) (by decide)
 have r39:Vd T 105 [.int .u64 a,.int .i64 39,.int .i64 64] = some (.int .u64 (Y8 a 39:Nat)):=M0 (r:=39) la (by decide) (by decide)
 have b14:=Ut (r:=14) le (by decide) (by decide)
 have b18:=Ut (r:=18) le (by decide) (by decide)
 have b41:=Ut (r:=41) le (by decide) (by decide)
 have b28:=Ut (r:=28) la (by decide) (by decide)
 have b34:=Ut (r:=34) la (by decide) (by decide)
 have b39:=Ut (r:=39) la (by decide) (by decide)
 have x2:Vd T 104 [.int .u64 (Y8 e 14:Nat),.int .u64 (Y8 e 18:Nat),.int .u64 (Y8 e 41:Nat)] = some (.int .u64 (Sg1 e:Nat)):=Qfr b14 b18 b41
 have x4:Vd T 104 [.int .u64 (Y8 a 28:Nat),.int .u64 (Y8 a 34:Nat),.int .u64 (Y8 a 39:Nat)] = some (.int .u64 (Sg0 a:Nat)):=Qfr b28 b34 b39
 have a1:=Qbj le lf
 have lne:18446744073709551615 - e < 18446744073709551616:=by omega
 have a2:IntKind.u64.wrap (18446744073709551615 - (e:Int)) = ((18446744073709551615 - e:Nat):Int):=Qfl (a:=18446744073709551615) (by omega) (by decide)
 have kp1:=Qg0 (18446744073709551615 - e)
 have a3:=Qbj lne lg
 have a4:Vz .or .u64 ((e &&& f:Nat):Int) (((18446744073709551615 - e) &&& g:Nat):Int) = ((chO e f g:Nat):Int):=by rw [Gf rfl (Bp lf) (Bp lg),ch_or le]
 have a5:=Qbj la lb
 have a6:=Qbj la lc
 have a7:=Qbj lb lc
 have a8:Vz .or .u64 ((a &&& b:Nat):Int) ((a &&& c:Nat):Int) = (((a &&& b) ||| (a &&& c):Nat):Int):=Gf rfl (Bp lb) (Bp lc)
 have a9:Vz .or .u64 (((a &&& b) ||| (a &&& c):Nat):Int) ((b &&& c:Nat):Int) = ((maO a b c:Nat):Int):=by rw [Gf rfl (Qa7 (n:=64) (Bp lb) (Bp lc)) (Bp lc),Q5u]
 have m1:=D3 h (Sg1 e)
 have m2:=D3 ((h + Sg1 e) % 18446744073709551616) (chO e f g)
 have m3:=D3 (((h + Sg1 e) % 18446744073709551616 + chO e f g) % 18446744073709551616) k
 have m4:=D3 ((((h + Sg1 e) % 18446744073709551616 + chO e f g) % 18446744073709551616 + k) % 18446744073709551616) v
 have hT1:((((h + Sg1 e) % 18446744073709551616 + chO e f g) % 18446744073709551616 + k) % 18446744073709551616 + v) % 18446744073709551616 = t1O [a,b,c,d,e,f,g,h] k v:=by
  show _ = (h + Sg1 e + chO e f g + k + v) % 18446744073709551616
  omega
 rw [hT1] at m4
 have m5:IntKind.u64.wrap ((Sg0 a:Int) + (maO a b c:Int)) = ((t2O [a,b,c,d,e,f,g,h]:Nat):Int):=D3 (Sg0 a) (maO a b c)
 have m6:=D3 (t1O [a,b,c,d,e,f,g,h] k v) (t2O [a,b,c,d,e,f,g,h])
 have m7:=D3 d (t1O [a,b,c,d,e,f,g,h] k v)
 have hr:rnd [a,b,c,d,e,f,g,h] k v = [(t1O [a,b,c,d,e,f,g,h] k v + t2O [a,b,c,d,e,f,g,h]) % 18446744073709551616,a,b,c,(d + t1O [a,b,c,d,e,f,g,h] k v) % 18446744073709551616,e,f,g]:=rfl
 have hf:=Q3n ((t1O [a,b,c,d,e,f,g,h] k v + t2O [a,b,c,d,e,f,g,h]) % 18446744073709551616) a b c ((d + t1O [a,b,c,d,e,f,g,h] k v) % 18446744073709551616) e f g
 rw [← hr] at hf
 have kp2:=Qg0 ((t1O [a,b,c,d,e,f,g,h] k v + t2O [a,b,c,d,e,f,g,h]) % 18446744073709551616)
 have kp3:=Qg0 ((d + t1O [a,b,c,d,e,f,g,h] k v) % 18446744073709551616)
 have lR:=Qqv [a,b,c,d,e,f,g,h] k v
 have e1:((i:Int) < 80) = True:=eq_true (by omega)
 have w3:IntKind.i64.wrap ((i:Int) + 1) = ((i + 1:Nat):Int):=Y0 (b:=1) (by omega)
 have g0:(ns .u64 [a,b,c,d,e,f,g,h])[0]? = some (.int .u64 (a:Nat)):=rfl
 have g1:(ns .u64 [a,b,c,d,e,f,g,h])[1]? = some (.int .u64 (b:Nat)):=rfl
 have g2:(ns .u64 [a,b,c,d,e,f,g,h])[2]? = some (.int .u64 (c:Nat)):=rfl
 have g3:(ns .u64 [a,b,c,d,e,f,g,h])[3]? = some (.int .u64 (d:Nat)):=rfl
 have g4:(ns .u64 [a,b,c,d,e,f,g,h])[4]? = some (.int .u64 (e:Nat)):=rfl
 have g5:(ns .u64 [a,b,c,d,e,f,g,h])[5]? = some (.int .u64 (f:Nat)):=rfl
 have g6:(ns .u64 [a,b,c,d,e,f,g,h])[6]? = some (.int .u64 (g:Nat)):=rfl
 have g7:(ns .u64 [a,b,c,d,e,f,g,h])[7]? = some (.int .u64 (h:Nat)):=rfl
 have lS:(ns .u64 [a,b,c,d,e,f,g,h]).length = 8:=rfl
 clear hT1 hr hk hv hs hx
 generalize rnd [a,b,c,d,e,f,g,h] k v = R at *
 generalize (t1O [a,b,c,d,e,f,g,h] k v + t2O [a,b,c,d,e,f,g,h]) % 18446744073709551616 = z1 at *
 generalize (d + t1O [a,b,c,d,e,f,g,h] k v) % 18446744073709551616 = z2 at *
 generalize t1O [a,b,c,d,e,f,g,h] k v = t1 at *
 generalize t2O [a,b,c,d,e,f,g,h] = t2 at *
 generalize (((h + Sg1 e) % 18446744073709551616 + chO e f g) % 18446744073709551616 + k) % 18446744073709551616 = z3 at *
 generalize ((h + Sg1 e) % 18446744073709551616 + chO e f g) % 18446744073709551616 = z4 at *
 generalize (h + Sg1 e) % 18446744073709551616 = z5 at *
 generalize Sg1 e = se at *
 generalize Sg0 a = sa at *
 generalize chO e f g = cc at *
 generalize maO a b c = mm at *
 generalize (a &&& b) ||| (a &&& c) = q1 at *
 generalize (18446744073709551615 - e) &&& g = q2 at *
 generalize 18446744073709551615 - e = q3 at *
 generalize e &&& f = q4 at *
 generalize a &&& b = q5 at *
 generalize a &&& c = q6 at *
 generalize b &&& c = q7 at *
 generalize Y8 e 14 = p1 at *
 generalize Y8 e 18 = p2 at *
 generalize Y8 e 41 = p3 at *
 generalize Y8 a 28 = p4 at *
 generalize Y8 a 34 = p5 at *
 generalize Y8 a 39 = p6 at *
 have t6:tuC[6]? = some (.int .i64 28):=rfl
 have t7:tuC[7]? = some (.int .i64 34):=rfl
 have t8:tuC[8]? = some (.int .i64 39):=rfl
 have t9:tuC[9]? = some (.int .i64 14):=rfl
 have t10:tuC[10]? = some (.int .i64 18):=rfl
 have t11:tuC[11]? = some (.int .i64 41):=rfl
 have c1:=Qi7 sh
 generalize hi1:i + 1 = i1 at *
 generalize tuC = tc at *
 generalize shC sh = sc at *
 generalize ns .u64 [a,b,c,d,e,f,g,h] = S at *
 generalize ns .u64 Dn = KT at *
 simp only [rvI,rvE,Qa1,↓Zr,Z0,quiet,cF,↓pF,reduceCtorEq,Qb,Qp,Zh,Zf,Zg,Ze,Zc,Qj,Q3,Qi,Q2,Q6,Q5,↓Zu,↓Zm,↓Z5,↓Z9,↓Z6,↓Z7,cL,Qo,Qn,Qx,Qw,Qu,Ql,Qk,Qv,Qd,Qz,Q0,Qq,Qf,Qh,Qg,Qt,Qs,Qr,Qm,Qe,cJ,hS,hU,hK,hq,hvo,c1,t6,t7,t8,t9,t10,t11,e1,vc,kc,r14,r18,r41,r28,r34,r39,x2,x4,a1,a2,a3,a4,a5,a6,a7,a8,a9,m1,m2,m3,m4,m5,m6,m7,kp1,kp2,kp3,hf,w3,hi1,g0,g1,g2,g3,g4,g5,g6,g7]
theorem Qu5 {B tid L kid u at_ q vid:Nat} {sv sh:Value} {H0:List Ob} {w s:List Nat} {x1 x2:Bool} (hS:H0[B]? = some ⟨shC sh,true,true,true,1⟩) (hU:H0[u]? = some ⟨tuC,true,true,true,1⟩) (hK:H0[kid]? = some ⟨ns .u64 Dn,true,true,true,1⟩) (hq:H0[q]? = some ⟨ns .u64 w,true,true,true,1⟩) (hvo:H0[vid]? = some ⟨ns .u64 s,true,x1,x2,1⟩) (hw:w.length = 80) (hs:s.length = 8) (hx:∀ x ∈ s,x < 18446744073709551616) :
  ∃ vid' l y1 y2,Jk T B (.block 10 (.loop Qa1)) (rvI B tid L kid sv u at_ q vid 0 H0 []) = some (.normal,rvI B tid L kid sv u at_ q vid' 80 (H0 ++ l) [(211,.bool false)]) ∧ (H0 ++ l)[vid']? = some ⟨ns .u64 (Tt 80 w s),true,y1,y2,1⟩ ∧ (vid' = vid ∨ H0.length ≤ vid'):=by
 obtain ⟨st,hb,vid',l,y1,y2,rfl,h1,h2⟩:=Vi (T:=T) (base:=B) (id:=10) (body:=Qa1)
  (fun j st => ∃ vid' l y1 y2,st = rvI B tid L kid sv u at_ q vid' j (H0 ++ l) [] ∧ (H0 ++ l)[vid']? = some ⟨ns .u64 (Tt j w s),true,y1,y2,1⟩ ∧ (vid' = vid ∨ H0.length ≤ vid'))
  (Q:=fun st => ∃ vid' l y1 y2,st = rvI B tid L kid sv u at_ q vid' 80 (H0 ++ l) [(211,.bool false)] ∧ (H0 ++ l)[vid']? = some ⟨ns .u64 (Tt 80 w s),true,y1,y2,1⟩ ∧ (vid' = vid ∨ H0.length ≤ vid'))
  80 (s:=rvI B tid L kid sv u at_ q vid 0 H0 []) ⟨vid,[],x1,x2,by rw [Kv]; rfl,by rw [Kv]; exact hvo,.inl rfl⟩
  (fun j st hj hst => by
   obtain ⟨vid',l,y1,y2,rfl,h1,h2⟩:=hst
   have up:∀ {i:Nat} {o:Ob},H0[i]? = some o → (H0 ++ l)[i]? = some o:=fun {i o} h => by rw [Qy (Q8.1 h).1]; exact h
   refine ⟨_,Qzc (up hS) (up hU) (up hK) (up hq) h1 hw (Rn hs w j) (Qkl hs hx w j) hj,(H0 ++ l).length,l ++ [⟨ns .u64 (rnd (Tt j w s) (Dn.getD j 0) (w.getD j 0)),true,true,true,1⟩],true,true,by rw [← J3],?_,.inr (by simp)⟩
   rw [← J3,Zi (Zj _),K9]; rfl)
  (fun st hst => by
   obtain ⟨vid',l,y1,y2,rfl,h1,h2⟩:=hst
   refine ⟨_,?_,vid',l,y1,y2,rfl,h1,h2⟩
   have gS:(H0 ++ l)[B]? = some ⟨shC sh,true,true,true,1⟩:=by rw [Qy (Q8.1 hS).1]; exact hS
   have c1:=Qi7 sh
   generalize shC sh = sc at *
   generalize H0 ++ l = Hc at *
   simp only [rvI,rvE,Qa1,↓Zr,Z0,quiet,cF,↓pF,reduceCtorEq,Qb,Qp,Zh,Zf,Zg,Ze,Zc,Qj,Q3,Qi,Q2,Q6,Q5,↓Zu,↓Zm,↓Z5,↓Z9,↓Z6,↓Z7,cL,Qo,Qn,Qx,Qw,Qu,Ql,Qk,Qv,Qd,Qz,Q0,Qq,Qf,Qh,Qg,Qt,Qs,Qr,Qm,Qe,cJ,gS,c1])
 exact ⟨vid',l,y1,y2,hb,h1,h2⟩
def rsI (B tid L kid sid u at_ vid:Nat) (i:Nat) (Hc:List Ob) (ex:Env):St:=⟨[(3,.pointer (some ⟨B,0,none⟩)),(5,.int .i64 8),(6,.slice (some ⟨tid,0,none⟩) L L),(10,.slice (some ⟨kid,0,none⟩) 80 80),(11,.slice (some ⟨sid,0,none⟩) 8 8),(12,.int .i64 64),(13,.pointer (some ⟨u,0,none⟩)),(14,.int .i64 at_),(22,.slice (some ⟨vid,0,none⟩) 8 8),(29,.int .i64 i)] ++ ex,Hc,[]⟩
theorem Qzf {B tid L kid sid u at_ vid i a b:Nat} {Hc:List Ob} {D v:List Nat} {x1 x2 x3:Bool} (hB:B ≤ sid) (hsl:sid < Hc.length) (hne:vid ≠ sid) (hvo:Hc[vid]? = some ⟨ns .u64 v,true,x1,x2,1⟩) (lD:D.length = 8) (hi:i < 8) (ha:D[i]? = some a) (hb:v[i]? = some b) :
  Jk T B Qa2 (rsI B tid L kid sid u at_ vid i (Hc.set sid ⟨ns .u64 D,true,true,x3,1⟩) []) = some (.normal,rsI B tid L kid sid u at_ vid (i + 1) (Hc.set sid ⟨ns .u64 (D.set i ((a + b) % 18446744073709551616)),true,true,x3,1⟩) []):=by
 have e1:((i:Int) < 8) = True:=eq_true (by omega)
 have w3:IntKind.i64.wrap ((i:Int) + 1) = ((i + 1:Nat):Int):=Y0 (b:=1) (by omega)
 have m1:=D3 a b
 have kp:=Qg0 ((a + b) % 18446744073709551616)
 have ga:=Yo (k := .u64) ha
 have gb:=Yo (k := .u64) hb
 have g1:(Hc.set sid ⟨ns .u64 D,true,true,x3,1⟩)[sid]? = some ⟨ns .u64 D,true,true,x3,1⟩:=Xp hsl
 have g2:(Hc.set sid ⟨ns .u64 D,true,true,x3,1⟩)[vid]? = some ⟨ns .u64 v,true,x1,x2,1⟩:=by rw [Ji (fun h => hne h.symm)]; exact hvo
 have hset:=Uw .u64 D i ((a + b) % 18446744073709551616)
 have hss:∀ o,(Hc.set sid ⟨ns .u64 D,true,true,x3,1⟩).set sid o = Hc.set sid o:=fun o => by rw [Qdq]
 have hle:i + 1 ≤ (ns .u64 D).length:=by rw [J0,lD]; omega
 have im:Xo B [] [sid] = []:=Yl (by simp; omega)
 generalize (a + b) % 18446744073709551616 = z at *
 generalize Hc.set sid ⟨ns .u64 D,true,true,x3,1⟩ = G at *
 generalize hi1:i + 1 = i1 at *
 simp only [rsI,Qa2,↓Zr,Z0,quiet,cF,↓pF,reduceCtorEq,Qb,Qp,Zh,Zf,Zg,Ze,Zc,Qj,Q3,Qi,Q2,Q6,Q5,↓Zu,↓Zm,↓Z5,↓Z9,↓Z6,↓Z7,cL,Qo,Qn,Qx,Qw,Qu,Ql,Qk,Qv,Qd,Qz,Q0,Qq,Qf,Qh,Qg,Qt,Qs,Qr,Qm,Qe,cJ,e1,w3,m1,kp,ga,gb,g1,g2,hset,hss,hi1,hle,im]
theorem Qu7 {B tid L kid sid u at_ vid:Nat} {Hc:List Ob} {s v:List Nat} {x1 x2 x3:Bool} (hB:B ≤ sid) (hso:Hc[sid]? = some ⟨ns .u64 s,true,true,x3,1⟩) (hne:vid ≠ sid) (hvo:Hc[vid]? = some ⟨ns .u64 v,true,x1,x2,1⟩) (lS:s.length = 8) (lV:v.length = 8) :
  Jk T B (.block 12 (.loop Qa2)) (rsI B tid L kid sid u at_ vid 0 Hc []) = some (.normal,rsI B tid L kid sid u at_ vid 8 (Hc.set sid ⟨ns .u64 (B5 (fun x y => (x + y) % 18446744073709551616) s v),true,true,x3,1⟩) [(358,.bool false)]):=by
 have hsl:=(Q8.1 hso).1
 obtain ⟨st,hb,D,rfl,lD,hD⟩:=Vi (T:=T) (base:=B) (id:=12) (body:=Qa2)
  (fun j st => ∃ D,st = rsI B tid L kid sid u at_ vid j (Hc.set sid ⟨ns .u64 D,true,true,x3,1⟩) [] ∧ D.length = 8 ∧ ∀ k,k < 8 → D[k]? = if k < j then (B5 (fun x y => (x + y) % 18446744073709551616) s v)[k]? else s[k]?)
  (Q:=fun st => ∃ D,st = rsI B tid L kid sid u at_ vid 8 (Hc.set sid ⟨ns .u64 D,true,true,x3,1⟩) [(358,.bool false)] ∧ D.length = 8 ∧ ∀ k,k < 8 → D[k]? = (B5 (fun x y => (x + y) % 18446744073709551616) s v)[k]?)
  8 (s:=rsI B tid L kid sid u at_ vid 0 Hc []) ⟨s,by rw [Qi8 hso],lS,fun k hk => by rw [if_neg (Jw _)]⟩
  (fun j st hj hs => by
   obtain ⟨D,rfl,lD,hD⟩:=hs
   obtain ⟨a,ha⟩:∃ a,s[j]? = some a:=⟨_,Q1 (by omega)⟩
   obtain ⟨b,hb⟩:∃ a,v[j]? = some a:=⟨_,Q1 (by omega)⟩
   have hDj:D[j]? = some a:=by rw [hD j hj,if_neg (Xj _)]; exact ha
   refine ⟨_,Qzf hB hsl hne hvo lD hj hDj hb,_,rfl,by rw [Xe]; exact lD,fun k hk => ?_⟩
   by_cases h:j = k
   ·subst h
    rw [Xp (by omega),if_pos (Nat.lt_succ_self _),Qex,ha,hb]
   ·rw [Ji h,hD k hk]
    by_cases h2:k < j
    ·rw [if_pos h2,if_pos (by omega)]
    ·rw [if_neg h2,if_neg (by omega)])
  (fun st hs => by
   obtain ⟨D,rfl,lD,hD⟩:=hs
   refine ⟨_,?_,D,rfl,lD,fun k hk => by rw [hD k hk,if_pos hk]⟩
   generalize Hc.set sid ⟨ns .u64 D,true,true,x3,1⟩ = G
   simp only [rsI,Qa2,↓Zr,Z0,quiet,cF,↓pF,reduceCtorEq,Qb,Qp,Zh,Zf,Zg,Ze,Zc,Qj,Q3,Qi,Q2,Q6,Q5,↓Zu,↓Zm,↓Z5,↓Z9,↓Z6,↓Z7,cL,Qo,Qn,Qx,Qw,Qu,Ql,Qk,Qv,Qd,Qz,Q0,Qq,Qf,Qh,Qg,Qt,Qs,Qr,Qm,Qe,cJ])
 have:D = B5 (fun x y => (x + y) % 18446744073709551616) s v:=Ym fun k => by
  by_cases h:k < 8
  ·exact hD k h
  ·rw [Jy (by omega),Jy (by rw [Qik]; omega)]
 rw [← this]
 exact hb
theorem app8 {H:List Ob} {sid:Nat} {s:List Nat} {x3:Bool} (hso:H[sid]? = some ⟨ns .u64 s,true,true,x3,1⟩) (ls:s.length = 8) :
  Y4 1 8 (H ++ [⟨[],true,true,true,1⟩]) (.slice (some ⟨H.length,0,none⟩) 0 0) (.slice (some ⟨sid,0,none⟩) 8 8) = some (.slice (some ⟨H.length + 1,0,none⟩) 8 8,H ++ [⟨[],true,true,true,1⟩,Ob.grown 1 (ns .u64 s)],none,[]):=by
 have h1:liveAt (H ++ [⟨[],true,true,true,1⟩]) sid = some ⟨ns .u64 s,true,true,x3,1⟩:=Br (Yg hso rfl)
 have h2:liveAt (H ++ [⟨[],true,true,true,1⟩]) H.length = some ⟨[],true,true,true,1⟩:=Y9
 have h3:elemsOf (H ++ [⟨[],true,true,true,1⟩]) 1 8 (.slice (some ⟨sid,0,none⟩) 8 8) = some (ns .u64 s):=by
  have:Wn 8 (ns .u64 s) = ns .u64 s:=Zl (by rw [J0]; omega)
  simp [elemsOf,h1,J0,ls,this]
 have h4:elemsOf (H ++ [⟨[],true,true,true,1⟩]) 1 0 (.slice (some ⟨H.length,0,none⟩) 0 0) = some []:=by simp [elemsOf,h2]
 have k1:Go.Ev.lenV (.slice (some ⟨sid,0,none⟩) 8 8) = some 8:=rfl
 simp only [Y4,k1,h2,h3,h4,Q4]
 rw [if_neg (by decide),if_neg (by decide)]
 simp
def reI (B tid L kid sid u:Nat) (at_:Nat) (Hc:List Ob) (ex:Env):St:=⟨[(3,.pointer (some ⟨B,0,none⟩)),(5,.int .i64 8),(6,.slice (some ⟨tid,0,none⟩) L L),(10,.slice (some ⟨kid,0,none⟩) 80 80),(11,.slice (some ⟨sid,0,none⟩) 8 8),(12,.int .i64 64),(13,.pointer (some ⟨u,0,none⟩)),(14,.int .i64 at_)] ++ ex,Hc,[]⟩
theorem Qzq {B tid kid sid u at_:Nat} {sh:Value} {Hc:List Ob} {all b s:List Nat} {x4:Bool} {x3:Bool} (hBs:B < sid) (hS:Hc[B]? = some ⟨shC sh,true,true,true,1⟩) (hU:Hc[u]? = some ⟨tuC,true,true,true,1⟩) (hK:Hc[kid]? = some ⟨ns .u64 Dn,true,true,true,1⟩) (ht:Hc[tid]? = some ⟨u8s all,true,true,x4,1⟩) (hso:Hc[sid]? = some ⟨ns .u64 s,true,true,x3,1⟩) (hs:s.length = 8) (hsx:∀ x ∈ s,x < 18446744073709551616)
  (hL:all.length < 2 ^ 50) (hb:∀ j,j < 128 → all[at_ + j]? = b[j]?) (hbl:b.length = 128) (hx:∀ y ∈ b,y < 256) (hat:at_ + 128 ≤ all.length) :
  ∃ H',Jk T B Qa0 (reI B tid all.length kid sid u at_ Hc []) = some (.normal,reI B tid all.length kid sid u (at_ + 128) H' []) ∧ H'[sid]? = some ⟨ns .u64 (blk s b),true,true,x3,1⟩ ∧ Hc.length ≤ H'.length ∧ ∀ i,i < Hc.length → i ≠ sid → H'[i]? = Hc[i]? := by
 have hsl:=(Q8.1 hso).1
 have hBl:B < Hc.length:=by omega
 have h5:=Qvq (tb := .slice (some ⟨kid,0,none⟩) 80 80) (sv := .slice (some ⟨sid,0,none⟩) 8 8) hBl hS hU ht hL hb hbl hx hat
 obtain ⟨H5,hH5⟩:∃ X,X = Hc ++ [(⟨ns .u64 (Wd b),true,true,true,1⟩:Ob)]:=⟨_,rfl⟩
 have l5:H5.length = Hc.length + 1:=by rw [hH5]; simp
 have up5:∀ {i:Nat} {o:Ob},Hc[i]? = some o → H5[i]? = some o:=fun {i o} h => by rw [hH5,Qy (Q8.1 h).1]; exact h
 have hq5:H5[Hc.length]? = some ⟨ns .u64 (Wd b),true,true,true,1⟩:=by rw [hH5,Zi (Zj _),K9]; rfl
 have hap:=app8 (up5 hso) hs
 obtain ⟨H7,hH7⟩:∃ X,X = H5 ++ [(⟨[],true,true,true,1⟩:Ob),Ob.grown 1 (ns .u64 s)]:=⟨_,rfl⟩
 have l7:H7.length = H5.length + 2:=by rw [hH7]; simp
 have up7:∀ {i:Nat} {o:Ob},H5[i]? = some o → H7[i]? = some o:=fun {i o} h => by rw [hH7,Qy (Q8.1 h).1]; exact h
 have hv7:H7[H5.length + 1]? = some ⟨ns .u64 s,true,true,false,1⟩:=by rw [hH7,Zi (by omega),Ke]; rfl
 obtain ⟨vid',l,y1,y2,h3,hvo,hvid⟩:=Qu5 (L:=all.length) (tid:=tid) (sv := .slice (some ⟨sid,0,none⟩) 8 8) (at_:=at_) (up7 (up5 hS)) (up7 (up5 hU)) (up7 (up5 hK)) (up7 hq5) hv7 (He b) hs hsx
 obtain ⟨H8,hH8⟩:∃ X,X = H7 ++ l:=⟨_,rfl⟩
 have l8:H7.length ≤ H8.length:=by rw [hH8]; simp
 have up8:∀ {i:Nat} {o:Ob},H7[i]? = some o → H8[i]? = some o:=fun {i o} h => by rw [hH8,Qy (Q8.1 h).1]; exact h
 rw [← hH8] at h3 hvo
 have hne:vid' ≠ sid:=by omega
 have h2:=Qu7 (tid:=tid) (L:=all.length) (kid:=kid) (u:=u) (at_:=at_) (Wh hBs) (up8 (up7 (up5 hso))) hne hvo hs (Rn hs _ 80)
 rw [show B5 (fun x y => (x + y) % 18446744073709551616) s (Tt 80 (Wd b) s) = blk s b from rfl] at h2
 obtain ⟨H9,hH9⟩:∃ X,X = H8.set sid ⟨ns .u64 (blk s b),true,true,x3,1⟩:=⟨_,rfl⟩
 rw [← hH9] at h2
 refine ⟨H9,?_,by rw [hH9,Xp (by omega)],by rw [hH9,Xe]; omega,fun i hi hne => ?_⟩
 ·have gS9:H9[B]? = some ⟨shC sh,true,true,true,1⟩:=by rw [hH9,Ji (by omega)]; exact up8 (up7 (up5 hS))
  have e1:((at_:Int) < ((all.length:Nat):Int)) = True:=eq_true (by omega)
  have w1:IntKind.i64.wrap ((at_:Int) + 128) = ((at_ + 128:Nat):Int):=Y0 (b:=128) (by omega)
  have c1:=Qi7 sh
  have c2:=Q3h sh
  have hz80:(Qa 80 [Value.int .u64 0]).flatten = ns .u64 (Qa 80 0):=rfl
  have f0:fillL ([]:List Value) [] = some []:=rfl
  have im1:Xo B [] [H5.length] = []:=Yl (by simp; omega)
  simp only [rhI,rhE,rvI,rvE,rsI,Zb,Za,Xu,← hH5] at h5 h3 h2
  rw [← hH7] at hap
  clear hH5 hH7 hH8 hH9 up5 up7 up8 hv7 hq5 hvo hb hx hso
  generalize shC sh = sc at *
  generalize ns .u64 (Qa 80 0) = Z80 at *
  generalize all.length = LL at *
  generalize hat2:at_ + 128 = at2 at *
  simp only [reI,Qa0,↓Zr,Z0,quiet,cF,↓pF,reduceCtorEq,Qb,Qp,Zh,Zf,Zg,Ze,Zc,Qj,Q3,Qi,Q2,Q6,Q5,↓Zu,↓Zm,↓Z5,↓Z9,↓Z6,↓Z7,cL,Qo,Qn,Qx,Qw,Qu,Ql,Qk,Qv,Qd,Qz,Q0,Qq,Qf,Qh,Qg,Qt,Qs,Qr,Qm,Qe,cJ,hS,c1,e1,hz80,h5,f0,hap,im1,h3,h2,gS9,c2,w1]
 ·rw [hH9,Ji (fun h => hne h.symm)]
  have hi':=Q1 hi
  rw [hi']
  exact up8 (up7 (up5 hi'))
end Go.Ev.YtgacigcbglflkaaGreat
set_option linter.unusedSimpArgs false
set_option linter.unusedVariables false
namespace Go.Ev.YtgacigcbglflkaaGreat
open Go Go.Ev
attribute [local congr] W7 Ul W6 Um Ww
set_option maxRecDepth 100000
theorem Qvj {B tid kid sid u m:Nat} {sh:Value} {H0:List Ob} {all:List Nat} {x3 x4:Bool} (hBs:B < sid) (hus:u ≠ sid) (hks:kid ≠ sid) (hts:tid ≠ sid) (hS:H0[B]? = some ⟨shC sh,true,true,true,1⟩) (hU:H0[u]? = some ⟨tuC,true,true,true,1⟩) (hK:H0[kid]? = some ⟨ns .u64 Dn,true,true,true,1⟩) (ht:H0[tid]? = some ⟨u8s all,true,true,x4,1⟩) (hso:H0[sid]? = some ⟨ns .u64 Hs,true,true,x3,1⟩)
  (hL:all.length < 2 ^ 50) (hx:∀ y ∈ all,y < 256) (hm:all.length = 128 * m) :
  ∃ H',Jk T B (.block 4 (.loop Qa0)) (reI B tid all.length kid sid u 0 H0 []) = some (.normal,reI B tid all.length kid sid u all.length H' [(102,.bool false)]) ∧ H'[sid]? = some ⟨ns .u64 (stK m all),true,true,x3,1⟩ ∧ H0.length ≤ H'.length ∧ ∀ i,i < H0.length → i ≠ sid → H'[i]? = H0[i]? := by
 obtain ⟨st,hb,H',rfl,h1,h2,h3⟩:=Vi (T:=T) (base:=B) (id:=4) (body:=Qa0)
  (fun j st => ∃ H',st = reI B tid all.length kid sid u (128 * j) H' [] ∧ H'[sid]? = some ⟨ns .u64 (stK j all),true,true,x3,1⟩ ∧ H0.length ≤ H'.length ∧ ∀ i,i < H0.length → i ≠ sid → H'[i]? = H0[i]?)
  (Q:=fun st => ∃ H',st = reI B tid all.length kid sid u all.length H' [(102,.bool false)] ∧ H'[sid]? = some ⟨ns .u64 (stK m all),true,true,x3,1⟩ ∧ H0.length ≤ H'.length ∧ ∀ i,i < H0.length → i ≠ sid → H'[i]? = H0[i]?)
  m (s:=reI B tid all.length kid sid u 0 H0 []) ⟨H0,rfl,hso,Zj _,fun _ _ _ => rfl⟩
  (fun j st hj hs => by
   obtain ⟨H',rfl,h1,h2,h3⟩:=hs
   have up:∀ {i:Nat} {o:Ob},H0[i]? = some o → i ≠ sid → H'[i]? = some o:=fun {i o} h hne => (h3 i (Q8.1 h).1 hne).trans h
   have hat:128 * j + 128 ≤ all.length:=by omega
   obtain ⟨H9,k1,k2,k3,k4⟩:=Qzq (at_:=128 * j) (b:=(all.drop (128 * j)).take 128) hBs (up hS (by omega)) (up hU hus) (up hK hks) (up ht hts) h1 (Qal all j) (Qkf all j) hL (fun i hi => by rw [Ks,if_pos hi,Vx]) (by rw [Jx,Vs]; omega) (fun y hy => hx y (Yz (Kr hy))) hat
   exact ⟨_,k1,H9,rfl,k2,by omega,fun i hi hne => (k4 i (by omega) hne).trans (h3 i hi hne)⟩)
  (fun st hs => by
   obtain ⟨H',rfl,h1,h2,h3⟩:=hs
   rw [← hm]
   refine ⟨_,?_,H',rfl,h1,h2,h3⟩
   have e1:((all.length:Int) < ((all.length:Nat):Int)) = False:=eq_false (by omega)
   generalize all.length = LL at *
   simp only [reI,Qa0,↓Zr,Z0,quiet,cF,↓pF,reduceCtorEq,Qb,Qp,Zh,Zf,Zg,Ze,Zc,Qj,Q3,Qi,Q2,Q6,Q5,↓Zu,↓Zm,↓Z5,↓Z9,↓Z6,↓Z7,cL,Qo,Qn,Qx,Qw,Qu,Ql,Qk,Qv,Qd,Qz,Q0,Qq,Qf,Qh,Qg,Qt,Qs,Qr,Qm,Qe,cJ,e1])
 exact ⟨H',hb,h1,h2,h3⟩
def roI (sid:Nat) (s:Value) (i c:Int) (Hc:List Ob) (ex:Env):St:=⟨[(5,.int .i64 8),(11,.slice (some ⟨sid,0,none⟩) 8 8),(30,s),(31,.int .i64 i),(32,.int .i64 c)] ++ ex,Hc,[]⟩
theorem Qzj {B N sid i c w:Nat} {s:Value} {Hc:List Ob} {st bs:List Nat} {x3:Bool} (hBN:B ≤ N) (hsN:sid < N) (hso:Hc[sid]? = some ⟨ns .u64 st,true,true,x3,1⟩) (hg:Grown .u8 N Hc s bs) (hL:N ≤ Hc.length) (hbs:bs.length < 100) (hi:i < 8) (hc:c < 8) (hw:st[i]? = some w) (hw':w < 18446744073709551616) :
  ∃ s' H',Jk T B Qa3 (roI sid s i c Hc []) = some (.normal,roI sid s' i ((c:Int) - 1) H' []) ∧ Grown .u8 N H' s' (bs ++ [w / 256 ^ c % 256]) ∧ N ≤ H'.length ∧ ∀ k,k < N → H'[k]? = Hc[k]? := by
 obtain ⟨s',H',M,h1,h2,h3,h4,h5⟩:=Me (x:=w / 256 ^ c % 256) (bytes:=1) hg hL (by omega) (by decide)
 refine ⟨s',H',?_,h2,h4,h5⟩
 have hm:Xo B [] M = []:=Yl fun i hi => by have:=h3 i hi; omega
 have hp:=Qgk (n:=8 * c) (by omega)
 have e8:(2:Nat) ^ (8 * c) = 256 ^ c:=by rw [Yp]
 rw [e8] at hp
 have h0:0 < 256 ^ c:=Wt (by decide)
 have hz:(((256 ^ c:Nat):Int) = 0) = False:=eq_false (by omega)
 have hd:IntKind.u64.wrap ((w:Int).tdiv ((256 ^ c:Nat):Int)) = ((w / 256 ^ c:Nat):Int):=D2 (Wk (W8 _ _) hw')
 have hr:((w / 256 ^ c:Nat):Int).tmod 256 = ((w / 256 ^ c % 256:Nat):Int):=rfl
 have w1:IntKind.i64.wrap (8 * (c:Int)) = ((8 * c:Nat):Int):=Vn (n:=8 * c) (by omega)
 have w2:IntKind.u8.wrap ((w / 256 ^ c % 256:Nat):Int) = ((w / 256 ^ c % 256:Nat):Int):=Ql5 (Jj _ (by decide))
 have w3:IntKind.i64.wrap ((c:Int) - 1) = (c:Int) - 1:=K7 (by omega) (by omega)
 have e1:(0 ≤ (c:Int)) = True:=eq_true (by omega)
 have e2:((i:Int) < 8) = True:=eq_true (by omega)
 have gw:=Yo (k := .u64) hw
 have f0:fillL [Value.int .u8 0] [(0,1,.int .u8 ((w / 256 ^ c % 256:Nat):Int))] = some [.int .u8 ((w / 256 ^ c % 256:Nat):Int)]:=rfl
 generalize w / 256 ^ c % 256 = r at *
 generalize w / 256 ^ c = d at *
 generalize 256 ^ c = p at *
 generalize 8 * c = c8 at *
 simp only [roI,Qa3,↓Zr,Z0,quiet,cF,↓pF,reduceCtorEq,Qb,Qp,Zh,Zf,Zg,Ze,Zc,Qj,Q3,Qi,Q2,Q6,Q5,↓Zu,↓Zm,↓Z5,↓Z9,↓Z6,↓Z7,cL,Qo,Qn,Qx,Qw,Qu,Ql,Qk,Qv,Qd,Qz,Q0,Qq,Qf,Qh,Qg,Qt,Qs,Qr,Qm,Qe,cJ,e1,e2,w1,w2,w3,hp,hz,hd,hr,hso,gw,f0,h1,hm]
def Qbb (st:List Nat):List Nat:=(Y5 64).map fun i => st.getD (i / 8) 0 / 256 ^ (7 - i % 8) % 256
theorem Qv3 (st:List Nat):(Qbb st).length = 64:=by simp [Qbb]
theorem Qv4 {st:List Nat} {i j w:Nat} (hi:i < 8) (hj:j < 8) (hw:st[i]? = some w):(Qbb st)[8 * i + j]? = some (w / 256 ^ (7 - j) % 256):=by
 have h1:(8 * i + j) / 8 = i:=by omega
 have h2:(8 * i + j) % 8 = j:=by omega
 have h3:8 * i + j < 64:=by omega
 simp only [Qbb,Uv,Hr h3,Dc,h1,h2,Bn hw]
theorem Qvd {B N sid i w:Nat} {s0:Value} {H0:List Ob} {st:List Nat} {x3:Bool} (hBN:B ≤ N) (hsN:sid < N) (hso:H0[sid]? = some ⟨ns .u64 st,true,true,x3,1⟩) (hg0:Grown .u8 N H0 s0 ((Qbb st).take (8 * i))) (hL0:N ≤ H0.length) (hi:i < 8) (hw:st[i]? = some w) (hw':w < 18446744073709551616) :
  ∃ s' H',Jk T B (.block 16 (.loop Qa3)) (roI sid s0 i 7 H0 []) = some (.normal,roI sid s' i (-1) H' [(382,.bool false)]) ∧ Grown .u8 N H' s' ((Qbb st).take (8 * (i + 1))) ∧ N ≤ H'.length ∧ ∀ k,k < N → H'[k]? = H0[k]? := by
 obtain ⟨x,hb,s',H',rfl,h1,h2,h3⟩:=Vi (T:=T) (base:=B) (id:=16) (body:=Qa3)
  (fun j x => ∃ s' H',x = roI sid s' i ((7:Int) - (j:Nat)) H' [] ∧ Grown .u8 N H' s' ((Qbb st).take (8 * i + j)) ∧ N ≤ H'.length ∧ ∀ k,k < N → H'[k]? = H0[k]?)
  (Q:=fun x => ∃ s' H',x = roI sid s' i (-1) H' [(382,.bool false)] ∧ Grown .u8 N H' s' ((Qbb st).take (8 * i + 8)) ∧ N ≤ H'.length ∧ ∀ k,k < N → H'[k]? = H0[k]?)
  8 (s:=roI sid s0 i 7 H0 []) ⟨s0,H0,rfl,hg0,hL0,fun _ _ => rfl⟩
  (fun j x hj hx => by
   obtain ⟨s',H',rfl,h1,h2,h3⟩:=hx
   have e:((7:Int) - (j:Nat)) = ((7 - j:Nat):Int):=by omega
   obtain ⟨s2,H2,k1,k2,k3,k4⟩:=Qzj (c:=7 - j) hBN hsN ((h3 sid hsN).trans hso) h1 h2 (by rw [Jx]; omega) hi (by omega) hw hw'
   have hget:=Qv4 hi hj hw
   rw [show (Qbb st).take (8 * i) = (Qbb st).take (8 * i) from rfl] at hg0
   have ht:(Qbb st).take (8 * i + (j + 1)) = (Qbb st).take (8 * i + j) ++ [w / 256 ^ (7 - j) % 256]:=by
    rw [← Ka,Yf,hget]; rfl
   rw [← e] at k1
   exact ⟨_,k1,s2,H2,by rw [show (7:Int) - (j:Nat) - 1 = (7:Int) - ((j + 1:Nat):Int) by omega],by rw [ht]; exact k2,k3,fun k hk => (k4 k hk).trans (h3 k hk)⟩)
  (fun x hx => by
   obtain ⟨s',H',rfl,h1,h2,h3⟩:=hx
   refine ⟨_,?_,s',H',rfl,h1,h2,h3⟩
   simp only [roI,Qa3,↓Zr,Z0,quiet,cF,↓pF,reduceCtorEq,Qb,Qp,Zh,Zf,Zg,Ze,Zc,Qj,Q3,Qi,Q2,Q6,Q5,↓Zu,↓Zm,↓Z5,↓Z9,↓Z6,↓Z7,cL,Qo,Qn,Qx,Qw,Qu,Ql,Qk,Qv,Qd,Qz,Q0,Qq,Qf,Qh,Qg,Qt,Qs,Qr,Qm,Qe,cJ])
 exact ⟨s',H',hb,h1,h2,h3⟩
def Qkm (sid:Nat) (s:Value) (i:Int) (Hc:List Ob) (ex:Env):St:=⟨[(5,.int .i64 8),(11,.slice (some ⟨sid,0,none⟩) 8 8),(30,s),(31,.int .i64 i)] ++ ex,Hc,[]⟩
theorem Qve {B N sid:Nat} {H0:List Ob} {st:List Nat} {x3:Bool} (hBN:B ≤ N) (hsN:sid < N) (hso:H0[sid]? = some ⟨ns .u64 st,true,true,x3,1⟩) (hL0:N ≤ H0.length) (ls:st.length = 8) (xs:∀ w ∈ st,w < 18446744073709551616) :
  ∃ s' H',Jk T B (.block 14 (.loop Qde)) (Qkm sid (.slice none 0 0) 0 H0 []) = some (.normal,Qkm sid s' 8 H' [(376,.bool false)]) ∧ Grown .u8 N H' s' (Qbb st) ∧ N ≤ H'.length ∧ ∀ k,k < N → H'[k]? = H0[k]? := by
 obtain ⟨x,hb,s',H',rfl,h1,h2,h3⟩:=Vi (T:=T) (base:=B) (id:=14) (body:=Qde)
  (fun j x => ∃ s' H',x = Qkm sid s' j H' [] ∧ Grown .u8 N H' s' ((Qbb st).take (8 * j)) ∧ N ≤ H'.length ∧ ∀ k,k < N → H'[k]? = H0[k]?)
  (Q:=fun x => ∃ s' H',x = Qkm sid s' 8 H' [(376,.bool false)] ∧ Grown .u8 N H' s' (Qbb st) ∧ N ≤ H'.length ∧ ∀ k,k < N → H'[k]? = H0[k]?)
  8 (s:=Qkm sid (.slice none 0 0) 0 H0 []) ⟨_,_,rfl,.nil,hL0,fun _ _ => rfl⟩
  (fun j x hj hx => by
   obtain ⟨s',H',rfl,h1,h2,h3⟩:=hx
   obtain ⟨w,hw⟩:∃ w,st[j]? = some w:=⟨_,Q1 (by omega)⟩
   obtain ⟨s2,H2,k1,k2,k3,k4⟩:=Qvd hBN hsN ((h3 sid hsN).trans hso) h1 h2 hj hw (xs w (Zk hw))
   refine ⟨Qkm sid s2 ((j + 1:Nat):Int) H2 [],?_,s2,H2,rfl,k2,k3,fun k hk => (k4 k hk).trans (h3 k hk)⟩
   have e1:((j:Int) < 8) = True:=eq_true (by omega)
   have w3:IntKind.i64.wrap ((j:Int) + 1) = ((j + 1:Nat):Int):=Y0 (b:=1) (by omega)
   simp only [roI,Zb,Za] at k1
   generalize hj1:j + 1 = j1 at *
   simp only [Qkm,Qde,↓Zr,Z0,quiet,cF,↓pF,reduceCtorEq,Qb,Qp,Zh,Zf,Zg,Ze,Zc,Qj,Q3,Qi,Q2,Q6,Q5,↓Zu,↓Zm,↓Z5,↓Z9,↓Z6,↓Z7,cL,Qo,Qn,Qx,Qw,Qu,Ql,Qk,Qv,Qd,Qz,Q0,Qq,Qf,Qh,Qg,Qt,Qs,Qr,Qm,Qe,cJ,e1,k1,w3,hj1])
  (fun x hx => by
   obtain ⟨s',H',rfl,h1,h2,h3⟩:=hx
   rw [Zl (by rw [Qv3]; decide)] at h1
   refine ⟨_,?_,s',H',rfl,h1,h2,h3⟩
   simp only [Qkm,Qde,↓Zr,Z0,quiet,cF,↓pF,reduceCtorEq,Qb,Qp,Zh,Zf,Zg,Ze,Zc,Qj,Q3,Qi,Q2,Q6,Q5,↓Zu,↓Zm,↓Z5,↓Z9,↓Z6,↓Z7,cL,Qo,Qn,Qx,Qw,Qu,Ql,Qk,Qv,Qd,Qz,Q0,Qq,Qf,Qh,Qg,Qt,Qs,Qr,Qm,Qe,cJ])
 exact ⟨s',H',hb,h1,h2,h3⟩
theorem Qrx {bs:List Nat} (xb:∀ y ∈ bs,y < 256):((⟨(bs.map UInt8.ofNat).toArray⟩:ByteArray).data.toList.map fun b => Value.int .u8 b.toNat) = u8s bs:=by
 simp only [Qlq,u8s]
 refine List.map_congr_left fun y hy => ?_
 have:=xb y hy
 simp [Function.comp,Z3 this]
theorem Qy8 {bs:List Nat} {id:Nat} (xb:∀ y ∈ bs,y < 256) (hb:bs.length ≤ 2 ^ 47):Qyv id (W9 bs) = some (.slice (some ⟨id,0,none⟩) bs.length bs.length,⟨u8s bs,true,true,false,1⟩):=by
 unfold W9
 rw [Qua,Qrx xb]
 have:(⟨(bs.map UInt8.ofNat).toArray⟩:ByteArray).size = bs.length:=by simp [ByteArray.size]
 rw [this,gate,if_pos hb]
theorem Q6h {G:List Ob} {bs:List Nat} (hb:bs.length < 2 ^ 46) :
  Y4 1 1 (G ++ [⟨u8s bs,true,true,false,1⟩,⟨[.int .u8 128],true,true,true,1⟩]) (.slice (some ⟨G.length,0,none⟩) bs.length bs.length) (.slice (some ⟨G.length + 1,0,none⟩) 1 1) = some (.slice (some ⟨G.length + 2,0,none⟩) (bs.length + 1) (bs.length + 1),G ++ [Ob.dead,⟨[.int .u8 128],true,true,true,1⟩,Ob.grown 1 (u8s (bs ++ [128]))],none,[G.length]):=by
 have h1:liveAt (G ++ [⟨u8s bs,true,true,false,1⟩,⟨[.int .u8 128],true,true,true,1⟩]) (G.length + 1) = some ⟨[.int .u8 128],true,true,true,1⟩:=Wq
 have h2:liveAt (G ++ [⟨u8s bs,true,true,false,1⟩,⟨[.int .u8 128],true,true,true,1⟩]) G.length = some ⟨u8s bs,true,true,false,1⟩:=Y9
 have h3:elemsOf (G ++ [⟨u8s bs,true,true,false,1⟩,⟨[.int .u8 128],true,true,true,1⟩]) 1 1 (.slice (some ⟨G.length + 1,0,none⟩) 1 1) = some [.int .u8 128]:=by simp [elemsOf,h1]
 have h4:elemsOf (G ++ [⟨u8s bs,true,true,false,1⟩,⟨[.int .u8 128],true,true,true,1⟩]) 1 bs.length (.slice (some ⟨G.length,0,none⟩) bs.length bs.length) = some (u8s bs):=by
  have:Wn bs.length (u8s bs) = u8s bs:=Zl (by rw [X2]; exact Zj _)
  simp [elemsOf,h2,X2,this]
 have k1:Go.Ev.lenV (.slice (some ⟨G.length + 1,0,none⟩) 1 1) = some 1:=rfl
 have e1:¬ ((1:Nat) = 0):=by decide
 have e2:(bs.length + 1) * 1 ≤ 2 ^ 47 ∧ 0 < 1 ∧ 0 < 1:=⟨by omega,by decide,by decide⟩
 have e3:¬ (bs.length + 1 ≤ bs.length):=by omega
 have hap:u8s (bs ++ [128]) = u8s bs ++ [.int .u8 128]:=by simp [u8s]
 simp only [Y4,k1,h2,h3,h4,Q4,if_neg e1,e2,and_self,not_true_eq_false,if_false,if_neg e3,hap]
 simp
theorem Grown.ob {k:IntKind} {B:Nat} {H:List Ob} {s:Value} {bs:List Nat} (h:Grown k B H s bs) (h0:0 < bs.length):∃ id x,s = .slice (some ⟨id,0,none⟩) bs.length bs.length ∧ B ≤ id ∧ H[id]? = some ⟨ns k bs,true,true,x,1⟩:=by
 cases h with
 | nil => exact absurd h0 (by decide)
 | @own id _ h1 h2 h3 => exact ⟨id,false,rfl,h1,h3⟩
 | @new id _ h1 h2 h3 => exact ⟨id,true,rfl,h1,h3⟩
theorem Grown.weak {k:IntKind} {B N:Nat} {H:List Ob} {s:Value} {bs:List Nat} (h:Grown k N H s bs) (hB:B ≤ N):Grown k B H s bs:=by
 cases h with
 | nil => exact .nil
 | own h1 h2 h3 => exact .own (by omega) h2 h3
 | new h1 h2 h3 => exact .new (by omega) h2 h3
theorem Qze {H:List Ob} {bs:List Nat} {hid:Nat} {xe:Bool} (xb:∀ y ∈ bs,y < 256) (hb:bs.length < 2 ^ 46) (hh:H[hid]? = some ⟨ns .u64 Hs,true,true,xe,1⟩) :
  ∃ s l,V6 T 90 [W9 bs,.agg (shC (.slice (some ⟨hid,0,none⟩) 8 8)).toArray] H = some (s,H ++ l,[]) ∧ Grown .u8 H.length (H ++ l) s (sha bs):=by
 obtain ⟨sv,hsv⟩:∃ v,v = Value.slice (some ⟨hid,0,none⟩) 8 8:=⟨_,rfl⟩
 rw [← hsv]
 have hhl:=(Q8.1 hh).1
 have hok:Yj (.agg (shC sv).toArray) = true:=by rw [hsv]; rfl
 obtain ⟨G1,hG1⟩:∃ X,X = H ++ [(⟨shC sv,true,true,true,1⟩:Ob)]:=⟨_,rfl⟩
 have l1:G1.length = H.length + 1:=by rw [hG1]; simp
 have gB:G1[H.length]? = some ⟨shC sv,true,true,true,1⟩:=by rw [hG1,Zi (Zj _),K9]; rfl
 have gh:G1[hid]? = some ⟨ns .u64 Hs,true,true,xe,1⟩:=by rw [hG1,Qy hhl]; exact hh
 have h2b:=Qy8 (id:=G1.length) xb (by omega:bs.length ≤ 2 ^ 47)
 have h80:=Q6h (G:=G1) hb
 obtain ⟨H3,hH3⟩:∃ X,X = G1 ++ [Ob.dead,(⟨[.int .u8 128],true,true,true,1⟩:Ob),Ob.grown 1 (u8s (bs ++ [128]))]:=⟨_,rfl⟩
 rw [← hH3] at h80
 have hg3:Grown .u8 (H.length + 1) H3 (.slice (some ⟨G1.length + 2,0,none⟩) (bs.length + 1) (bs.length + 1)) (bs ++ [128]):=by
  have:=Grown.own (k := .u8) (B:=H.length + 1) (H:=H3) (id:=G1.length + 2) (bs:=bs ++ [128]) (by omega) (by simp) (by rw [hH3,Zi (by omega),Ke]; rfl)
  rwa [Z4] at this
 have p3:∀ i,i < H.length + 1 → H3[i]? = G1[i]? := fun i hi => by rw [hH3,Qy (by omega)]
 obtain ⟨s4,H4,h4,hg4,l4,p4⟩:=Qu4 (B:=H.length) (N:=H.length + 1) (x:=W9 bs) (by omega) gB hb hg3 (by rw [hH3]; simp; omega) p3
 have h7:=Qvm (B:=H.length) (n:=bs.length) (s:=s4) (Hm:=H4) (by omega) hb
 obtain ⟨H5,hH5⟩:∃ X,X = H4 ++ [(⟨u8s ((Y5 16).map (Mc bs.length)),true,true,true,1⟩:Ob)]:=⟨_,rfl⟩
 have l5:H5.length = H4.length + 1:=by rw [hH5]; simp
 have hg5:Grown .u8 (H.length + 1) H5 s4 (bs ++ 128 :: Qa (B6 bs.length) 0):=by rw [hH5]; exact hg4.app
 have lc:((Y5 16).map (Mc bs.length)).length = 16:=by simp
 have he5:elemsOf H5 1 ((Y5 16).map (Mc bs.length)).length (.slice (some ⟨H4.length,0,none⟩) 16 16) = some (ns .u8 ((Y5 16).map (Mc bs.length))):=by
  rw [lc,hH5]
  have:Wn 16 (u8s ((Y5 16).map (Mc bs.length))) = ns .u8 ((Y5 16).map (Mc bs.length)):=Zl (by rw [X2,lc]; exact Zj _)
  simp [elemsOf,Y9,X2,this]
 have hz:=Qcq bs.length
 obtain ⟨s6,H6,M6,ha6,hg6,hM6,l6,p6⟩:=hg5.append (bytes:=1) (x := .slice (some ⟨H4.length,0,none⟩) 16 16) (by omega) (by rw [lc]; rfl) he5 (by rw [lc]; simp; omega) (by decide)
 have hall:bs ++ 128 :: Qa (B6 bs.length) 0 ++ (Y5 16).map (Mc bs.length) = bs ++ Ra bs.length:=by rw [Qq2,J3]
 rw [hall] at hg6
 have lall:(bs ++ Ra bs.length).length = bs.length + (17 + B6 bs.length):=by rw [Z4,Qcr]
 obtain ⟨tid,x4,rfl,htid,htx⟩:=Grown.ob hg6 (by omega)
 have q6:∀ i,i < H.length + 1 → H6[i]? = G1[i]? := fun i hi => by rw [p6 i hi,hH5,Qy (by omega)]; exact p4 i hi
 have htb:=Qr0 H6
 obtain ⟨H7,hH7⟩:∃ X,X = H6 ++ [(⟨ns .u64 Dn,true,true,true,1⟩:Ob)]:=⟨_,rfl⟩
 have l7:H7.length = H6.length + 1:=by rw [hH7]; simp
 have u7:∀ {i:Nat} {o:Ob},H6[i]? = some o → H7[i]? = some o:=fun {i o} h => by rw [hH7,Qy (Q8.1 h).1]; exact h
 have k7:H7[H6.length]? = some ⟨ns .u64 Dn,true,true,true,1⟩:=by rw [hH7,Zi (Zj _),K9]; rfl
 have hap:=app8 (u7 ((q6 hid (by omega)).trans gh)) Qry
 obtain ⟨H8,hH8⟩:∃ X,X = H7 ++ [(⟨[],true,true,true,1⟩:Ob),Ob.grown 1 (ns .u64 Hs)]:=⟨_,rfl⟩
 have l8:H8.length = H7.length + 2:=by rw [hH8]; simp
 have u8':∀ {i:Nat} {o:Ob},H7[i]? = some o → H8[i]? = some o:=fun {i o} h => by rw [hH8,Qy (Q8.1 h).1]; exact h
 have k8:H8[H7.length + 1]? = some ⟨ns .u64 Hs,true,true,false,1⟩:=by rw [hH8,Zi (by omega),Ke]; rfl
 rw [← hH8] at hap
 obtain ⟨H9,hH9⟩:∃ X,X = H8 ++ [(⟨tuC,true,true,true,1⟩:Ob)]:=⟨_,rfl⟩
 have l9:H9.length = H8.length + 1:=by rw [hH9]; simp
 have u9:∀ {i:Nat} {o:Ob},H8[i]? = some o → H9[i]? = some o:=fun {i o} h => by rw [hH9,Qy (Q8.1 h).1]; exact h
 have k9:H9[H8.length]? = some ⟨tuC,true,true,true,1⟩:=by rw [hH9,Zi (Zj _),K9]; rfl
 have htl:=(Q8.1 htx).1
 have xall:∀ y ∈ bs ++ Ra bs.length,y < 256:=fun y hy => (Xb.1 hy).elim (xb y) (Qq1 _ y)
 have hm:(bs ++ Ra bs.length).length = 128 * ((bs ++ Ra bs.length).length / 128):=by
  have:=Qgo bs.length
  rw [lall]; omega
 obtain ⟨H10,hre,hst,l10,p10⟩:=Qvj (B:=H.length) (tid:=tid) (kid:=H6.length) (sid:=H7.length + 1) (u:=H8.length) (by omega) (by omega) (by omega) (by omega) (u9 (u8' (u7 ((q6 _ (by omega)).trans gB)))) k9 (u9 (u8' k7)) (u9 (u8' (u7 htx))) (u9 k8) (by omega) xall hm
 obtain ⟨s',H11,hro,hg11,l11,p11⟩:=Qve (B:=H.length) (N:=H9.length) (by omega) (by omega) hst l10 (Qal _ _) (Qkf _ _)
 have hsha:Qbb (stK ((bs ++ Ra bs.length).length / 128) (bs ++ Ra bs.length)) = sha bs:=rfl
 rw [hsha] at hg11
 have pH:∀ i,i < H.length → H11[i]? = H[i]? := fun i hi => by
  rw [p11 i (by omega),p10 i (by omega) (by omega),hH9,Qy (by omega),hH8,Qy (by omega),hH7,Qy (by omega),q6 i (by omega),hG1,Qy hi]
 obtain ⟨l,rfl⟩:=Dt (H:=H) (by omega) pH
 refine ⟨s',l,?_,Grown.weak hg11 (by omega)⟩
 have F1:H ++ [(⟨shC sv,true,true,true,1⟩:Ob)] = G1:=hG1.symm
 have F7:H6 ++ [(⟨ns .u64 Dn,true,true,true,1⟩:Ob)] = H7:=hH7.symm
 have F9:H8 ++ [(⟨tuC,true,true,true,1⟩:Ob)] = H9:=hH9.symm
 have B7:∀ m:List Ob,(H7 ++ m)[H.length]? = some ⟨shC sv,true,true,true,1⟩:=fun m => by rw [Qy (by omega)]; exact u7 ((q6 _ (by omega)).trans gB)
 have B8:H8[H.length]? = some ⟨shC sv,true,true,true,1⟩:=u8' (u7 ((q6 _ (by omega)).trans gB))
 have c0:=shC_0 sv
 have c3:=shC_3 sv
 have lsh:=Qqt sv
 have htu:((shC sv).drop 4).take 12 = tuC:=rfl
 have hz16:(Qa 16 [Value.int .u8 0]).flatten = u8s (Qa 16 0):=rfl
 have f128:fillL [Value.int .u8 0] [(0,1,.int .u8 128)] = some [.int .u8 128]:=rfl
 have f0:fillL ([]:List Value) [] = some []:=rfl
 have hlen:=Qce (bs:=bs)
 have w1:IntKind.u64.wrap (bs.length:Int) = (bs.length:Nat):=D2 (by omega)
 have im1:Xo H.length [] [G1.length] = []:=Yl (by simp; omega)
 have im2:Xo H.length [] M6 = []:=Yl fun i hi => by have:=hM6 i hi; omega
 have im3:Xo H.length [] [H8.length] = []:=Yl (by simp; omega)
 have ltu:=Qqq
 rw [F7] at htb
 simp only [rzI,rcI,reI,Qkm,Zb,Za,Xu,← hH5] at h4 h7 hre hro
 rw [← hsv] at hap
 clear hG1 hH3 hH5 hH7 hH8 hH9 hg3 hg4 hg5 hg6 hg11 he5 p3 p4 p6 p10 p11 pH q6 u7 u8' u9 gh hh k7 k8 k9 htx hst hsha xall hm hall
 generalize shC sv = sc at *
 generalize tuC = tc at *
 generalize u8s (Qa 16 0) = Z16 at *
 generalize hbl:bs.length = n at *
 generalize (bs ++ Ra n).length = LL at *
 rw [Jb (fn:=Q2q) rfl]
 simp only [Q2q,↓Zr,Z0,quiet,cF,↓pF,reduceCtorEq,Qb,Qp,Zh,Zf,Zg,Ze,Zc,Qj,Q3,Qi,Q2,Q6,Q5,↓Zu,↓Zm,↓Z5,↓Z9,↓Z6,↓Z7,cL,Qo,Qn,Qx,Qw,Qu,Ql,Qk,Qv,Qd,Qz,Q0,Qq,Qf,Qh,Qg,Qt,Qs,Qr,Qm,Qe,cJ,hok,F1,gB,c0,c3,h2b,f128,h80,h4,hz16,hlen,w1,h7,ha6,htb,f0,hap,B7,B8,htu,lsh,ltu,F9,hre,hro,im1,im2,im3,Xd,Zd]
def rtI (tid:Nat) (Hm:List Ob) (X:List Nat) (i:Nat) (ex:Env):St:=⟨[(2,.pointer (some ⟨0,0,none⟩)),(4,.slice (some ⟨tid,0,none⟩) 64 64),(5,.pointer (some ⟨Hm.length,0,none⟩)),(6,.int .i64 i)] ++ ex,Hm ++ [⟨u8s X,true,true,true,1⟩],[]⟩
theorem Qu6 {tid:Nat} {Hm:List Ob} {S:List Nat} {x:Bool} (ht:Hm[tid]? = some ⟨u8s S,true,true,x,1⟩) (lS:S.length = 64) :
  Jk T 0 (.block 0 (.loop Qdf)) (rtI tid Hm (Qa 64 0) 0 []) = some (.normal,rtI tid Hm S 64 [(17,.bool false)]):=by
 have h:=Wc (T:=T) (base:=0) (id:=0) (body:=Qdf) (fun i => rtI tid Hm (pf 64 S i) i []) (s':=rtI tid Hm S 64 [(17,.bool false)]) 64
  (fun i hi => by
   obtain ⟨w,hw⟩:∃ w,S[i]? = some w:=⟨_,Q1 (by omega)⟩
   have hstep:=Gq lS hi hw
   have hset:=U2 (pf 64 S i) i w
   rw [hstep] at hset
   have hle:i + 1 ≤ (u8s (pf 64 S i)).length:=by rw [X2,Hw lS (by omega)]; omega
   have e1:((i:Int) < 64) = True:=eq_true (by omega)
   have w3:IntKind.i64.wrap ((i:Int) + 1) = ((i + 1:Nat):Int):=Y0 (b:=1) (by omega)
   have gt:∀ m:List Ob,(Hm ++ m)[tid]? = some ⟨u8s S,true,true,x,1⟩:=fun m => by rw [Qy (Q8.1 ht).1]; exact ht
   have gw:(u8s S)[i]? = some (.int .u8 (w:Nat)):=Wp hw
   have im:Xo 0 [] [Hm.length] = []:=Yl (by simp)
   generalize pf 64 S i = O1 at *
   generalize pf 64 S (i + 1) = O2 at *
   generalize hi1:i + 1 = i1 at *
   simp only [rtI,Qdf,↓Zr,Z0,quiet,cF,↓pF,reduceCtorEq,Qb,Qp,Zh,Zf,Zg,Ze,Zc,Qj,Q3,Qi,Q2,Q6,Q5,↓Zu,↓Zm,↓Z5,↓Z9,↓Z6,↓Z7,cL,Qo,Qn,Qx,Qw,Qu,Ql,Qk,Qv,Qd,Qz,Q0,Qq,Qf,Qh,Qg,Qt,Qs,Qr,Qm,Qe,cJ,e1,w3,gt,gw,hset,hle,im,hi1])
  (by
   rw [Hy lS]
   simp only [rtI,Qdf,↓Zr,Z0,quiet,cF,↓pF,reduceCtorEq,Qb,Qp,Zh,Zf,Zg,Ze,Zc,Qj,Q3,Qi,Q2,Q6,Q5,↓Zu,↓Zm,↓Z5,↓Z9,↓Z6,↓Z7,cL,Qo,Qn,Qx,Qw,Qu,Ql,Qk,Qv,Qd,Qz,Q0,Qq,Qf,Qh,Qg,Qt,Qs,Qr,Qm,Qe,cJ])
 rw [Hx] at h
 exact h
theorem Qi9 {bs:List Nat} (xb:∀ y ∈ bs,y < 256) (hb:bs.length < 2 ^ 46):Vd T 53 [W9 bs] = some (.agg (u8s (sha bs)).toArray):=by
 have hz64:Qa 64 (Value.int .u8 0) = u8s (Qa 64 0):=rfl
 have lz64:(Qa 64 0).length = 64:=Zd
 obtain ⟨G,hG⟩:∃ X,X = [(⟨u8s (Qa 64 0),true,true,true,1⟩:Ob),⟨shC (.slice (some ⟨2,0,none⟩) 8 8),true,true,true,1⟩,⟨ns .u64 Hs,true,true,true,1⟩]:=⟨_,rfl⟩
 obtain ⟨s,l,h1,hg⟩:=Qze (H:=G) (hid:=2) (xe:=true) xb hb (by rw [hG]; rfl)
 have lS:=Hg bs
 obtain ⟨tid,x,rfl,h2,h3⟩:=Grown.ob hg (by omega)
 rw [lS] at h1
 have h4:=Qu6 (tid:=tid) h3 lS
 obtain ⟨G2,hG2⟩:∃ X,X = G ++ l:=⟨_,rfl⟩
 have g0:∀ m:List Ob,(G2 ++ m)[0]? = some ⟨u8s (Qa 64 0),true,true,true,1⟩:=fun m => by rw [hG2,hG]; rfl
 have s1:∀ (m:List Ob) (o:Ob),(G2.set 0 o ++ m)[0]? = some o:=fun m o => by rw [hG2,hG]; rfl
 have s0:∀ (m:List Ob) (o:Ob),(G2 ++ m).set 0 o = (G2.set 0 o) ++ m:=fun m o => by rw [hG2,hG]; rfl
 rw [← hG2] at h1 h4
 simp only [rtI,Zb,Za,Xu] at h4
 have fI:fillL (Qa 8 (Value.int .u64 0)) [(0,1,.int .u64 7640891576956012808),(1,1,.int .u64 13503953896175478587),(2,1,.int .u64 4354685564936845355),(3,1,.int .u64 11912009170470909681),(4,1,.int .u64 5840696475078001361),(5,1,.int .u64 11170449401992604703),(6,1,.int .u64 2270897969802886507),(7,1,.int .u64 6620516959819538809)] = some (ns .u64 Hs):=rfl
 rw [hG] at h1
 clear hg h3 hG hG2
 have fT:fillL [Value.int .i64 0,.int .i64 0,.int .i64 0,.slice none 0 0,.int .i64 0,.int .i64 0,.int .i64 0,.int .i64 0,.int .i64 0,.int .i64 0,.int .i64 0,.int .i64 0,.int .i64 0,.int .i64 0,.int .i64 0,.int .i64 0] [(0,1,.int .i64 64),(1,1,.int .i64 80),(2,1,.int .i64 128)] = some ([Value.int .i64 64,.int .i64 80,.int .i64 128,.slice none 0 0] ++ Qa 12 (.int .i64 0)):=rfl
 have f12:fillL (Qa 12 (Value.int .i64 0)) [(0,1,.int .i64 1),(1,1,.int .i64 8),(2,1,.int .i64 7),(3,1,.int .i64 19),(4,1,.int .i64 61),(5,1,.int .i64 6),(6,1,.int .i64 28),(7,1,.int .i64 34),(8,1,.int .i64 39),(9,1,.int .i64 14),(10,1,.int .i64 18),(11,1,.int .i64 41)] = some tuC:=rfl
 have hs3:([Value.int .i64 64,.int .i64 80,.int .i64 128,.slice none 0 0] ++ Qa 12 (Value.int .i64 0)).set 3 (Value.slice (some ⟨2,0,none⟩) 8 8) = [Value.int .i64 64,.int .i64 80,.int .i64 128,.slice (some ⟨2,0,none⟩) 8 8] ++ Qa 12 (Value.int .i64 0):=rfl
 have hs4:splice ([Value.int .i64 64,.int .i64 80,.int .i64 128,.slice (some ⟨2,0,none⟩) 8 8] ++ Qa 12 (Value.int .i64 0)) 4 tuC = shC (.slice (some ⟨2,0,none⟩) 8 8):=rfl
 have lc1:([Value.int .i64 64,.int .i64 80,.int .i64 128,.slice none 0 0] ++ Qa 12 (Value.int .i64 0)).length = 16:=rfl
 have lc2:([Value.int .i64 64,.int .i64 80,.int .i64 128,.slice (some ⟨2,0,none⟩) 8 8] ++ Qa 12 (Value.int .i64 0)).length = 16:=rfl
 have lsh:=Qqt (.slice (some ⟨2,0,none⟩) 8 8)
 have ltu:=Qqq
 have fz:fillL (u8s (Qa 64 0)) [] = some (u8s (Qa 64 0)):=rfl
 generalize [Value.int .i64 64,.int .i64 80,.int .i64 128,.slice none 0 0] ++ Qa 12 (Value.int .i64 0) = C1 at *
 generalize [Value.int .i64 64,.int .i64 80,.int .i64 128,.slice (some ⟨2,0,none⟩) 8 8] ++ Qa 12 (Value.int .i64 0) = C2 at *
 generalize shC (.slice (some ⟨2,0,none⟩) 8 8) = C3 at *
 generalize tuC = TU at *
 generalize sha bs = S at *
 generalize Qa 64 0 = Z64 at *
 apply Xg
 apply Zt
 rw [Jb (fn:=Q2r) rfl]
 simp only [Q2r,↓Zr,Z0,quiet,cF,↓pF,reduceCtorEq,Qb,Qp,Zh,Zf,Zg,Ze,Zc,Qj,Q3,Qi,Q2,Q6,Q5,↓Zu,↓Zm,↓Z5,↓Z9,↓Z6,↓Z7,cL,Qo,Qn,Qx,Qw,Qu,Ql,Qk,Qv,Qd,Qz,Q0,Qq,Qf,Qh,Qg,Qt,Qs,Qr,Qm,Qe,cJ,hz64,fz,fI,fT,f12,hs3,hs4,lc1,lc2,lsh,ltu,h1,h4,g0,s0,s1,Jv,Xs,Vm,Xt,X2,lz64,lS,Xd,Zd,Vl]
 rfl
theorem Qby (p:Go.Cv.Pt Go.Fp.P Go.Fp.d):W3 p U1 = p:=Go.Cv.add_zero Go.Fp.fld p
theorem Qcp (p:Go.Cv.Pt Go.Fp.P Go.Fp.d):W3 p p.neg = U1:=Go.Cv.add_neg Go.Fp.fld p
theorem Ma (a b:Nat) (p:Go.Cv.Pt Go.Fp.P Go.Fp.d):V9 (a + b) p = W3 (V9 a p) (V9 b p):=Go.Cv.mul_add Go.Fp.fld a b p
theorem Tx (a b:Nat) (p:Go.Cv.Pt Go.Fp.P Go.Fp.d):V9 (a * b) p = V9 a (V9 b p):=Go.Cv.Qq9 Go.Fp.fld a b p
theorem Hi {l:Nat} {p:Go.Cv.Pt Go.Fp.P Go.Fp.d} (hl:V9 l p = U1) (k:Nat):V9 (k % l) p = V9 k p:=Go.Cv.mul_mod Go.Fp.fld hl k
theorem Qjf (k:Nat):V9 k U1 = U1:=Go.Cv.mul_zero Go.Fp.fld k
abbrev LtN (n:Nat):Nat → Prop:=fun i => i < n
theorem HPart.arr {n id off m c:Nat} {H:List Ob} {b:List Nat} {w e:Bool} {s:Nat} (hid:id < n) (h:H[id]? = some ⟨u8s b,true,w,e,s⟩) (hb:∀ y ∈ b,y < 256) (hl:off + m ≤ b.length) (hm:m ≤ 2 ^ 47 - 4096):HPart (LtN n) H (.slice (some ⟨id,off,none⟩) m c) ((b.drop off).take m):=by
 have hlen:((b.drop off).take m).length = m:=by rw [Jx,Vs]; omega
 refine ⟨⟨_,_,by rw [hlen]⟩,fun G hG => ?_,fun y hy => hb y (Yz (Kr hy)),by rw [hlen]; omega⟩
 have hg:=(hG id hid).trans h
 rw [hlen]
 simp [elemsOf,Yg hg rfl,X2,hl]
 simp [u8s,List.map_take,List.map_drop]
theorem HPart.whole {n id c:Nat} {H:List Ob} {b:List Nat} {w e:Bool} {s:Nat} (hid:id < n) (h:H[id]? = some ⟨u8s b,true,w,e,s⟩) (hb:∀ y ∈ b,y < 256) (hm:b.length ≤ 2 ^ 47 - 4096):HPart (LtN n) H (.slice (some ⟨id,0,none⟩) b.length c) b:=by
 have:=HPart.arr (off:=0) (m:=b.length) (c:=c) hid h hb (by omega) hm
 rwa [Q2,Hp] at this
theorem HPart.ext {n m:Nat} {H G:List Ob} {x:Value} {p:List Nat} (h:HPart (LtN n) H x p) (hg:∀ i,i < n → G[i]? = H[i]?) (hnm:n ≤ m):HPart (LtN m) G x p :=
 ⟨h.shape,fun G' hG' => h.reads G' fun i hi => (hG' i (X1 hi hnm)).trans (hg i hi),h.lt,h.le⟩
theorem HParts.ext {n m:Nat} {H G:List Ob} {xs:List Value} {ps:List (List Nat)} (h:HParts (LtN n) H xs ps) (hg:∀ i,i < n → G[i]? = H[i]?) (hnm:n ≤ m):HParts (LtN m) G xs ps:=by
 induction h with
 | nil => exact .nil
 | cons a _ ih => exact .cons (a.ext hg hnm) ih
theorem HParts.append {K:Nat → Prop} {H:List Ob} {xs ys:List Value} {ps qs:List (List Nat)} (h:HParts K H xs ps) (k:HParts K H ys qs):HParts K H (xs ++ ys) (ps ++ qs):=by
 induction h with
 | nil => exact k
 | cons a _ ih => exact .cons a ih
structure Args1 (H:List Ob) (pv:Value) (ps:List (List Nat)) (xs:List Value):Prop where
 inPv:PV (LtN H.length) H pv xs
 parts:HParts (LtN H.length) H xs ps
 few:xs.length < 2 ^ 40
 len:Go.Ev.lenV pv = some xs.length
 reads:∀ G:List Ob,(∀ i,i < H.length → G[i]? = H[i]?) → elemsOf G 1 xs.length pv = some xs
def Args (H:List Ob) (pv:Value) (ps:List (List Nat)):Prop:=∃ xs,Args1 H pv ps xs
theorem Args.ext {H G:List Ob} {pv:Value} {ps:List (List Nat)} (h:Args H pv ps) (hg:∀ i,i < H.length → G[i]? = H[i]?) (hl:H.length ≤ G.length):Args G pv ps:=by
 obtain ⟨xs,h1,h2,h3,h4,h5⟩:=h
 refine ⟨xs,?_,h2.ext hg hl,h3,h4,fun G' hG' => h5 G' fun i hi => (hG' i (X1 hi hl)).trans (hg i hi)⟩
 rcases h1 with h | ⟨pid,off,cap,o,a1,a2,a3,a4,a5⟩
 ·exact .inl h
 ·exact .inr ⟨pid,off,cap,o,a1,X1 a2 hl,(hg pid a2).trans a3,a4,a5⟩
theorem Args.app {H l:List Ob} {pv:Value} {ps:List (List Nat)} (h:Args H pv ps):Args (H ++ l) pv ps:=h.ext (fun i hi => Qy hi) (by simp)
theorem Args.nothing (H:List Ob):Args H (.slice none 0 0) []:=⟨[],.inl ⟨rfl,rfl⟩,.nil,by decide,rfl,fun _ _ => rfl⟩
theorem Args.arr {H:List Ob} {a n c:Nat} {e:Bool} {s:Nat} {ys:List Value} {qs:List (List Nat)} (ha:H[a]? = some ⟨ys,true,true,e,s⟩) (hn:ys.length = n) (hys:HParts (LtN H.length) H ys qs) (hf:n < 2 ^ 40):Args H (.slice (some ⟨a,0,none⟩) n c) qs:=by
 subst hn
 refine ⟨ys,.inr ⟨a,0,c,_,rfl,(Q8.1 ha).1,ha,rfl,fun i _ => by rw [Z1]⟩,hys,hf,rfl,fun G hG => ?_⟩
 have hg:=(hG a (Q8.1 ha).1).trans ha
 simp [elemsOf,Yg hg rfl]
theorem Qad {H:List Ob} {a n:Nat} {ys:List Value} {pv:Value} {qs ps:List (List Nat)} (ha:H[a]? = some ⟨ys,true,true,true,1⟩) (hn:ys.length = n) (hys:HParts (LtN H.length) H ys qs) (hp:Args H pv ps) (h10:n ≤ 10) (hps:ps.length ≤ 1000) :
  ∃ v' l,Y4 1 24 H (.slice (some ⟨a,0,none⟩) n n) pv = some (v',H ++ l,none,[]) ∧ Args (H ++ l) v' (qs ++ ps):=by
 have hAr:Args H (.slice (some ⟨a,0,none⟩) n n) qs:=Args.arr ha hn hys (by omega)
 subst hn
 obtain ⟨xs,hp⟩:=hp
 have h4:liveAt H a = some ⟨ys,true,true,true,1⟩:=Yg ha rfl
 have h8:elemsOf H 1 ys.length (.slice (some ⟨a,0,none⟩) ys.length ys.length) = some ys:=by simp [elemsOf,h4]
 have k1:=hp.len
 have k2:=hp.reads H (fun _ _ => rfl)
 have k3:=hp.few
 have k4:=hp.parts.len
 rcases Yd xs.length with h0 | h0
 ·have hx:xs = []:=Yk h0
  have hps':ps = []:=Yk (by rw [hp.parts.len,h0])
  subst hx hps'
  refine ⟨.slice (some ⟨a,0,none⟩) ys.length ys.length,[],?_,by rw [Kv,Kv]; exact hAr⟩
  rw [Je] at k1 k2
  simp only [Y4,k1,k2,Q4,if_true,Kv]
 ·have h1:¬ xs.length = 0:=by omega
  have h2:(ys.length + xs.length) * 24 ≤ 2 ^ 47:=by omega
  have h7:¬ (ys.length + xs.length ≤ ys.length):=by omega
  refine ⟨.slice (some ⟨H.length,0,none⟩) (ys.length + xs.length) (ys.length + xs.length),[Ob.grown 1 (ys ++ xs)],?_,?_⟩
  ·simp only [Y4,k1,k2,Q4,if_neg h1,h2,Qn9,Qty,Rx,and_self,not_true_eq_false,if_false,if_true,h4,h8,if_neg h7]
  ·refine Args.arr (ys:=ys ++ xs) (e:=false) (s:=1) (by rw [Zi (Zj _),K9]; rfl) (by simp) ?_ (by omega)
   exact (hys.ext (fun i hi => Qy hi) (by simp)).append (hp.parts.ext (fun i hi => Qy hi) (by simp))
theorem Ql8 {H:List Ob} {pv:Value} {ps:List (List Nat)} (h:Args H pv ps) (hb:ps.flatten.length < 2 ^ 49):∃ l,V6 T 35 [pv] H = some (.agg (u8s (sha ps.flatten)).toArray,H ++ l,[]):=by
 obtain ⟨xs,h⟩:=h
 have:=h.few
 exact Qrw h.inPv h.parts (by omega) hb
def Qcm (b:List Nat):List Nat:=rd (sha b)
theorem Tw {b:List Nat}:(Qcm b).length = 32:=Qo3
theorem Qcl {b:List Nat}:∀ x ∈ Qcm b,x < 256:=rd_lt
theorem M7 {H:List Ob} {pv:Value} {ps:List (List Nat)} (h:Args H pv ps) (hb:ps.flatten.length < 2 ^ 49) :
  ∃ l,V6 T 17 [pv] H = some (.agg (u8s (Qcm ps.flatten)).toArray,H ++ l,[]):=by
 have hz:Qa 32 (Value.int .u8 0) = u8s (dig 256 32 0):=rfl
 have lz:(dig 256 32 0).length = 32:=rfl
 have hz64:=Qbn
 have lz64:(Qa 64 0).length = 64:=Zd
 obtain ⟨l1,h1⟩:=Ql8 (h.app (l:=[⟨u8s (dig 256 32 0),true,true,true,1⟩])) hb
 have ls:=Hg ps.flatten
 have xs:=Qbs ps.flatten
 obtain ⟨G,hG⟩:∃ X,X = H ++ (⟨u8s (dig 256 32 0),true,true,true,1⟩ :: (l1 ++ [⟨u8s (sha ps.flatten),true,true,true,1⟩,⟨[.slice (some ⟨H.length + (l1.length + 1),0,none⟩) 64 64],true,true,true,1⟩])):=⟨_,rfl⟩
 have hGl:G.length = H.length + (l1.length + 3):=by rw [hG]; simp
 have hg1:G[H.length + (l1.length + 1)]? = some ⟨u8s (sha ps.flatten),true,true,true,1⟩:=by
  rw [hG,Zi (by omega),Ke,Zp,Zi (Zj _),K9]; rfl
 have hg2:G[H.length + (l1.length + 1 + 1)]? = some ⟨[.slice (some ⟨H.length + (l1.length + 1),0,none⟩) 64 64],true,true,true,1⟩:=by
  rw [hG,Zi (by omega),Ke,Zp,Zi (by omega),Ke]; rfl
 have hP:Qyo .u8 G (H.length + (l1.length + 1 + 1)) 0 [sha ps.flatten]:=by
  refine ⟨_,Yg hg2 rfl,fun i p hi => ?_⟩
  cases i with
  | zero =>
   simp at hi; subst hi
   refine ⟨_,rfl,?_⟩
   have:=Sl.mk (k := .u8) (c:=64) (off:=0) (l:=sha ps.flatten) (Yg hg1 rfl) (by simp [X2]) (fun i x hx => by rw [Z1]; exact Wp hx)
   rwa [ls] at this
  | succ i => simp at hi
 obtain ⟨l2,h2⟩:=Qr7 (c:=1) (n:=1) hP rfl (by decide) (by simp [ls]) (by simpa using xs)
 rw [Vj,Ud,Kv] at h2
 have hfr:∀ i,i < H.length → ((G ++ l2).set H.length (⟨u8s (Qcm ps.flatten),true,true,true,1⟩:Ob))[i]? = H[i]? := fun i hi => by
  rw [Ji (by omega),Qy (by omega),hG,Qy hi]
 obtain ⟨l,hl⟩:=Dt (H:=H) (by rw [Xe,Z4]; omega) hfr
 refine ⟨l,?_⟩
 rw [← hl]
 have g4:∀ o:Ob,((G ++ l2).set H.length o)[H.length]? = some o:=fun o => Xp (by rw [Z4]; omega)
 have f1:fillL [Value.slice none 0 0] [(0,1,.slice (some ⟨H.length + (l1.length + 1),0,none⟩) 64 64)] = some [.slice (some ⟨H.length + (l1.length + 1),0,none⟩) 64 64]:=rfl
 have lr:=Tw (b:=ps.flatten)
 rw [show dig 256 32 (num 256 (sha ps.flatten) % ell) = Qcm ps.flatten from rfl] at h2
 have F1:H ++ (⟨u8s (dig 256 32 0),true,true,true,1⟩ :: (l1 ++ [⟨u8s (sha ps.flatten),true,true,true,1⟩,⟨[.slice (some ⟨H.length + (l1.length + 1),0,none⟩) 64 64],true,true,true,1⟩])) = G:=hG.symm
 have hg3:(G ++ l2)[H.length]? = some ⟨u8s (dig 256 32 0),true,true,true,1⟩:=by
  rw [Qy (by omega),hG,Zi (Zj _),K9]; rfl
 rw [J3,Zb,Za] at h1
 generalize Qcm ps.flatten = R at *
 generalize sha ps.flatten = S at *
 generalize dig 256 32 0 = Z at *
 generalize Qa 64 0 = Z64 at *
 rw [Jb (fn:=Q24) rfl]
 simp only [Q24,↓Zr,Z0,quiet,cF,↓pF,reduceCtorEq,Qb,Qp,Zh,Zf,Zg,Ze,Zc,Qj,Q3,Qi,Q2,Q6,Q5,↓Zu,↓Zm,↓Z5,↓Z9,↓Z6,↓Z7,cL,Qo,Qn,Qx,Qw,Qu,Ql,Qk,Qv,Qd,Qz,Q0,Qq,Qf,Qh,Qg,Qt,Qs,Qr,Qm,Qe,cJ,hz,hz64,h1,f1,F1,h2,hg3,g4,Jv,Xs,Vm,Xt,X2,lz,lz64,ls,lr,Xd,Zd]
def scL (s:List Nat):List Nat:=Gc ((sha s).take 32) ((sha s).getD 0 0) ((sha s).getD 31 0)
def pfL (s:List Nat):List Nat:=(sha s).drop 32
theorem Qan (s:List Nat):(scL s).length = 32:=by simp [scL,Gc,Hg]
theorem Qfp (s:List Nat):(pfL s).length = 32:=by simp [pfL,Hg]
theorem Qd6 (s:List Nat) {i:Nat} (h:i < 64):∃ x,(sha s)[i]? = some x ∧ (sha s).getD i 0 = x ∧ x < 256:=by
 obtain ⟨x,hx⟩:∃ x,(sha s)[i]? = some x:=⟨_,Q1 (by rw [Hg]; exact h)⟩
 exact ⟨x,hx,Bn hx,Qbs s x (Zk hx)⟩
theorem Qki (s:List Nat):∀ y ∈ scL s,y < 256:=by
 obtain ⟨x,-,e1,lx⟩:=Qd6 s (i:=0) (by decide)
 obtain ⟨z,-,e2,lz⟩:=Qd6 s (i:=31) (by decide)
 have h1:x &&& 248 < 256:=Dk (n:=8) _ (by decide)
 have h2:(z &&& 127) ||| 64 < 256:=Qa7 (n:=8) (Dk (n:=8) _ (by decide)) (by decide)
 rw [scL,Gc,e1,e2]
 exact Hu (Hu (fun y hy => Qbs s y (Kr hy)) h1) h2
theorem Q5a (s:List Nat):∀ y ∈ pfL s,y < 256:=fun y hy => Qbs s y (Yz hy)
theorem Rl (n:Nat) (l:List Nat):Wn n (u8s l) = u8s (l.take n):=by simp [u8s,List.map_take]
theorem Ql4 (n:Nat) (l:List Nat):Bz n (u8s l) = u8s (l.drop n):=by simp [u8s,List.map_drop]
theorem Qf2 (a b:List Nat):u8s (a ++ b) = u8s a ++ u8s b:=by simp [u8s]
theorem Qxu {a b:List Nat} (la:a.length = 32) (lb:b.length = 32):fillL (u8s (Qa 64 0)) [(0,32,.agg (u8s a).toArray),(32,32,.agg (u8s b).toArray)] = some (u8s (a ++ b)):=by
 have l64:(u8s (Qa 64 0)).length = 64:=by rw [X2,Zd]
 have lA:(u8s a).length = 32:=by rw [X2,la]
 have lB:(u8s b).length = 32:=by rw [X2,lb]
 have ca:∀ l:List Nat,(Value.agg (u8s l).toArray).cells.toList = u8s l:=fun _ => rfl
 have cz:∀ l:List Nat,(Value.agg (u8s l).toArray).cells.size = (u8s l).length:=fun _ => rfl
 have ok:∀ l:List Nat,Yj (Value.agg (u8s l).toArray) = true:=fun _ => rfl
 have s1:splice (u8s (Qa 64 0)) 0 (u8s a) = u8s a ++ (u8s (Qa 64 0)).drop 32:=by
  rw [D5 _ _ _ (by omega),Q3,Za,Z1,lA]
 have s2:splice (u8s a ++ (u8s (Qa 64 0)).drop 32) 32 (u8s b) = u8s (a ++ b):=by
  rw [D5 _ _ _ (by rw [Z4,Vs]; omega),Wu (by omega),Zl (by omega),Yb (by rw [Z4,Vs]; omega),Kv,Qf2]
 have e1:(u8s a).length = 32 ∧ 0 + 32 ≤ (u8s (Qa 64 0)).length ∧ True:=⟨lA,by omega,trivial⟩
 have e2:(u8s b).length = 32 ∧ 32 + 32 ≤ (u8s a ++ (u8s (Qa 64 0)).drop 32).length ∧ True:=⟨lB,by rw [Z4,Vs]; omega,trivial⟩
 simp only [fillL,ca,cz,ok,s1,s2,if_pos e1,if_pos e2]
theorem Qne {s:List Nat} (ls:s.length = 32) (xs:∀ y ∈ s,y < 256):Vd T 13 [.agg (u8s s).toArray] = some (.agg (u8s (scL s ++ pfL s)).toArray):=by
 have hz64:=Qbn
 have lz64:(Qa 64 0).length = 64:=Zd
 obtain ⟨G,hG⟩:∃ X,X = [(⟨u8s s,true,true,true,1⟩:Ob),⟨u8s (Qa 64 0),true,true,true,1⟩,⟨[.slice (some ⟨0,0,none⟩) 32 32],true,true,true,1⟩]:=⟨_,rfl⟩
 have hA:Args G (.slice (some ⟨2,0,none⟩) 1 1) [s]:=by
  have hp:HPart (LtN G.length) G (.slice (some ⟨0,0,none⟩) 32 32) s:=by
   have:=HPart.whole (n:=G.length) (H:=G) (id:=0) (c:=32) (b:=s) (by rw [hG]; exact Qn9 _) (by rw [hG]; rfl) xs (by rw [ls]; decide)
   rwa [ls] at this
  exact Args.arr (ys:=[.slice (some ⟨0,0,none⟩) 32 32]) (e:=true) (s:=1) (by rw [hG]; rfl) rfl (.cons hp .nil) (by decide)
 obtain ⟨l,h1⟩:=Ql8 hA (by simp [ls])
 rw [Vj,Ud,Kv,hG] at h1
 simp only [Zb,Za] at h1
 obtain ⟨x,g0,d0,lx⟩:=Qd6 s (i:=0) (by decide)
 obtain ⟨z,g31,d31,lz⟩:=Qd6 s (i:=31) (by decide)
 have lS:=Hg s
 have lt32:((sha s).take 32).length = 32:=by rw [Jx,lS]; rfl
 obtain ⟨lc,hc⟩:=Qx9 (a:=(sha s).take 32) (x:=x) (y:=z) lt32 (by rw [Ks,if_pos (by decide)]; exact g0) (by rw [Ks,if_pos (by decide)]; exact g31) lx lz
 have hcv:=Rs hc
 rw [show Gc ((sha s).take 32) x z = scL s by rw [scL,d0,d31]] at hcv
 have hf:=Qxu (Qan s) (Qfp s)
 have f1:fillL [Value.slice none 0 0] [(0,1,.slice (some ⟨0,0,none⟩) 32 32)] = some [.slice (some ⟨0,0,none⟩) 32 32]:=rfl
 have t1:Wn 32 (u8s (sha s)) = u8s ((sha s).take 32):=Rl _ _
 have t2:Wn 32 (Bz 32 (u8s (sha s))) = u8s (pfL s):=by rw [Ql4,Rl,Zl (by rw [Vs,lS]; decide)]; rfl
 have l1:=Qan s
 have l2:=Qfp s
 have l3:(scL s ++ pfL s).length = 64:=by rw [Z4,l1,l2]
 clear hG hA
 generalize (sha s).take 32 = S1 at *
 generalize pfL s = S2 at *
 generalize scL s = S3 at *
 generalize S3 ++ S2 = R at *
 generalize sha s = S at *
 generalize Qa 64 0 = Z64 at *
 apply Xg
 apply Zt
 rw [Jb (fn:=Q25) rfl]
 simp only [Q25,↓Zr,Z0,quiet,cF,↓pF,reduceCtorEq,Qb,Qp,Zh,Zf,Zg,Ze,Zc,Qj,Q3,Qi,Q2,Q6,Q5,↓Zu,↓Zm,↓Z5,↓Z9,↓Z6,↓Z7,cL,Qo,Qn,Qx,Qw,Qu,Ql,Qk,Qv,Qd,Qz,Q0,Qq,Qf,Qh,Qg,Qt,Qs,Qr,Qm,Qe,cJ,hz64,h1,f1,t1,t2,hcv,hf,Jv,Xs,Vm,Xt,X2,ls,lS,lz64,l1,l2,l3,lt32,Xd,Zd]
 rfl
def Bm (s:List Nat):List Nat:=enc (V9 (num 256 (scL s)) We)
theorem Qvv {s:List Nat} (ls:s.length = 32) (xs:∀ y ∈ s,y < 256):Vd T 9 [.agg (u8s s).toArray] = some (.agg (u8s (Bm s)).toArray):=by
 have hz:Qa 32 (Value.int .u8 0) = u8s (dig 256 32 0):=rfl
 have lz:(dig 256 32 0).length = 32:=rfl
 have hh:=Qne ls xs
 obtain ⟨B,hB,rB⟩:=Qqf
 obtain ⟨P,hP,rP⟩:=Md rB (Qan s) (Qki s)
 have hE:=Qc0 rP
 have lE:=Db (V9 (num 256 (scL s)) We)
 have l1:=Qan s
 have l2:=Qfp s
 have t1:Wn 32 (u8s (scL s ++ pfL s)) = u8s (scL s):=by rw [Rl,Wu (by omega),Zl (by omega)]
 have l3:(scL s ++ pfL s).length = 64:=by rw [Z4,l1,l2]
 unfold Bm
 generalize enc (V9 (num 256 (scL s)) We) = E at *
 generalize scL s ++ pfL s = R at *
 generalize scL s = S3 at *
 generalize dig 256 32 0 = Z at *
 apply Xg
 apply Zt
 rw [Jb (fn:=Q26) rfl]
 simp only [Q26,↓Zr,Z0,quiet,cF,↓pF,reduceCtorEq,Qb,Qp,Zh,Zf,Zg,Ze,Zc,Qj,Q3,Qi,Q2,Q6,Q5,↓Zu,↓Zm,↓Z5,↓Z9,↓Z6,↓Z7,cL,Qo,Qn,Qx,Qw,Qu,Ql,Qk,Qv,Qd,Qz,Q0,Qq,Qf,Qh,Qg,Qt,Qs,Qr,Qm,Qe,cJ,hz,hh,hB,hP,hE,t1,Jv,Xs,Vm,Xt,X2,ls,lz,l1,l3,lE,Xd,Zd,Vl]
 rfl
def rL (s m:List Nat):List Nat:=Qcm (pfL s ++ m)
def frL (s m:List Nat):List Nat:=enc (V9 (num 256 (rL s m)) We)
def chL (front pub m:List Nat):List Nat:=Qcm (front ++ (pub ++ m))
def bkL (s m:List Nat):List Nat:=mA (chL (frL s m) (Bm s) m) (scL s) (rL s m)
def Qbr (s m:List Nat):List Nat:=frL s m ++ bkL s m
theorem Qfs (s m:List Nat):(frL s m).length = 32:=Db _
theorem Qp2 (s m:List Nat):∀ y ∈ frL s m,y < 256:=Qp5 _
theorem Qco (s:List Nat):(Bm s).length = 32:=Db _
theorem Qks (s:List Nat):∀ y ∈ Bm s,y < 256:=Qp5 _
theorem Qc8 (s m:List Nat):(bkL s m).length = 32:=Q5v
theorem Qqc (s m:List Nat):∀ y ∈ bkL s m,y < 256:=mA_lt
theorem Qmd (s m:List Nat):(Qbr s m).length = 64:=by rw [Qbr,Z4,Qfs,Qc8]
theorem Qtu {H:List Ob} {a b n m c:Nat} {fa fb:List Nat} {e:Bool} {s:Nat} (ha:H[a]? = some ⟨u8s fa,true,true,true,1⟩) (hb:H[b]? = some ⟨u8s fb,true,true,e,s⟩) (hn:fa.length = n) (hm:fb.length = m) (h0:0 < m) (hs:n + m ≤ 1000) :
  Y4 1 1 H (.slice (some ⟨a,0,none⟩) n n) (.slice (some ⟨b,0,none⟩) m c) = some (.slice (some ⟨H.length,0,none⟩) (n + m) (n + m),H ++ [⟨u8s (fa ++ fb),true,true,false,1⟩],none,[]):=by
 have h4:liveAt H a = some ⟨u8s fa,true,true,true,1⟩:=Yg ha rfl
 have k2:elemsOf H 1 m (.slice (some ⟨b,0,none⟩) m c) = some (u8s fb):=by
  simp [elemsOf,Yg hb rfl,X2,hm]
  exact Zl (by rw [X2,hm]; exact Zj _)
 have h8:elemsOf H 1 n (.slice (some ⟨a,0,none⟩) n n) = some (u8s fa):=by
  simp [elemsOf,h4,X2,hn]
  exact Zl (by rw [X2,hn]; exact Zj _)
 have h1:¬ m = 0:=by omega
 have h2:(n + m) * 1 ≤ 2 ^ 47:=by omega
 have h7:¬ (n + m ≤ n):=by omega
 have k1:Go.Ev.lenV (.slice (some ⟨b,0,none⟩) m c) = some m:=rfl
 simp only [Y4,k1,k2,Q4,if_neg h1,h2,Qn9,Qty,Rx,and_self,not_true_eq_false,if_false,if_true,h4,h8,if_neg h7,Ob.grown,← Qf2]
theorem Q0w {H:List Ob} {s:List Nat} {pv:Value} {ps:List (List Nat)} (ls:s.length = 32) (xs:∀ y ∈ s,y < 256) (hp:Args H pv ps) (hn:ps.length ≤ 1000) (hb:ps.flatten.length < 2 ^ 48) :
  ∃ l,V6 T 7 [.agg (u8s s).toArray,pv] H = some (.agg (u8s (Qbr s ps.flatten)).toArray,H ++ l,[]):=by
 have hz:Qa 32 (Value.int .u8 0) = u8s (dig 256 32 0):=rfl
 have lz:(dig 256 32 0).length = 32:=rfl
 have hz64:=Qbn
 have lz64:(Qa 64 0).length = 64:=Zd
 have hh:=Qne ls xs
 have l1:=Qan s
 have l2:=Qfp s
 have l3:(scL s ++ pfL s).length = 64:=by rw [Z4,l1,l2]
 have x3:∀ y ∈ scL s ++ pfL s,y < 256:=fun y hy => (Xb.1 hy).elim (Qki s y) (Q5a s y)
 obtain ⟨B,hB,rB⟩:=Qqf
 obtain ⟨P,hP,rP⟩:=Md rB (Qan s) (Qki s)
 have hE:=Qc0 rP
 rw [show enc (V9 (num 256 (scL s)) We) = Bm s from rfl] at hE
 have lA:=Qco s
 obtain ⟨G1,hG1⟩:∃ X,X = H ++ [(⟨u8s s,true,true,true,1⟩:Ob),⟨u8s (Qa 64 0),true,true,true,1⟩,⟨u8s (scL s ++ pfL s),true,true,true,1⟩,⟨u8s (Bm s),true,true,true,1⟩,⟨[.slice (some ⟨H.length + 2,32,none⟩) 32 32],true,true,true,1⟩]:=⟨_,rfl⟩
 have lG1:G1.length = H.length + 5:=by rw [hG1]; simp
 have gz:G1[H.length + 1]? = some ⟨u8s (Qa 64 0),true,true,true,1⟩:=by rw [hG1,Zi (by omega),Ke]; rfl
 have gh:G1[H.length + 2]? = some ⟨u8s (scL s ++ pfL s),true,true,true,1⟩:=by rw [hG1,Zi (by omega),Ke]; rfl
 have gA:G1[H.length + 3]? = some ⟨u8s (Bm s),true,true,true,1⟩:=by rw [hG1,Zi (by omega),Ke]; rfl
 have ga:G1[H.length + 4]? = some ⟨[.slice (some ⟨H.length + 2,32,none⟩) 32 32],true,true,true,1⟩:=by rw [hG1,Zi (by omega),Ke]; rfl
 have hp1:Args G1 pv ps:=by rw [hG1]; exact hp.app
 have part1:HPart (LtN G1.length) G1 (.slice (some ⟨H.length + 2,32,none⟩) 32 32) (pfL s):=by
  have:=HPart.arr (n:=G1.length) (off:=32) (m:=32) (c:=32) (by omega) gh x3 (by rw [l3]; decide) (by decide)
  rwa [Uj (by omega),Yb (by omega),Za,Zl (by omega)] at this
 obtain ⟨v1,k1,ha1,hA1⟩:=Qad (n:=1) ga rfl (.cons part1 .nil) hp1 (by decide) hn
 obtain ⟨k2,hr⟩:=M7 hA1 (by rw [Wb,Vj,Ud,Kv,Z4,l2]; omega)
 rw [Wb,Vj,Ud,Kv,show Qcm (pfL s ++ ps.flatten) = rL s ps.flatten from rfl] at hr
 have lr:(rL s ps.flatten).length = 32:=Tw
 obtain ⟨G2,hG2⟩:∃ X,X = G1 ++ (k1 ++ k2):=⟨_,rfl⟩
 have lG2:G1.length ≤ G2.length:=by rw [hG2]; simp
 obtain ⟨P2,hP2,rP2⟩:=Md rB lr Qcl
 have hE2:=Qc0 rP2
 rw [show enc (V9 (num 256 (rL s ps.flatten)) We) = frL s ps.flatten from rfl] at hE2
 have lF:=Qfs s ps.flatten
 obtain ⟨G3,hG3⟩:∃ X,X = G2 ++ [(⟨u8s (rL s ps.flatten),true,true,true,1⟩:Ob),⟨u8s (frL s ps.flatten),true,true,true,1⟩,⟨[.slice (some ⟨G2.length + 1,0,none⟩) 32 32,.slice (some ⟨H.length + 3,0,none⟩) 32 32],true,true,true,1⟩]:=⟨_,rfl⟩
 have lG3:G3.length = G2.length + 3:=by rw [hG3]; simp
 have up13:∀ i,i < G1.length → G3[i]? = G1[i]? := fun i hi => by rw [hG3,Qy (by omega),hG2,Qy hi]
 have hr3:G3[G2.length]? = some ⟨u8s (rL s ps.flatten),true,true,true,1⟩:=by rw [hG3,Zi (Zj _),K9]; rfl
 have hf3:G3[G2.length + 1]? = some ⟨u8s (frL s ps.flatten),true,true,true,1⟩:=by rw [hG3,Zi (by omega),Ke]; rfl
 have harr3:G3[G2.length + 2]? = some ⟨[.slice (some ⟨G2.length + 1,0,none⟩) 32 32,.slice (some ⟨H.length + 3,0,none⟩) 32 32],true,true,true,1⟩:=by rw [hG3,Zi (by omega),Ke]; rfl
 have hp3:Args G3 pv ps:=hp1.ext up13 (by omega)
 have partF:HPart (LtN G3.length) G3 (.slice (some ⟨G2.length + 1,0,none⟩) 32 32) (frL s ps.flatten):=by
  have:=HPart.whole (n:=G3.length) (c:=32) (by omega) hf3 (Qp2 s _) (by rw [lF]; decide)
  rwa [lF] at this
 have partA:HPart (LtN G3.length) G3 (.slice (some ⟨H.length + 3,0,none⟩) 32 32) (Bm s):=by
  have:=HPart.whole (n:=G3.length) (c:=32) (by omega) ((up13 _ (by omega)).trans gA) (Qks s) (by rw [lA]; decide)
  rwa [lA] at this
 obtain ⟨v3,k3,ha3,hA3⟩:=Qad (n:=2) harr3 rfl (.cons partF (.cons partA .nil)) hp3 (by decide) hn
 obtain ⟨k4,hk⟩:=M7 hA3 (by rw [Wb,Vj,Vj,Ud,Kv,Z4,Z4,lF,lA]; omega)
 rw [Wb,Vj,Vj,Ud,Kv,J3,show Qcm (frL s ps.flatten ++ (Bm s ++ ps.flatten)) = chL (frL s ps.flatten) (Bm s) ps.flatten from rfl] at hk
 have lk:(chL (frL s ps.flatten) (Bm s) ps.flatten).length = 32:=Tw
 obtain ⟨G4,hG4⟩:∃ X,X = G3 ++ (k3 ++ k4):=⟨_,rfl⟩
 have lG4:G3.length ≤ G4.length:=by rw [hG4]; simp
 have up34:∀ i,i < G3.length → G4[i]? = G3[i]? := fun i hi => by rw [hG4,Qy hi]
 obtain ⟨q,hm⟩:=Qsq lk l1 lr Qcl (Qki s) Qcl
 have hmv:=Rs hm
 rw [show mA (chL (frL s ps.flatten) (Bm s) ps.flatten) (scL s) (rL s ps.flatten) = bkL s ps.flatten from rfl] at hmv
 have lB:=Qc8 s ps.flatten
 obtain ⟨G5,hG5⟩:∃ X,X = G4 ++ [(⟨u8s (chL (frL s ps.flatten) (Bm s) ps.flatten),true,true,true,1⟩:Ob),⟨u8s (bkL s ps.flatten),true,true,true,1⟩]:=⟨_,rfl⟩
 have lG5:G5.length = G4.length + 2:=by rw [hG5]; simp
 have hf5:G5[G2.length + 1]? = some ⟨u8s (frL s ps.flatten),true,true,true,1⟩:=by rw [hG5,Qy (by omega),up34 _ (by omega)]; exact hf3
 have hb5:G5[G4.length + 1]? = some ⟨u8s (bkL s ps.flatten),true,true,true,1⟩:=by rw [hG5,Zi (by omega),Ke]; rfl
 have hap:=Qtu (c:=32) hf5 hb5 lF lB (by decide) (by decide)
 rw [show frL s ps.flatten ++ bkL s ps.flatten = Qbr s ps.flatten from rfl] at hap
 have lS:=Qmd s ps.flatten
 have g4h:∀ l:List Ob,(G4 ++ l)[H.length + 2]? = some ⟨u8s (scL s ++ pfL s),true,true,true,1⟩:=fun l => by rw [Qy (by omega),up34 _ (by omega),up13 _ (by omega)]; exact gh
 have g4r:∀ l:List Ob,(G4 ++ l)[G2.length]? = some ⟨u8s (rL s ps.flatten),true,true,true,1⟩:=fun l => by rw [Qy (by omega),up34 _ (by omega)]; exact hr3
 have g5z:∀ l:List Ob,(G5 ++ l)[H.length + 1]? = some ⟨u8s (Qa 64 0),true,true,true,1⟩:=fun l => by rw [Qy (by omega),hG5,Qy (by omega),up34 _ (by omega),up13 _ (by omega)]; exact gz
 have hfr:∀ i,i < H.length → ((G5 ++ [(⟨u8s (Qbr s ps.flatten),true,true,false,1⟩:Ob)]).set (H.length + 1) (⟨u8s (Qbr s ps.flatten),true,true,true,1⟩:Ob))[i]? = H[i]? := fun i hi => by
  rw [Ji (by omega),Qy (by omega),hG5,Qy (by omega),up34 _ (by omega),up13 _ (by omega),hG1,Qy hi]
 obtain ⟨l,hl⟩:=Dt (H:=H) (by rw [Xe,Z4]; omega) hfr
 refine ⟨l,?_⟩
 rw [← hl]
 have g6:∀ o:Ob,((G5 ++ [(⟨u8s (Qbr s ps.flatten),true,true,false,1⟩:Ob)]).set (H.length + 1) o)[H.length + 1]? = some o:=fun o => Xp (by rw [Z4]; omega)
 have f1:fillL [Value.slice none 0 0] [(0,1,.slice (some ⟨H.length + 2,32,none⟩) 32 32)] = some [.slice (some ⟨H.length + 2,32,none⟩) 32 32]:=rfl
 have f2:fillL [Value.slice none 0 0,.slice none 0 0] [(0,1,.slice (some ⟨G2.length + 1,0,none⟩) 32 32),(1,1,.slice (some ⟨H.length + 3,0,none⟩) 32 32)] = some [.slice (some ⟨G2.length + 1,0,none⟩) 32 32,.slice (some ⟨H.length + 3,0,none⟩) 32 32]:=rfl
 have t1:Wn 32 (u8s (scL s ++ pfL s)) = u8s (scL s):=by rw [Rl,Wu (by omega),Zl (by omega)]
 have F1:H ++ [(⟨u8s s,true,true,true,1⟩:Ob),⟨u8s (Qa 64 0),true,true,true,1⟩,⟨u8s (scL s ++ pfL s),true,true,true,1⟩,⟨u8s (Bm s),true,true,true,1⟩,⟨[.slice (some ⟨H.length + 2,32,none⟩) 32 32],true,true,true,1⟩] = G1:=hG1.symm
 have F2:G1 ++ (k1 ++ k2) = G2:=hG2.symm
 have F3:G2 ++ [(⟨u8s (rL s ps.flatten),true,true,true,1⟩:Ob),⟨u8s (frL s ps.flatten),true,true,true,1⟩,⟨[.slice (some ⟨G2.length + 1,0,none⟩) 32 32,.slice (some ⟨H.length + 3,0,none⟩) 32 32],true,true,true,1⟩] = G3:=hG3.symm
 have F4:G3 ++ (k3 ++ k4) = G4:=hG4.symm
 have F5:G4 ++ [(⟨u8s (chL (frL s ps.flatten) (Bm s) ps.flatten),true,true,true,1⟩:Ob),⟨u8s (bkL s ps.flatten),true,true,true,1⟩] = G5:=hG5.symm
 have im1:Xo H.length [] [G2.length] = []:=Yl (by simp; omega)
 have im2:Xo H.length [] [G2.length + 1] = []:=Yl (by simp; omega)
 have im3:Xo H.length [] [G4.length] = []:=Yl (by simp; omega)
 have im4:Xo H.length [] [G4.length + 1] = []:=Yl (by simp; omega)
 have ls1:[Value.slice (some ⟨H.length + 2,32,none⟩) 32 32].length = 1:=rfl
 clear hG1 hG2 hG3 hG4 hG5 hl hfr hm hA1 hA3 partF partA part1
 rw [J3] at hr hk
 generalize Qbr s ps.flatten = S at *
 generalize bkL s ps.flatten = Bk at *
 generalize chL (frL s ps.flatten) (Bm s) ps.flatten = Ck at *
 generalize frL s ps.flatten = Fr at *
 generalize rL s ps.flatten = R at *
 generalize Bm s = A at *
 generalize scL s ++ pfL s = Hv at *
 generalize scL s = Sc at *
 generalize dig 256 32 0 = Z at *
 generalize Qa 64 0 = Z64 at *
 rw [Jb (fn:=Q27) rfl]
 simp only [Q27,↓Zr,Z0,quiet,cF,↓pF,reduceCtorEq,Qb,Qp,Zh,Zf,Zg,Ze,Zc,Qj,Q3,Qi,Q2,Q6,Q5,↓Zu,↓Zm,↓Z5,↓Z9,↓Z6,↓Z7,cL,Qo,Qn,Qx,Qw,Qu,Ql,Qk,Qv,Qd,Qz,Q0,Qq,Qf,Qh,Qg,Qt,Qs,Qr,Qm,Qe,cJ,hz,hz64,hh,hB,hP,hE,f1,F1,ha1,hr,F2,hP2,hE2,f2,F3,ha3,hk,F4,g4h,g4r,t1,hmv,F5,hap,g5z,g6,im1,im2,im3,im4,Jv,Xs,Vm,Xt,X2,ls,lz,lz64,l1,l3,lA,lr,lF,lk,lB,lS,Xd,Zd,Vl]
end Go.Ev.YtgacigcbglflkaaGreat
set_option linter.unusedSimpArgs false
set_option linter.unusedVariables false
namespace Go.Ev.YtgacigcbglflkaaGreat
open Go Go.Ev
attribute [local congr] W7 Ul W6 Um Ww
set_option maxRecDepth 100000
def Qdr (pub front back m:List Nat) (c:Int):Prop :=
 ((∀ A,enc A ≠ pub) ∧ c = 60) ∨ ∃ A,enc A = pub ∧
  (((V9 8 A = U1 ∨ ¬ num 256 back < ell) ∧ c = 70) ∨ (V9 8 A ≠ U1 ∧ num 256 back < ell ∧
   (((∀ R,enc R ≠ front) ∧ c = 70) ∨ ∃ R,enc R = front ∧ c = if W3 (V9 (num 256 back) We) (V9 (num 256 (chL front pub m)) A.neg) = R then 0 else 70)))
theorem Quf {k l:List Nat} (lk:k.length = 32) (ll:l.length = 32):vEq (some (Qa 32 true)) true (.agg (u8s k).toArray) (.agg (u8s l).toArray) = some (.bool (!(k == l))):=by
 rw [Qcd,Gn lk ll]
 rfl
theorem Qhd {H:List Ob} {pub front back:List Nat} {pv:Value} {ps:List (List Nat)} (lp:pub.length = 32) (xp:∀ y ∈ pub,y < 256) (lf:front.length = 32) (xf:∀ y ∈ front,y < 256) (lb:back.length = 32) (xb:∀ y ∈ back,y < 256) (hp:Args H pv ps) (hn:ps.length ≤ 1000) (hb:ps.flatten.length < 2 ^ 48) :
  ∃ l c,V6 T 11 [.agg (u8s pub).toArray,.agg (u8s (front ++ back)).toArray,pv] H = some (.int .i64 c,H ++ l,[]) ∧ Qdr pub front back ps.flatten c:=by
 have hz:Qa 32 (Value.int .u8 0) = u8s (dig 256 32 0):=rfl
 have lz:(dig 256 32 0).length = 32:=rfl
 have hz20:∃ O,Qa 20 (Value.int .u64 0) = ns .u64 O ∧ O.length = 20:=⟨Qa 20 0,rfl,rfl⟩
 obtain ⟨O,hz20,lO⟩:=hz20
 have rft:∀ (r:List Nat) (c:Int),rf (Value.tuple #[eV r,.int .i64 c]) = true:=fun r c => R1 (a:=eV r) (b := .int .i64 c) (Vl r) rfl
 have lS:(front ++ back).length = 64:=by rw [Z4,lf,lb]
 have t1:Wn 32 (u8s (front ++ back)) = u8s front:=by rw [Rl,Wu (by omega),Zl (by omega)]
 have t2:Wn 32 (Bz 32 (u8s (front ++ back))) = u8s back:=by rw [Ql4,Uj (by omega),Yb (by omega),Za,Rl,Zl (by omega)]
 rcases Qnt lp xp with ⟨A,a,hA,rA,eA⟩ | ⟨A,hA,lA,hno⟩
 ·have p1:=rA.len
  have ht:=Q35 rA
  obtain ⟨qc,hcn⟩:=Qlf lb xb
  have hcv:=Rs hcn
  unfold Rd at hA
  by_cases htiny:V9 8 a = U1
  ·rw [decide_eq_true htiny] at ht
   have hx:∃ l,V6 T 11 [.agg (u8s pub).toArray,.agg (u8s (front ++ back)).toArray,pv] H = some (.int .i64 70,H ++ l,[]):=by
    generalize front ++ back = S at *
    generalize dig 256 32 0 = Z at *
    apply Zt
    rw [Jb (fn:=Qdo) rfl]
    simp only [Qdo,↓Zr,Z0,quiet,cF,↓pF,reduceCtorEq,Qb,Qp,Zh,Zf,Zg,Ze,Zc,Qj,Q3,Qi,Q2,Q6,Q5,↓Zu,↓Zm,↓Z5,↓Z9,↓Z6,↓Z7,cL,Qo,Qn,Qx,Qw,Qu,Ql,Qk,Qv,Qd,Qz,Q0,Qq,Qf,Qh,Qg,Qt,Qs,Qr,Qm,Qe,cJ,hz,hz20,hA,t1,t2,ht, Jv,Xs,Vm,Xt,J0,X2,lp,lf,lb,lS,lz,lO,p1,Xd,Zd,rft,Vl]
    rfl
   obtain ⟨l,hx⟩:=hx
   exact ⟨l,70,hx,.inr ⟨a,eA,.inl ⟨.inl htiny,rfl⟩⟩⟩
  ·rw [decide_eq_false htiny] at ht
   by_cases hc:num 256 back < ell
   ·rw [decide_eq_true hc] at hcv
    rcases Qnt lf xf with ⟨R,r,hR,rR,eR⟩ | ⟨R,hR,lR,hnR⟩
    ·have p2:=rR.len
     unfold Rd at hR
     obtain ⟨G1,hG1⟩:∃ X,X = H ++ [(⟨u8s pub,true,true,true,1⟩:Ob),⟨u8s (front ++ back),true,true,true,1⟩,⟨ns .u64 A,true,true,true,1⟩,⟨u8s front,true,true,true,1⟩,⟨u8s back,true,true,true,1⟩,⟨ns .u64 R,true,true,true,1⟩,⟨[.slice (some ⟨H.length + 3,0,none⟩) 32 32,.slice (some ⟨H.length,0,none⟩) 32 32],true,true,true,1⟩]:=⟨_,rfl⟩
     have lG1:G1.length = H.length + 7:=by rw [hG1]; simp
     have gp:G1[H.length]? = some ⟨u8s pub,true,true,true,1⟩:=by rw [hG1,Zi (by omega),K9]; rfl
     have gA:G1[H.length + 2]? = some ⟨ns .u64 A,true,true,true,1⟩:=by rw [hG1,Zi (by omega),Ke]; rfl
     have gf:G1[H.length + 3]? = some ⟨u8s front,true,true,true,1⟩:=by rw [hG1,Zi (by omega),Ke]; rfl
     have gb:G1[H.length + 4]? = some ⟨u8s back,true,true,true,1⟩:=by rw [hG1,Zi (by omega),Ke]; rfl
     have ga:G1[H.length + 6]? = some ⟨[.slice (some ⟨H.length + 3,0,none⟩) 32 32,.slice (some ⟨H.length,0,none⟩) 32 32],true,true,true,1⟩:=by rw [hG1,Zi (by omega),Ke]; rfl
     have hp1:Args G1 pv ps:=by rw [hG1]; exact hp.app
     have partF:HPart (LtN G1.length) G1 (.slice (some ⟨H.length + 3,0,none⟩) 32 32) front:=by
      have:=HPart.whole (n:=G1.length) (c:=32) (by omega) gf xf (by rw [lf]; decide)
      rwa [lf] at this
     have partP:HPart (LtN G1.length) G1 (.slice (some ⟨H.length,0,none⟩) 32 32) pub:=by
      have:=HPart.whole (n:=G1.length) (c:=32) (by omega) gp xp (by rw [lp]; decide)
      rwa [lp] at this
     obtain ⟨v1,k1,ha1,hA1⟩:=Qad (n:=2) ga rfl (.cons partF (.cons partP .nil)) hp1 (by decide) hn
     obtain ⟨k2,hk⟩:=M7 hA1 (by rw [Wb,Vj,Vj,Ud,Kv,Z4,Z4,lf,lp]; omega)
     rw [Wb,Vj,Vj,Ud,Kv,J3,show Qcm (front ++ (pub ++ ps.flatten)) = chL front pub ps.flatten from rfl,J3] at hk
     have lk:(chL front pub ps.flatten).length = 32:=Tw
     obtain ⟨G2,hG2⟩:∃ X,X = G1 ++ (k1 ++ k2):=⟨_,rfl⟩
     have lG2:G1.length ≤ G2.length:=by rw [hG2]; simp
     have up:∀ i,i < G1.length → ∀ l:List Ob,(G2 ++ l)[i]? = G1[i]? := fun i hi l => by rw [Qy (by omega),hG2,Qy hi]
     obtain ⟨B,hB,rB⟩:=Qqf
     obtain ⟨X,hX,rX⟩:=Md rB lb xb
     obtain ⟨NA,hNA,rNA⟩:=Q5m rA
     obtain ⟨Y,hY,rY⟩:=Md rNA lk Qcl
     obtain ⟨S,dS,hS,ES⟩:=Q2k (H:=G2 ++ [(⟨u8s (chL front pub ps.flatten),true,true,true,1⟩:Ob),⟨ns .u64 [X,Y].flatten,true,true,true,1⟩]) (id:=G2.length + 1) (n:=2) (xs:=[X,Y]) rfl (by decide) (.cons rX (.cons rY .nil)) (by rw [Zi (by omega),Ke]; rfl)
     simp only [Wa,Uo,Zb,J3,Za] at hS
     rw [fold2] at ES
     have hE:=Qc0 ES
     have lE:=Db (W3 (V9 (num 256 back) We) (V9 (num 256 (chL front pub ps.flatten)) a.neg))
     have g1:=Q56 rX rY
     have q1:=rX.len
     have q2:=rY.len
     have q3:=ES.len
     have hq:=Quf lE lf
     have hd:(enc (W3 (V9 (num 256 back) We) (V9 (num 256 (chL front pub ps.flatten)) a.neg)) == front) = decide (W3 (V9 (num 256 back) We) (V9 (num 256 (chL front pub ps.flatten)) a.neg) = r):=by rw [← eR,Qc2]
     rw [hd] at hq
     have uA:=fun l => (up _ (by omega) l).trans gA
     have uf:=fun l => (up _ (by omega) l).trans gf
     have ub:=fun l => (up _ (by omega) l).trans gb
     have f2:fillL [Value.slice none 0 0,.slice none 0 0] [(0,1,.slice (some ⟨H.length + 3,0,none⟩) 32 32),(1,1,.slice (some ⟨H.length,0,none⟩) 32 32)] = some [.slice (some ⟨H.length + 3,0,none⟩) 32 32,.slice (some ⟨H.length,0,none⟩) 32 32]:=rfl
     have F1:H ++ [(⟨u8s pub,true,true,true,1⟩:Ob),⟨u8s (front ++ back),true,true,true,1⟩,⟨ns .u64 A,true,true,true,1⟩,⟨u8s front,true,true,true,1⟩,⟨u8s back,true,true,true,1⟩,⟨ns .u64 R,true,true,true,1⟩,⟨[.slice (some ⟨H.length + 3,0,none⟩) 32 32,.slice (some ⟨H.length,0,none⟩) 32 32],true,true,true,1⟩] = G1:=hG1.symm
     have F2:G1 ++ (k1 ++ k2) = G2:=hG2.symm
     have im1:Xo H.length [] [G2.length] = []:=Yl (by simp; omega)
     have hfr:∀ l:List Ob,∃ l',G2 ++ l = H ++ l':=fun l => ⟨_,by rw [hG2,hG1,J3,J3]⟩
     by_cases hfin:W3 (V9 (num 256 back) We) (V9 (num 256 (chL front pub ps.flatten)) a.neg) = r
     ·rw [decide_eq_true hfin] at hq
      have hx:∃ l,V6 T 11 [.agg (u8s pub).toArray,.agg (u8s (front ++ back)).toArray,pv] H = some (.int .i64 0,G2 ++ l,[]):=by
       clear hG1 hG2 hd up hfr
       generalize front ++ back = SG at *
       generalize dig 256 32 0 = Z at *
       generalize chL front pub ps.flatten = Ck at *
       generalize enc (W3 (V9 (num 256 back) We) (V9 (num 256 Ck) a.neg)) = E at *
       apply Zt
       rw [Jb (fn:=Qdo) rfl]
       simp only [Qdo,↓Zr,Z0,quiet,cF,↓pF,reduceCtorEq,Qb,Qp,Zh,Zf,Zg,Ze,Zc,Qj,Q3,Qi,Q2,Q6,Q5,↓Zu,↓Zm,↓Z5,↓Z9,↓Z6,↓Z7,cL,Qo,Qn,Qx,Qw,Qu,Ql,Qk,Qv,Qd,Qz,Q0,Qq,Qf,Qh,Qg,Qt,Qs,Qr,Qm,Qe,cJ,hz,hz20,hA,t1,t2,ht,hcv,hR,f2,F1,ha1,hk,F2,im1,hB,hX,hNA,hY,g1,hS,hE,hq,uA,uf,ub,Jv,Xs,Vm,Xt,J0,X2,lp,lf,lb,lS,lz,lO,lk,lE,p1,p2,q1,q2,q3,Xd,Zd,rft,Vl]
       rfl
      obtain ⟨l,hx⟩:=hx
      obtain ⟨l',hl'⟩:=hfr l
      rw [hl'] at hx
      exact ⟨l',0,hx,.inr ⟨a,eA,.inr ⟨htiny,hc,.inr ⟨r,eR,by rw [if_pos hfin]⟩⟩⟩⟩
     ·rw [decide_eq_false hfin] at hq
      have hx:∃ l,V6 T 11 [.agg (u8s pub).toArray,.agg (u8s (front ++ back)).toArray,pv] H = some (.int .i64 70,G2 ++ l,[]):=by
       clear hG1 hG2 hd up hfr
       generalize front ++ back = SG at *
       generalize dig 256 32 0 = Z at *
       generalize chL front pub ps.flatten = Ck at *
       generalize enc (W3 (V9 (num 256 back) We) (V9 (num 256 Ck) a.neg)) = E at *
       apply Zt
       rw [Jb (fn:=Qdo) rfl]
       simp only [Qdo,↓Zr,Z0,quiet,cF,↓pF,reduceCtorEq,Qb,Qp,Zh,Zf,Zg,Ze,Zc,Qj,Q3,Qi,Q2,Q6,Q5,↓Zu,↓Zm,↓Z5,↓Z9,↓Z6,↓Z7,cL,Qo,Qn,Qx,Qw,Qu,Ql,Qk,Qv,Qd,Qz,Q0,Qq,Qf,Qh,Qg,Qt,Qs,Qr,Qm,Qe,cJ,hz,hz20,hA,t1,t2,ht,hcv,hR,f2,F1,ha1,hk,F2,im1,hB,hX,hNA,hY,g1,hS,hE,hq,uA,uf,ub,Jv,Xs,Vm,Xt,J0,X2,lp,lf,lb,lS,lz,lO,lk,lE,p1,p2,q1,q2,q3,Xd,Zd,rft,Vl]
       rfl
      obtain ⟨l,hx⟩:=hx
      obtain ⟨l',hl'⟩:=hfr l
      rw [hl'] at hx
      exact ⟨l',70,hx,.inr ⟨a,eA,.inr ⟨htiny,hc,.inr ⟨r,eR,by rw [if_neg hfin]⟩⟩⟩⟩
    ·unfold Rd at hR
     have hx:∃ l,V6 T 11 [.agg (u8s pub).toArray,.agg (u8s (front ++ back)).toArray,pv] H = some (.int .i64 70,H ++ l,[]):=by
      generalize front ++ back = S at *
      generalize dig 256 32 0 = Z at *
      apply Zt
      rw [Jb (fn:=Qdo) rfl]
      simp only [Qdo,↓Zr,Z0,quiet,cF,↓pF,reduceCtorEq,Qb,Qp,Zh,Zf,Zg,Ze,Zc,Qj,Q3,Qi,Q2,Q6,Q5,↓Zu,↓Zm,↓Z5,↓Z9,↓Z6,↓Z7,cL,Qo,Qn,Qx,Qw,Qu,Ql,Qk,Qv,Qd,Qz,Q0,Qq,Qf,Qh,Qg,Qt,Qs,Qr,Qm,Qe,cJ,hz,hz20,hA,t1,t2,ht,hcv,hR,lR,Jv,Xs,Vm,Xt,J0,X2,lp,lf,lb,lS,lz,lO,p1,Xd,Zd,rft,Vl]
      rfl
     obtain ⟨l,hx⟩:=hx
     exact ⟨l,70,hx,.inr ⟨a,eA,.inr ⟨htiny,hc,.inl ⟨hnR,rfl⟩⟩⟩⟩
   ·rw [decide_eq_false hc] at hcv
    have hx:∃ l,V6 T 11 [.agg (u8s pub).toArray,.agg (u8s (front ++ back)).toArray,pv] H = some (.int .i64 70,H ++ l,[]):=by
     generalize front ++ back = S at *
     generalize dig 256 32 0 = Z at *
     apply Zt
     rw [Jb (fn:=Qdo) rfl]
     simp only [Qdo,↓Zr,Z0,quiet,cF,↓pF,reduceCtorEq,Qb,Qp,Zh,Zf,Zg,Ze,Zc,Qj,Q3,Qi,Q2,Q6,Q5,↓Zu,↓Zm,↓Z5,↓Z9,↓Z6,↓Z7,cL,Qo,Qn,Qx,Qw,Qu,Ql,Qk,Qv,Qd,Qz,Q0,Qq,Qf,Qh,Qg,Qt,Qs,Qr,Qm,Qe,cJ,hz,hz20,hA,t1,t2,ht,hcv,Jv,Xs,Vm,Xt,J0,X2,lp,lf,lb,lS,lz,lO,p1,Xd,Zd,rft,Vl]
     rfl
    obtain ⟨l,hx⟩:=hx
    exact ⟨l,70,hx,.inr ⟨a,eA,.inl ⟨.inr hc,rfl⟩⟩⟩
 ·unfold Rd at hA
  have hx:V6 T 11 [.agg (u8s pub).toArray,.agg (u8s (front ++ back)).toArray,pv] H = some (.int .i64 60,H ++ [⟨u8s pub,true,true,true,1⟩,⟨u8s (front ++ back),true,true,true,1⟩,⟨ns .u64 A,true,true,true,1⟩],[]):=by
   generalize front ++ back = S at *
   generalize dig 256 32 0 = Z at *
   rw [Jb (fn:=Qdo) rfl]
   simp only [Qdo,↓Zr,Z0,quiet,cF,↓pF,reduceCtorEq,Qb,Qp,Zh,Zf,Zg,Ze,Zc,Qj,Q3,Qi,Q2,Q6,Q5,↓Zu,↓Zm,↓Z5,↓Z9,↓Z6,↓Z7,cL,Qo,Qn,Qx,Qw,Qu,Ql,Qk,Qv,Qd,Qz,Q0,Qq,Qf,Qh,Qg,Qt,Qs,Qr,Qm,Qe,cJ,hz,hz20,hA,t1,t2,Jv,Xs,Vm,Xt,J0,X2,lp,lS,lz,lO,lA,Xd,Zd,rft,Vl]
  exact ⟨_,60,hx,.inl ⟨hno,rfl⟩⟩
theorem Qgv {B:Nat} {a:List Nat} {m x:Nat} (h:a[m]? = some x):num B a = num B (a.take m) + x * B ^ m + B ^ (m + 1) * num B (a.drop (m + 1)):=by
 have hm:m < a.length:=(Q8.1 h).1
 conv => lhs; rw [← Y7 (m + 1) a,B3,Wo h]
 rw [Jx,V8 (by omega)]
theorem Qcw {B:Nat} {a:List Nat} {m:Nat} (ha:∀ x ∈ a,x < B) (hm:m ≤ a.length):num B (a.take m) < B ^ m:=by
 have:=num_lt (B:=B) (l:=a.take m) fun x hx => ha x (Kr hx)
 rwa [Jx,V8 hm] at this
theorem Qwv {B:Nat} {a b:List Nat} {m x y:Nat} (hl:a.length = b.length) (ha:∀ x ∈ a,x < B) (hb:∀ x ∈ b,x < B) (hx:a[m]? = some x) (hy:b[m]? = some y) (hne:x ≠ y) (hd:a.drop (m + 1) = b.drop (m + 1)):(num B a < num B b) ↔ x < y:=by
 have hm:m < a.length:=(Q8.1 hx).1
 rw [Qgv hx,Qgv hy,hd]
 have h1:=Qcw (m:=m) ha (by omega)
 have h2:=Qcw (m:=m) hb (by omega)
 rcases V5 x y with h | h
 ·have:(x + 1) * B ^ m ≤ y * B ^ m:=Vt _ h
  rw [Kt,Wm] at this
  constructor <;> intro <;> omega
 ·have:(y + 1) * B ^ m ≤ x * B ^ m:=Vt _ (by omega)
  rw [Kt,Wm] at this
  constructor <;> intro <;> omega
def Qr4 (a b:List Nat) (i:Int) (ex:Env):St:=⟨[(2,.pointer (some ⟨0,0,none⟩)),(3,.pointer (some ⟨1,0,none⟩)),(5,.int .i64 i)] ++ ex,[⟨ns .u64 a,true,true,true,1⟩,⟨ns .u64 b,true,true,true,1⟩],[]⟩
theorem Qgb {a b:List Nat} (ha:Nm a) (hb:Nm b) :
  ∀ m,m ≤ 16 → a.drop m = b.drop m → Jk T 0 (.loop Qhj) (Qr4 a b ((m:Int) - 1) []) =
   if a = b then some (.exit 0,Qr4 a b (-1) [(7,.bool false)]) else some (.ret,⟨[(4,.bool (decide (num 65536 a < num 65536 b)))],[⟨ns .u64 a,true,true,true,1⟩,⟨ns .u64 b,true,true,true,1⟩],[]⟩)
 | 0,_,hd => by
  rw [Q2,Q2] at hd
  rw [if_pos hd,Yy]
  have e:((0:Int) ≤ -1) = False:=by decide
  simp only [Qr4,Qhj,Z0,quiet,cF,↓pF,reduceCtorEq,Qb,Qp,Zh,Zf,Zg,Ze,Zc,Qj,Q3,Qi,Q2,Q6,Q5,↓Zo,↓Zn,↓Zw,↓Zz,↓Zx,↓Zy,cL,Qo,Qn,Qx,Qw,Qu,Ql,Qk,Qv,Qd,Qz,Q0,Qq,Qf,Qh,Qg,Qt,Qs,Qr,Qm,Qe,Int.zero_sub,e]
 | m + 1,hm,hd => by
  obtain ⟨x,hx⟩:∃ x,a[m]? = some x:=⟨_,Q1 (by rw [ha.len]; omega)⟩
  obtain ⟨y,hy⟩:∃ y,b[m]? = some y:=⟨_,Q1 (by rw [hb.len]; omega)⟩
  have c1:=Yo (k := .u64) hx
  have c2:=Yo (k := .u64) hy
  have l1:=ha.len
  have l2:=hb.len
  have e0:(((m + 1:Nat):Int) - 1) = (m:Int):=by omega
  have e1:((0:Int) ≤ (m:Int)) = True:=eq_true (by omega)
  have e2:((m:Int) < 16) = True:=eq_true (by omega)
  have e3:IntKind.i64.wrap ((m:Int) - 1) = (m:Int) - 1:=K7 (by omega) (by omega)
  rw [e0,Yy]
  by_cases hxy:x = y
  ·subst hxy
   have hd':a.drop m = b.drop m:=by
    rw [Yr,hx,hd,← hy,← Yr]
   have ih:=Qgb ha hb m (by omega) hd'
   rw [← ih]
   simp only [Qr4,Qhj,Z0,quiet,cF,↓pF,reduceCtorEq,Qb,Qp,Zh,Zf,Zg,Ze,Zc,Qj,Q3,Qi,Q2,Q6,Q5,↓Zo,↓Zn,↓Zw,↓Zz,↓Zx,↓Zy,cL,Qo,Qn,Qx,Qw,Qu,Ql,Qk,Qv,Qd,Qz,Q0,Qq,Qf,Qh,Qg,Qt,Qs,Qr,Qm,Qe,e1,e2,e3,c1,c2,l1,l2,J0]
  ·have hab:¬ a = b:=fun h => by subst h; rw [hx] at hy; cases hy; exact hxy rfl
   rw [if_neg hab]
   have hne:((x:Int) != (y:Int)) = true:=by simp; omega
   have hlt:=Qwv (by rw [l1,l2]) ha.lt hb.lt hx hy hxy hd
   have hdec:decide ((x:Int) < (y:Int)) = decide (num 65536 a < num 65536 b):=by
    by_cases h:x < y
    ·rw [decide_eq_true (hlt.2 h),decide_eq_true (by omega)]
    ·rw [decide_eq_false (fun k => h (hlt.1 k)),decide_eq_false (by omega)]
   simp only [Qr4,Qhj,Z0,quiet,cF,↓pF,reduceCtorEq,Qb,Qp,Zh,Zf,Zg,Ze,Zc,Qj,Q3,Qi,Q2,Q6,Q5,↓Zo,↓Zn,↓Zw,↓Zz,↓Zx,↓Zy,cL,Qo,Qn,Qx,Qw,Qu,Ql,Qk,Qv,Qd,Qz,Q0,Qq,Qf,Qh,Qg,Qt,Qs,Qr,Qm,Qe,e1,e2,e3,c1,c2,hne,hdec,l1,l2,J0]
theorem Qqw {a b:List Nat} (ha:Nm a) (hb:Nm b):Vd T 108 [eV a,eV b] = some (.bool (decide (num 65536 a < num 65536 b))):=by
 have hl:=Qgb ha hb 16 (Zj _) (by rw [Yb (by rw [ha.len]; omega),Yb (by rw [hb.len]; omega)])
 have l1:=ha.len
 have l2:=hb.len
 have e0:(((16:Nat):Int) - 1) = 15:=by decide
 rw [e0] at hl
 simp only [Qr4,Zb,Za] at hl
 by_cases hab:a = b
 ·rw [if_pos hab] at hl
  subst hab
  apply Xg
  apply Zt
  rw [Jb (fn:=a93) rfl]
  have hd:decide (num 65536 a < num 65536 a) = false:=by simp
  simp only [a93,↓Zr,Z0,quiet,cF,↓pF,reduceCtorEq,Qb,Qp,Zh,Zf,Zg,Ze,Zc,Qj,Q3,Qi,Q2,Q6,Q5,↓Zu,↓Zm,↓Z5,↓Z9,↓Z6,↓Z7,cL,Qo,Qn,Qx,Qw,Qu,Ql,Qk,Qv,Qd,Qz,Q0,Qq,Qf,Qh,Qg,Qt,Qs,Qr,Qm,Qe,cJ,Jp,hl,hd,Zd,Xd,Jv,Xs,Vm,Xt,J0,l1,l2,Vl]
  rfl
 ·rw [if_neg hab] at hl
  apply Xg
  apply Zt
  rw [Jb (fn:=a93) rfl]
  simp only [a93,↓Zr,Z0,quiet,cF,↓pF,reduceCtorEq,Qb,Qp,Zh,Zf,Zg,Ze,Zc,Qj,Q3,Qi,Q2,Q6,Q5,↓Zu,↓Zm,↓Z5,↓Z9,↓Z6,↓Z7,cL,Qo,Qn,Qx,Qw,Qu,Ql,Qk,Qv,Qd,Qz,Q0,Qq,Qf,Qh,Qg,Qt,Qs,Qr,Qm,Qe,cJ,Jp,hl,Zd,Xd,Jv,Xs,Vm,Xt,J0,l1,l2,Vl]
  rfl
def Qr8 (a:List Nat) (ex:Env):St:=⟨[(1,.pointer (some ⟨0,0,none⟩)),(2,.pointer (some ⟨1,0,none⟩))] ++ ex,[⟨ns .u64 a,true,true,true,1⟩,⟨ns .u64 Ys,true,true,true,1⟩],[]⟩
theorem D8 {a:List Nat} (ha:Nm a):Vd T 94 [eV a] = some (eV (dig 65536 16 (num 65536 a % Go.Fp.P))):=by
 have hp:=Ts
 have hP:=G7
 have hPn:=D9
 have hlt:=ha.num_lt
 obtain ⟨V,hV⟩:∃ V,V = num 65536 a:=⟨_,rfl⟩
 rw [← hV] at hlt ⊢
 have haV:a = dig 65536 16 V:=by rw [hV]; exact ha.eq
 have hdm:=Vr V Go.Fp.P
 have lP:=hP.len
 obtain ⟨st,hl,rfl⟩:=Vi (T:=T) (base:=0) (id:=0) (body:=Qll)
  (fun i st => st = Qr8 (dig 65536 16 (V - i * Go.Fp.P)) [])
  (Q:=fun st => st = Qr8 (dig 65536 16 (V % Go.Fp.P)) [(6,.bool false)])
  (V / Go.Fp.P) (s:=Qr8 a []) (by rw [Xi,Xw,← haV])
  (fun i st hi hs => by
   subst hs
   have h1:(i + 1) * Go.Fp.P ≤ V:=Un (Vt _ hi) (Nat.div_mul_le_self V Go.Fp.P)
   rw [Kt,Wm] at h1
   have hN:=Nm.dig (V - i * Go.Fp.P)
   have hn:=Gv (v:=V - i * Go.Fp.P) (by omega)
   have g1:=Qqw hN hP
   have g2:=Qga hN hP (by rw [hn,hPn]; omega)
   rw [hn,hPn,decide_eq_false (by omega)] at g1
   rw [hn,hPn,show V - i * Go.Fp.P - Go.Fp.P = V - (i + 1) * Go.Fp.P by rw [Kt,Wm]; omega] at g2
   have l1:=hN.len
   have l2:=Kb 65536 16 (V - (i + 1) * Go.Fp.P)
   generalize dig 65536 16 (V - i * Go.Fp.P) = A at *
   generalize dig 65536 16 (V - (i + 1) * Go.Fp.P) = A' at *
   generalize Bx = PL at *
   refine ⟨_,?_,rfl⟩
   simp only [Qr8,Qll,Z0,quiet,cF,↓pF,reduceCtorEq,Qb,Qp,Zh,Zf,Zg,Ze,Zc,Qj,Q3,Qi,Q2,Q6,Q5,↓Zo,↓Zn,↓Zw,↓Zz,↓Zx,↓Zy,cL,Qo,Qn,Qx,Qw,Qu,Ql,Qk,Qv,Qd,Qz,Q0,Qq,Qf,Qh,Qg,Qt,Qs,Qr,Qm,Qe,cJ,hp,g1,g2,Jv,Xs,Vm,Xt,J0,l1,l2,lP,Xd,Vl])
  (fun st hs => by
   subst hs
   have e:V - V / Go.Fp.P * Go.Fp.P = V % Go.Fp.P:=by rw [K6]; omega
   rw [e]
   have hm:=Jj V (by decide:0 < Go.Fp.P)
   have hN:=Nm.dig (V % Go.Fp.P)
   have hn:=Gv (v:=V % Go.Fp.P) (X1 hm (by decide))
   have g1:=Qqw hN hP
   rw [hn,hPn,decide_eq_true hm] at g1
   have l1:=hN.len
   generalize dig 65536 16 (V % Go.Fp.P) = A at *
   generalize Bx = PL at *
   refine ⟨_,?_,rfl⟩
   simp only [Qr8,Qll,Z0,quiet,cF,↓pF,reduceCtorEq,Qb,Qp,Zh,Zf,Zg,Ze,Zc,Qj,Q3,Qi,Q2,Q6,Q5,↓Zo,↓Zn,↓Zw,↓Zz,↓Zx,↓Zy,cL,Qo,Qn,Qx,Qw,Qu,Ql,Qk,Qv,Qd,Qz,Q0,Qq,Qf,Qh,Qg,Qt,Qs,Qr,Qm,Qe,cJ,hp,g1,Jv,Xs,Vm,Xt,J0,l1,lP,Xd,Vl])
 have hz:=Ga
 have lz:=Bh
 have l1:=ha.len
 have l2:=Kb 65536 16 (V % Go.Fp.P)
 simp only [Qr8,Zb,Za] at hl
 generalize Ys = Z at *
 generalize dig 65536 16 (V % Go.Fp.P) = R at *
 apply Xg
 apply Zt
 rw [Jb (fn:=a85) rfl]
 simp only [a85,↓Zr,Z0,quiet,cF,↓pF,reduceCtorEq,Qb,Qp,Zh,Zf,Zg,Ze,Zc,Qj,Q3,Qi,Q2,Q6,Q5,↓Zu,↓Zm,↓Z5,↓Z9,↓Z6,↓Z7,cL,Qo,Qn,Qx,Qw,Qu,Ql,Qk,Qv,Qd,Qz,Q0,Qq,Qf,Qh,Qg,Qt,Qs,Qr,Qm,Qe,cJ,hz,hl,Zd,Xd,Jv,Xs,Vm,Xt,J0,l1,l2,lz,Vl]
 rfl
theorem Qt2:Qa 32 (Value.int .u8 0) = u8s (dig 256 32 0):=rfl
theorem Qls:fillL (u8s (dig 256 32 0)) [] = some (u8s (dig 256 32 0)):=rfl
theorem w8n {n:Nat} (h:n < 256):IntKind.u8.wrap (n:Int) = n:=by rw [Qpp,Z3 h]
def Qo4 (c o:List Nat) (i:Int) (ex:Env):St:=⟨[(1,.pointer (some ⟨0,0,none⟩)),(2,.pointer (some ⟨1,0,none⟩)),(3,.pointer (some ⟨2,0,none⟩)),(4,.int .i64 i)] ++ ex,[⟨ns .u64 c,true,true,true,1⟩,⟨u8s (dig 256 32 0),true,true,true,1⟩,⟨u8s o,true,true,true,1⟩],[]⟩
theorem Qvn {V i:Nat} (hi:i < 16) :
  Jk T 0 Qhy (Qo4 (dig 65536 16 V) (pf 32 (dig 256 32 V) (2 * i)) i []) = some (.normal,Qo4 (dig 65536 16 V) (pf 32 (dig 256 32 V) (2 * (i + 1))) ((i + 1:Nat):Int) []):=by
 obtain ⟨x,hx0⟩:∃ x,x = V / 65536 ^ i % 65536:=⟨_,rfl⟩
 have hx:(dig 65536 16 V)[i]? = some x:=by rw [Uy hi,hx0]
 have hx':x < 65536:=by rw [hx0]; exact Jj _ (by decide)
 have e:(65536:Nat) ^ i = 256 ^ (2 * i):=by rw [show (65536:Nat) = 256 ^ 2 from rfl,← Yp]
 rw [e] at hx0
 have hd1:(dig 256 32 V)[2 * i]? = some (x % 256):=by rw [Uy (by omega),hx0]; congr 1; omega
 have hd2:(dig 256 32 V)[2 * i + 1]? = some (x / 256):=by
  rw [Uy (by omega),hx0,Kp,← X9]
  congr 1; omega
 have hs1:=Gq (Kb 256 32 V) (by omega:2 * i < 32) hd1
 have hs2:=Gq (Kb 256 32 V) (by omega:2 * i + 1 < 32) hd2
 have hl1:=Hw (Kb 256 32 V) (by omega:2 * i ≤ 32)
 have hl2:=Hw (Kb 256 32 V) (by omega:2 * i + 1 ≤ 32)
 have hset1:=U2 (pf 32 (dig 256 32 V) (2 * i)) (2 * i) (x % 256)
 have hset2:=U2 (pf 32 (dig 256 32 V) (2 * i + 1)) (2 * i + 1) (x / 256)
 rw [hs1] at hset1
 rw [hs2] at hset2
 rw [show 2 * (i + 1) = 2 * i + 1 + 1 by omega]
 have hxc:=Yo (k := .u64) hx
 have w1:IntKind.i64.wrap ((i:Int) + 1) = ((i + 1:Nat):Int):=Y0 (b:=1) (by omega)
 have w2:IntKind.i64.wrap (2 * (i:Int)) = ((2 * i:Nat):Int):=Qfy (a:=2) (by omega)
 have w3:IntKind.i64.wrap (((2 * i:Nat):Int) + 1) = ((2 * i + 1:Nat):Int):=Y0 (b:=1) (by omega)
 have w4:(x:Int).tmod 256 = ((x % 256:Nat):Int):=rfl
 have w5:IntKind.u8.wrap ((x % 256:Nat):Int) = ((x % 256:Nat):Int):=w8n (by omega)
 have w6:IntKind.u64.wrap ((x:Int).tdiv 256) = ((x / 256:Nat):Int):=D2 (n:=x / 256) (by omega)
 have w7:IntKind.u8.wrap ((x / 256:Nat):Int) = ((x / 256:Nat):Int):=w8n (by omega)
 have e1:((i:Int) < 16) = True:=eq_true (by omega)
 have e2:(((2 * i:Nat):Int) < 32) = True:=eq_true (by omega)
 have e3:(((2 * i + 1:Nat):Int) < 32) = True:=eq_true (by omega)
 have e5:(2 * i ≤ 31) = True:=eq_true (by omega)
 have e6:(2 * i + 1 ≤ 31) = True:=eq_true (by omega)
 have l1:=Kb 65536 16 V
 generalize dig 65536 16 V = C at *
 generalize pf 32 (dig 256 32 V) (2 * i) = o1 at *
 generalize pf 32 (dig 256 32 V) (2 * i + 1) = o2 at *
 generalize pf 32 (dig 256 32 V) (2 * i + 1 + 1) = o3 at *
 generalize hj1:2 * i + 1 = j1 at *
 generalize hj:2 * i = j at *
 simp only [Qo4,Qhy,Z0,quiet,cF,↓pF,reduceCtorEq,Qb,Qp,Zh,Zf,Zg,Ze,Zc,Qj,Q3,Qi,Q2,Q6,Q5,↓Zo,↓Zn,↓Zw,↓Zz,↓Zx,↓Zy,cL,Qo,Qn,Qx,Qw,Qu,Ql,Qk,Qv,Qd,Qz,Q0,Qq,Qf,Qh,Qg,Qt,Qs,Qr,Qm,Qe,cJ,hxc,w1,w2,w3,w4,w5,w6,w7,e1,e2,e3,e5,e6,hset1,hset2,J0,X2,hl1,hl2,l1]
theorem Qcn {a:List Nat} (ha:Nm a):Vd T 56 [eV a] = some (.agg (u8s (dig 256 32 (nf a).val)).toArray):=by
 have hc:=D8 ha
 have hv:(nf a).val = num 65536 a % Go.Fp.P:=rfl
 rw [hv]
 generalize num 65536 a % Go.Fp.P = V at *
 have hb:=Wc (T:=T) (base:=0) (id:=0) (body:=Qhy) (fun i => Qo4 (dig 65536 16 V) (pf 32 (dig 256 32 V) (2 * i)) i []) (s':=Qo4 (dig 65536 16 V) (dig 256 32 V) 16 [(9,.bool false)]) 16
  (fun i hi => Qvn hi) (by
   rw [show 2 * 16 = 32 from rfl,Hy (Kb _ _ _)]
   simp only [Qo4,Qhy,Z0,quiet,cF,↓pF,reduceCtorEq,Qb,Qp,Zh,Zf,Zg,Ze,Zc,Qj,Q3,Qi,Q2,Q6,Q5,↓Zo,↓Zn,↓Zw,↓Zz,↓Zx,↓Zy,cL,Qo,Qn,Qx,Qw,Qu,Ql,Qk,Qv,Qd,Qz,Q0,Qq,Qf,Qh,Qg,Qt,Qs,Qr,Qm,Qe])
 rw [Te,Hx,show Qa 32 0 = dig 256 32 0 from rfl] at hb
 simp only [Qo4,Zb,Za,Xu] at hb
 have hz:=Qt2
 have hf:=Qls
 have lz:=Kb 256 32 0
 have l1:=ha.len
 have l2:=Kb 65536 16 V
 have l3:=Kb 256 32 V
 generalize dig 65536 16 V = C at *
 generalize dig 256 32 V = R at *
 generalize dig 256 32 0 = Z at *
 apply Xg
 apply Zt
 rw [Jb (fn:=a66) rfl]
 simp only [a66,↓Zr,Z0,quiet,cF,↓pF,reduceCtorEq,Qb,Qp,Zh,Zf,Zg,Ze,Zc,Qj,Q3,Qi,Q2,Q6,Q5,↓Zu,↓Zm,↓Z5,↓Z9,↓Z6,↓Z7,cL,Qo,Qn,Qx,Qw,Qu,Ql,Qk,Qv,Qd,Qz,Q0,Qq,Qf,Qh,Qg,Qt,Qs,Qr,Qm,Qe,cJ,hz,hf,hc,hb,Zd,Xd,Jv,Xs,Vm,Xt,J0,X2,l1,l2,l3,lz,Vl]
 rfl
def fH (d:List Nat) (l:List Ob):List Ob:=⟨ns .u64 d,true,true,true,1⟩ :: ⟨ns .u64 Ys,true,true,true,1⟩ :: l
def f2I (d:List Nat) (l:List Ob) (c:Nat) (i:Int) (ex:Env):St:=⟨[(1,.pointer (some ⟨0,0,none⟩)),(2,.pointer (some ⟨1,0,none⟩)),(3,.int .u64 c),(4,.int .i64 i)] ++ ex,fH d l,[]⟩
theorem Qxy {d:List Nat} {l:List Ob} (hd:d.length = 32) (hM:∀ x ∈ d,x < 2 ^ 44) (hN:num 65536 d < 65536 ^ 32) :
  ∃ o c,Jk T 0 (.block 2 (.loop Qhp)) (f2I d l 0 0 []) = some (.normal,f2I o l c 32 [(11,.bool false)]) ∧ o.length = 32 ∧ (∀ x ∈ o,x < 65536) ∧ num 65536 o = num 65536 d:=by
 obtain ⟨st,hl,o,c,rfl,h1,h2,h3⟩:=Vi (T:=T) (base:=0) (id:=2) (body:=Qhp)
  (fun i st => ∃ (o:List Nat) (c:Nat),st = f2I (o ++ d.drop i) l c i [] ∧ o.length = i ∧ (∀ x ∈ o,x < 65536) ∧ c < 2 ^ 30 ∧ num 65536 (d.take i) = num 65536 o + 65536 ^ i * c)
  (Q:=fun st => ∃ (o:List Nat) (c:Nat),st = f2I o l c 32 [(11,.bool false)] ∧ o.length = 32 ∧ (∀ x ∈ o,x < 65536) ∧ num 65536 d = num 65536 o + 65536 ^ 32 * c)
  32 (s:=f2I d l 0 0 []) ⟨[],0,by rw [Q2]; rfl,rfl,by simp,by omega,by simp [num]⟩
  (fun i st hi hs => by
   obtain ⟨o,c,rfl,h1,h2,h3,h4⟩:=hs
   obtain ⟨x,hx⟩:∃ x,d[i]? = some x:=⟨_,Q1 (by omega)⟩
   have hx':=hM x (Zk hx)
   have hxo:(o ++ d.drop i)[i]? = some x:=by
    rw [Zi (by omega),h1,K9,Vx]; exact hx
   have hstep:(o ++ d.drop i).set i ((x + c) % 65536) = (o ++ [(x + c) % 65536]) ++ d.drop (i + 1):=by
    rw [Uk _ _ (by omega),h1,K9,Yr (i:=i),hx]
    simp
   have hset:=Uw .u64 (o ++ d.drop i) i ((x + c) % 65536)
   rw [hstep] at hset
   have hlen:(o ++ d.drop i).length = 32:=by simp; omega
   have hxc:=Yo (k := .u64) hxo
   have w1:IntKind.i64.wrap ((i:Int) + 1) = ((i + 1:Nat):Int):=Y0 (b:=1) (by omega)
   have w2:IntKind.u64.wrap ((x:Int) + (c:Int)) = ((x + c:Nat):Int):=Ds (by omega)
   have w3:((x + c:Nat):Int).tmod 65536 = (((x + c) % 65536:Nat):Int):=rfl
   have w4:IntKind.u64.wrap (((x + c:Nat):Int).tdiv 65536) = (((x + c) / 65536:Nat):Int):=D2 (n:=(x + c) / 65536) (by omega)
   have e1:((i:Int) < 32) = True:=eq_true (by omega)
   have e4:(i ≤ 31) = True:=eq_true (by omega)
   refine ⟨f2I ((o ++ [(x + c) % 65536]) ++ d.drop (i + 1)) l ((x + c) / 65536) ((i + 1:Nat):Int) [],?_,o ++ [(x + c) % 65536],(x + c) / 65536,rfl,by simp [h1],?_,by omega,?_⟩
   ·generalize (o ++ [(x + c) % 65536]) ++ d.drop (i + 1) = O' at *
    generalize o ++ d.drop i = O at *
    generalize (x + c) / 65536 = q at *
    generalize (x + c) % 65536 = m at *
    generalize x + c = v at *
    generalize i + 1 = i1 at *
    simp only [f2I,fH,Qhp,Z0,quiet,cF,↓pF,reduceCtorEq,Qb,Qp,Zh,Zf,Zg,Ze,Zc,Qj,Q3,Qi,Q2,Q6,Q5,↓Zo,↓Zn,↓Zw,↓Zz,↓Zx,↓Zy,cL,Qo,Qn,Qx,Qw,Qu,Ql,Qk,Qv,Qd,Qz,Q0,Qq,Qf,Qh,Qg,Qt,Qs,Qr,Qm,Qe,cJ,hxc,w1,w2,w3,w4,e1,e4,hset,J0,hlen]
   ·intro y hy
    rcases Xb.1 hy with hy | hy
    ·exact h2 y hy
    ·rw [Bt.1 hy]; exact Jj _ (by decide)
   ·rw [Wo hx,Qm4,h1,h4,Kp]
    have h5:x + c = 65536 * ((x + c) / 65536) + (x + c) % 65536:=(Vr _ _).symm
    generalize (x + c) / 65536 = q at *
    generalize (x + c) % 65536 = m at *
    generalize (65536:Nat) ^ i = p at *
    have h6:=congrArg (fun t => t * p) h5
    simp only [Kt] at h6
    rw [Vo p,K6 p c,K6 p m,K6 p (65536 * q)]
    omega)
  (fun st hs => by
   obtain ⟨o,c,rfl,h1,h2,h3,h4⟩:=hs
   rw [Zl (by omega)] at h4
   refine ⟨_,?_,o,c,rfl,h1,h2,h4⟩
   rw [Yb (by omega),Kv]
   simp only [f2I,fH,Qhp,Z0,quiet,cF,↓pF,reduceCtorEq,Qb,Qp,Zh,Zf,Zg,Ze,Zc,Qj,Q3,Qi,Q2,Q6,Q5,↓Zo,↓Zn,↓Zw,↓Zz,↓Zx,↓Zy,cL,Qo,Qn,Qx,Qw,Qu,Ql,Qk,Qv,Qd,Qz,Q0,Qq,Qf,Qh,Qg,Qt,Qs,Qr,Qm,Qe])
 refine ⟨o,c,hl,h1,h2,?_⟩
 rcases Yd c with h | h
 ·rw [h3,h]; omega
 ·exfalso
  have:=Ug (65536 ^ 32) h
  generalize (65536:Nat) ^ 32 = M at *
  omega
def Dr (l:List Nat):Bool := !(l.all (· == 0))
theorem Qqi (l:List Nat) (x:Nat):Dr (l ++ [x]) = (Dr l || !(x == 0)):=by simp [Dr]
def f1I (d o:List Nat) (l:List Ob) (b:Bool) (i:Int) (ex:Env):St:=⟨[(1,.pointer (some ⟨0,0,none⟩)),(2,.pointer (some ⟨1,0,none⟩)),(6,.pointer (some ⟨l.length + 1 + 1,0,none⟩)),(7,.bool b),(8,.int .i64 i)] ++ ex,fH d (l ++ [⟨ns .u64 o,true,true,true,1⟩]),[]⟩
theorem Q1k {d:List Nat} {l:List Ob} {i:Nat} {b:Bool} (hd:d.length = 32) (hi:i < 16) (hb:b = Dr ((d.drop 16).take i)) :
  Jk T 0 Qb5 (f1I d (pf 16 (d.take 16) i) l b i []) = some (.normal,f1I d (pf 16 (d.take 16) (i + 1)) l (Dr ((d.drop 16).take (i + 1))) ((i + 1:Nat):Int) []):=by
 obtain ⟨x,hx⟩:∃ x,d[i]? = some x:=⟨_,Q1 (by omega)⟩
 obtain ⟨y,hy⟩:∃ y,d[i + 16]? = some y:=⟨_,Q1 (by omega)⟩
 have hx2:(d.take 16)[i]? = some x:=by rw [Ks,if_pos hi]; exact hx
 have hy2:(d.drop 16)[i]? = some y:=by rw [Vx,B4]; exact hy
 have hL:(d.take 16).length = 16:=by simp; omega
 have hstep:=Gq hL hi hx2
 have hlen:=Hw hL (Wh hi)
 have hset:=Uw .u64 (pf 16 (d.take 16) i) i x
 rw [hstep] at hset
 have hxc:=Yo (k := .u64) hx
 have hyc:=Yo (k := .u64) hy
 have hnz:Dr ((d.drop 16).take (i + 1)) = (b || !(y == 0)):=by
  rw [Yf,hy2,hb]; exact Qqi _ _
 rw [hnz]
 have w1:IntKind.i64.wrap ((i:Int) + 1) = ((i + 1:Nat):Int):=Y0 (b:=1) (by omega)
 have w2:IntKind.i64.wrap ((i:Int) + 16) = ((i + 16:Nat):Int):=Y0 (b:=16) (by omega)
 have e1:((i:Int) < 16) = True:=eq_true (by omega)
 have e2:((i:Int) < 32) = True:=eq_true (by omega)
 have e3:(((i + 16:Nat):Int) < 32) = True:=eq_true (by omega)
 have e4:(i ≤ 15) = True:=eq_true (by omega)
 have e5:((y:Int) != 0) = !(y == 0):=by
  by_cases h:y = 0
  ·subst h; rfl
  ·have h':¬ (y:Int) = 0:=by omega
   rw [beq_eq_false_iff_ne.2 h,bne_iff_ne.2 h']; rfl
 generalize pf 16 (d.take 16) i = o1 at *
 generalize pf 16 (d.take 16) (i + 1) = o2 at *
 generalize i + 16 = j at *
 generalize (!(y == 0)) = nz at *
 clear hb hnz
 cases b with
 | false => simp only [f1I,fH,Qb5,Z0,quiet,cF,↓pF,reduceCtorEq,Qb,Qp,Zh,Zf,Zg,Ze,Zc,Qj,Q3,Qi,Q2,Q6,Q5,↓Zu,↓Zm,↓Z5,↓Z9,↓Z6,↓Z7,cL,Qo,Qn,Qx,Qw,Qu,Ql,Qk,Qv,Qd,Qz,Q0,Qq,Qf,Qh,Qg,Qt,Qs,Qr,Qm,Qe,cJ,hxc,hyc,w1,w2,e1,e2,e3,e4,e5,hset,J0,hlen,hd,Bool.false_or]
 | true => simp only [f1I,fH,Qb5,Z0,quiet,cF,↓pF,reduceCtorEq,Qb,Qp,Zh,Zf,Zg,Ze,Zc,Qj,Q3,Qi,Q2,Q6,Q5,↓Zu,↓Zm,↓Z5,↓Z9,↓Z6,↓Z7,cL,Qo,Qn,Qx,Qw,Qu,Ql,Qk,Qv,Qd,Qz,Q0,Qq,Qf,Qh,Qg,Qt,Qs,Qr,Qm,Qe,cJ,hxc,hyc,w1,w2,e1,e2,e3,e4,e5,hset,J0,hlen,hd,Bool.true_or]
theorem Qxz {d:List Nat} {l:List Ob} (hd:d.length = 32) :
  Jk T 0 (.block 4 (.loop Qb5)) (f1I d Ys l false 0 []) = some (.normal,f1I d (d.take 16) l (Dr (d.drop 16)) 16 [(27,.bool false)]):=by
 have hL:(d.take 16).length = 16:=by simp; omega
 have hb:=Wc (T:=T) (base:=0) (id:=4) (body:=Qb5) (fun i => f1I d (pf 16 (d.take 16) i) l (Dr ((d.drop 16).take i)) i []) (s':=f1I d (d.take 16) l (Dr (d.drop 16)) 16 [(27,.bool false)]) 16
  (fun i hi => Q1k hd hi rfl) (by
   rw [Hy hL,Zl (l:=d.drop 16) (by simp; omega)]
   simp only [f1I,Qb5,Z0,quiet,cF,↓pF,reduceCtorEq,Qb,Qp,Zh,Zf,Zg,Ze,Zc,Qj,Q3,Qi,Q2,Q6,Q5,↓Zo,↓Zn,↓Zw,↓Zz,↓Zx,↓Zy,cL,Qo,Qn,Qx,Qw,Qu,Ql,Qk,Qv,Qd,Qz,Q0,Qq,Qf,Qh,Qg,Qt,Qs,Qr,Qm,Qe])
 rw [Hx] at hb
 exact hb
def f0I (d:List Nat) (l:List Ob) (i:Int) (ex:Env):St:=⟨[(1,.pointer (some ⟨0,0,none⟩)),(2,.pointer (some ⟨1,0,none⟩)),(9,.int .i64 i)] ++ ex,fH d l,[]⟩
theorem Qx0 {d:List Nat} {l:List Ob} (hd:d.length = 32) (hM:∀ x ∈ d,x < 65536) :
  ∃ o,Jk T 0 (.block 6 (.loop Qhq)) (f0I d l 0 []) = some (.normal,f0I o l 16 [(47,.bool false)]) ∧ o.length = 32 ∧ (∀ x ∈ o,x < 2 ^ 44) ∧ num 65536 o + 65536 ^ 16 * num 65536 (d.drop 16) = num 65536 d + 38 * num 65536 (d.drop 16):=by
 obtain ⟨st,hl,o,rfl,h1,h2,h3⟩:=Vi (T:=T) (base:=0) (id:=6) (body:=Qhq)
  (fun i st => ∃ o:List Nat,st = f0I o l i [] ∧ o.length = 32 ∧ (∀ x ∈ o,x < 2 ^ 44) ∧ (∀ j,i ≤ j → j < 16 → o[j]? = d[j]? ∧ o[j + 16]? = d[j + 16]?) ∧ num 65536 o + 65536 ^ 16 * num 65536 ((d.drop 16).take i) = num 65536 d + 38 * num 65536 ((d.drop 16).take i))
  (Q:=fun st => ∃ o:List Nat,st = f0I o l 16 [(47,.bool false)] ∧ o.length = 32 ∧ (∀ x ∈ o,x < 2 ^ 44) ∧ num 65536 o + 65536 ^ 16 * num 65536 (d.drop 16) = num 65536 d + 38 * num 65536 (d.drop 16))
  16 (s:=f0I d l 0 []) ⟨d,rfl,hd,fun x hx => Uc (hM x hx) (by decide),fun _ _ _ => ⟨rfl,rfl⟩,by simp [num]⟩
  (fun i st hi hs => by
   obtain ⟨o,rfl,h1,h2,h3,h4⟩:=hs
   obtain ⟨x,hx⟩:∃ x,d[i]? = some x:=⟨_,Q1 (by omega)⟩
   obtain ⟨y,hy⟩:∃ y,d[i + 16]? = some y:=⟨_,Q1 (by omega)⟩
   have hx':=hM x (Zk hx)
   have hy':=hM y (Zk hy)
   obtain ⟨ox,oy⟩:=h3 i (Zj _) hi
   rw [hx] at ox
   rw [hy] at oy
   have oy':(o.set i (x + 38 * y))[i + 16]? = some y:=by rw [Ji (by omega)]; exact oy
   have n1:=Ge (B:=65536) (x + 38 * y) ox
   have n2:=Ge (B:=65536) 0 oy'
   have s1:=Uw .u64 o i (x + 38 * y)
   have s2:(ns .u64 (o.set i (x + 38 * y))).set (i + 16) (.int .u64 0) = ns .u64 ((o.set i (x + 38 * y)).set (i + 16) 0):=Uw .u64 (o.set i (x + 38 * y)) (i + 16) 0
   have l2:(o.set i (x + 38 * y)).length = 32:=by rw [Xe]; exact h1
   have hxc:=Yo (k := .u64) ox
   have hyc:=Yo (k := .u64) oy
   have hy2:(d.drop 16)[i]? = some y:=by rw [Vx,B4]; exact hy
   have w1:IntKind.i64.wrap ((i:Int) + 1) = ((i + 1:Nat):Int):=Y0 (b:=1) (by omega)
   have w2:IntKind.i64.wrap ((i:Int) + 16) = ((i + 16:Nat):Int):=Y0 (b:=16) (by omega)
   have w3:IntKind.u64.wrap (38 * (y:Int)) = ((38 * y:Nat):Int):=Rz (a:=38) (by omega)
   have w4:IntKind.u64.wrap ((x:Int) + ((38 * y:Nat):Int)) = ((x + 38 * y:Nat):Int):=Ds (by omega)
   have e1:((i:Int) < 16) = True:=eq_true (by omega)
   have e2:((i:Int) < 32) = True:=eq_true (by omega)
   have e3:(((i + 16:Nat):Int) < 32) = True:=eq_true (by omega)
   have e4:(i ≤ 31) = True:=eq_true (by omega)
   have e5:(i + 16 ≤ 31) = True:=eq_true (by omega)
   refine ⟨f0I ((o.set i (x + 38 * y)).set (i + 16) 0) l ((i + 1:Nat):Int) [],?_,_,rfl,by rw [Xe]; exact l2,?_,?_,?_⟩
   ·generalize (o.set i (x + 38 * y)).set (i + 16) 0 = O2 at *
    generalize o.set i (x + 38 * y) = O1 at *
    generalize hj:i + 16 = j at *
    generalize x + 38 * y = v at *
    generalize 38 * y = u at *
    generalize i + 1 = i1 at *
    simp only [f0I,fH,Qhq,Z0,quiet,cF,↓pF,reduceCtorEq,Qb,Qp,Zh,Zf,Zg,Ze,Zc,Qj,Q3,Qi,Q2,Q6,Q5,↓Zo,↓Zn,↓Zw,↓Zz,↓Zx,↓Zy,cL,Qo,Qn,Qx,Qw,Qu,Ql,Qk,Qv,Qd,Qz,Q0,Qq,Qf,Qh,Qg,Qt,Qs,Qr,Qm,Qe,cJ,hxc,hyc,w1,w2,w3,w4,e1,e2,e3,e4,e5,s1,s2,J0,h1,l2]
   ·exact Hu (Hu h2 (by omega)) (by decide)
   ·intro j hj hj'
    obtain ⟨g1,g2⟩:=h3 j (by omega) hj'
    rw [Ji (by omega),Ji (by omega),Ji (by omega),Ji (by omega)]
    exact ⟨g1,g2⟩
   ·rw [Wo hy2]
    rw [Wl] at n2
    generalize num 65536 ((o.set i (x + 38 * y)).set (i + 16) 0) = N2 at *
    generalize num 65536 (o.set i (x + 38 * y)) = N1 at *
    generalize num 65536 (Wn i (Bz 16 d)) = S at *
    generalize (65536:Nat) ^ i = p at *
    have e16:(65536:Nat) ^ 16 = 115792089237316195423570985008687907853269984665640564039457584007913129639936:=by decide
    rw [e16] at *
    rw [Kt,Vo] at n1
    rw [← Vo] at n2
    rw [Ha,Ha]
    generalize y * p = yp at *
    omega)
  (fun st hs => by
   obtain ⟨o,rfl,h1,h2,h3,h4⟩:=hs
   rw [Zl (by simp; omega)] at h4
   refine ⟨_,?_,o,rfl,h1,h2,h4⟩
   simp only [f0I,fH,Qhq,Z0,quiet,cF,↓pF,reduceCtorEq,Qb,Qp,Zh,Zf,Zg,Ze,Zc,Qj,Q3,Qi,Q2,Q6,Q5,↓Zo,↓Zn,↓Zw,↓Zz,↓Zx,↓Zy,cL,Qo,Qn,Qx,Qw,Qu,Ql,Qk,Qv,Qd,Qz,Q0,Qq,Qf,Qh,Qg,Qt,Qs,Qr,Qm,Qe])
 exact ⟨o,hl,h1,h2,h3⟩
def f3I (d:List Nat) (l:List Ob) (ex:Env):St:=⟨[(1,.pointer (some ⟨0,0,none⟩)),(2,.pointer (some ⟨1,0,none⟩))] ++ ex,fH d l,[]⟩
theorem Qda:∀ {l:List Nat},Dr l = false → num 65536 l = 0
 | [],_ => rfl
 | x :: l,h => by
  have h':((x :: l).all (· == 0)) = true:=by simpa [Dr] using h
  rw [J2,Vw] at h'
  have hx:x = 0:=by simpa using h'.1
  have ih:=Qda (l:=l) (by unfold Dr; rw [h'.2]; rfl)
  rw [num,ih,hx]
theorem Qwm:∀ {l:List Nat},Dr l = true → 0 < num 65536 l
 | [],h => by cases h
 | x :: l,h => by
  rw [num]
  by_cases hx:x = 0
  ·have:=Qwm (l:=l) (by
    subst hx
    simpa [Dr] using h)
   omega
  ·omega
theorem Qxr {V W H:Nat} (h:W + 65536 ^ 16 * H = V + 38 * H):Go.Fp.fp W = Go.Fp.fp V:=by
 have h1:=congrArg Go.Fp.fp h
 rw [Go.Fp.Gb,Go.Fp.Gb,Go.Fp.U0,Go.Fp.U0] at h1
 have h2:Go.Fp.fp (65536 ^ 16) = Go.Fp.fp 38:=by decide +kernel
 rw [h2] at h1
 generalize Go.Fp.fp W = a at *
 generalize Go.Fp.fp V = b at *
 generalize Go.Fp.fp 38 * Go.Fp.fp H = c at *
 clear h h2
 grobner
theorem Qo1:∀ (v:Nat) (d:List Nat) (l:List Ob) (ex:Env),num 65536 d = v → d.length = 32 → (∀ x ∈ d,x < 2 ^ 44) → v < 65536 ^ 32 →
  ∃ r d' l',Jk T 0 (.loop Qlk) (f3I d l ex) = some (.ret,⟨[(2,.pointer (some ⟨1,0,none⟩))],⟨ns .u64 d',true,true,true,1⟩ :: ⟨ns .u64 r,true,true,true,1⟩ :: l',[]⟩) ∧ Nm r ∧ nf r = Go.Fp.fp v:=by
 intro v
 induction v using Qdt with
 | ind v ih =>
  intro d l ex hv hd hM hN
  obtain ⟨o,c,h2,lo,xo,no⟩:=Qxy (l:=l) hd hM (by rw [hv]; exact hN)
  have h1:=Qxz (d:=o) (l:=l) lo
  simp only [f2I,f1I,fH,Zb,Za,Xu] at h2 h1
  have hz:=Ga
  have lz:=Bh
  have hf:=Rj
  by_cases hnz:Dr (o.drop 16) = true
  ·rw [hnz] at h1
   obtain ⟨o2,h0,lo2,xo2,no2⟩:=Qx0 (l:=l ++ [⟨ns .u64 (o.take 16),true,true,true,1⟩]) lo xo
   simp only [f0I,fH,Zb,Za,Xu] at h0
   have hpos:=Qwm hnz
   rw [no,hv] at no2
   have hlt:num 65536 o2 < v:=by
    have e16:(65536:Nat) ^ 16 = 115792089237316195423570985008687907853269984665640564039457584007913129639936:=by decide
    rw [e16] at no2
    omega
   obtain ⟨r,d',l',hr,hr1,hr2⟩   := ih _ hlt o2 (l ++ [⟨ns .u64 (o.take 16),true,true,true,1⟩]) [(9,.int .i64 16),(47,.bool false)] rfl lo2 xo2 (Uc hlt hN)
   refine ⟨r,d',l',?_,hr1,by rw [hr2]; exact Qxr no2⟩
   rw [← hr,Yy]
   simp only [f3I,fH,Zb,Za]
   generalize Ys = Z at *
   simp only [f3I,fH,Qlk,Z0,quiet,cF,↓pF,reduceCtorEq,Qb,Qp,Zh,Zf,Zg,Ze,Zc,Qj,Q3,Qi,Q2,Q6,Q5,↓Zu,↓Zm,↓Z5,↓Z9,↓Z6,↓Z7,cL,Qo,Qn,Qx,Qw,Qu,Ql,Qk,Qv,Qd,Qz,Q0,Qq,Qf,Qh,Qg,Qt,Qs,Qr,Qm,Qe,cJ,hz,hf,h2,h1,h0,Zd,J0,lz,Xd,Jv,Xs,Vm,Xt,Vl]
  ·have hnz':Dr (o.drop 16) = false:=by simpa using hnz
   rw [hnz'] at h1
   have hn0:=Qda hnz'
   have hnum:num 65536 (o.take 16) = v:=by
    have:=B3 65536 (o.take 16) (o.drop 16)
    rw [Y7,hn0,no,hv] at this
    omega
   have lt:(o.take 16).length = 16:=by simp; omega
   refine ⟨o.take 16,o,l ++ [⟨ns .u64 (o.take 16),true,true,true,1⟩],?_,⟨lt,fun x hx => xo x (Kr hx)⟩,by unfold nf; rw [hnum]⟩
   rw [Yy]
   simp only [f3I,fH,Zb,Za]
   generalize Wn 16 o = R at *
   generalize Ys = Z at *
   simp only [f3I,fH,Qlk,Z0,quiet,cF,↓pF,reduceCtorEq,Qb,Qp,Zh,Zf,Zg,Ze,Zc,Qj,Q3,Qi,Q2,Q6,Q5,↓Zu,↓Zm,↓Z5,↓Z9,↓Z6,↓Z7,cL,Qo,Qn,Qx,Qw,Qu,Ql,Qk,Qv,Qd,Qz,Q0,Qq,Qf,Qh,Qg,Qt,Qs,Qr,Qm,Qe,cJ,hz,hf,h2,h1,Zd,J0,lz,lt,Xd,Jv,Xs,Vm,Xt,Vl]
theorem Qqx {d:List Nat} (hd:d.length = 32) (hM:∀ x ∈ d,x < 2 ^ 44) (hN:num 65536 d < 65536 ^ 32):∃ r,Vd T 95 [eV d] = some (eV r) ∧ Nm r ∧ nf r = Go.Fp.fp (num 65536 d):=by
 obtain ⟨r,d',l',hr,h1,h2⟩:=Qo1 _ d [] [] rfl hd hM hN
 refine ⟨r,?_,h1,h2⟩
 simp only [f3I,fH,Zb,Za] at hr
 have hz:=Ga
 have lz:=Bh
 have l1:=h1.len
 generalize Ys = Z at *
 apply Xg
 apply Zt
 rw [Jb (fn:=a86) rfl]
 simp only [a86,↓Zr,Z0,quiet,cF,↓pF,reduceCtorEq,Qb,Qp,Zh,Zf,Zg,Ze,Zc,Qj,Q3,Qi,Q2,Q6,Q5,↓Zu,↓Zm,↓Z5,↓Z9,↓Z6,↓Z7,cL,Qo,Qn,Qx,Qw,Qu,Ql,Qk,Qv,Qd,Qz,Q0,Qq,Qf,Qh,Qg,Qt,Qs,Qr,Qm,Qe,cJ,Jp,hz,hr,Zd,Xd,Jv,Xs,Vm,Xt,J0,hd,l1,lz,Vl]
 rfl
theorem Qkb {n:Nat} {p q:List Nat} (hp:p.length = n) (hq:q.length = n):vEq (some (Qa n true)) false (eV p) (eV q) = some (.bool (p == q)):=by
 unfold eV
 rw [Qqp,Qfa hp hq]
 rfl
theorem Qy2 {n:Nat} {p q:List Nat} (hp:p.length = n) (hq:q.length = n):vEq (some (Qa n true)) true (eV p) (eV q) = some (.bool (!(p == q))):=by
 unfold eV
 rw [Qcd,Qfa hp hq]
 rfl
theorem Qp3 (x y:Go.Fp.Fe):x + -y = x - y:=by grobner
theorem Qno (x:Go.Fp.Fe):0 - x = -x:=by grobner
def D0:List Nat:=Qa 32 0
theorem Qqo:Qa 32 (Value.int .u64 0) = ns .u64 D0:=rfl
theorem Qlr:D0.length = 32:=rfl
def abI (a b d:List Nat) (i:Int) (ex:Env):St:=⟨[(2,.pointer (some ⟨0,0,none⟩)),(3,.pointer (some ⟨1,0,none⟩)),(4,.pointer (some ⟨2,0,none⟩)),(5,.pointer (some ⟨3,0,none⟩)),(6,.int .i64 i)] ++ ex,[⟨ns .u64 a,true,true,true,1⟩,⟨ns .u64 b,true,true,true,1⟩,⟨ns .u64 Ys,true,true,true,1⟩,⟨ns .u64 d,true,true,true,1⟩],[]⟩
theorem Qo5 {a b:List Nat} (ha:Nm a) (hb:Nm b) :
  ∃ d,Jk T 0 (.block 0 (.loop Qht)) (abI a b D0 0 []) = some (.normal,abI a b d 16 [(8,.bool false)]) ∧ d.length = 32 ∧ (∀ x ∈ d,x < 2 ^ 44) ∧ num 65536 d = num 65536 a + num 65536 b:=by
 obtain ⟨st,hl,o,rfl,h1,h2,h3⟩:=Vi (T:=T) (base:=0) (id:=0) (body:=Qht)
  (fun i st => ∃ o:List Nat,st = abI a b o i [] ∧ o.length = 32 ∧ (∀ x ∈ o,x < 2 ^ 44) ∧ (∀ j,i ≤ j → j < 16 → o[j]? = some 0) ∧ num 65536 o = num 65536 (a.take i) + num 65536 (b.take i))
  (Q:=fun st => ∃ o:List Nat,st = abI a b o 16 [(8,.bool false)] ∧ o.length = 32 ∧ (∀ x ∈ o,x < 2 ^ 44) ∧ num 65536 o = num 65536 a + num 65536 b)
  16 (s:=abI a b D0 0 []) ⟨D0,rfl,rfl,by decide,fun j _ hj => by unfold D0; rw [Qca,if_pos (by omega)],by simp [num]; decide⟩
  (fun i st hi hs => by
   obtain ⟨o,rfl,h1,h2,h3,h4⟩:=hs
   obtain ⟨x,hx⟩:∃ x,a[i]? = some x:=⟨_,Q1 (by rw [ha.len]; omega)⟩
   obtain ⟨y,hy⟩:∃ y,b[i]? = some y:=⟨_,Q1 (by rw [hb.len]; omega)⟩
   have hx':=ha.lt x (Zk hx)
   have hy':=hb.lt y (Zk hy)
   have n1:=Ge (B:=65536) (x + y) (h3 i (Zj _) hi)
   have s1:=Uw .u64 o i (x + y)
   have hxc:=Yo (k := .u64) hx
   have hyc:=Yo (k := .u64) hy
   have l1:=ha.len
   have l2:=hb.len
   have w1:IntKind.i64.wrap ((i:Int) + 1) = ((i + 1:Nat):Int):=Y0 (b:=1) (by omega)
   have w2:IntKind.u64.wrap ((x:Int) + (y:Int)) = ((x + y:Nat):Int):=Ds (by omega)
   have e1:((i:Int) < 16) = True:=eq_true (by omega)
   have e2:((i:Int) < 32) = True:=eq_true (by omega)
   have e4:(i ≤ 31) = True:=eq_true (by omega)
   refine ⟨abI a b (o.set i (x + y)) ((i + 1:Nat):Int) [],?_,_,rfl,by rw [Xe]; exact h1,Hu h2 (by omega),?_,?_⟩
   ·generalize o.set i (x + y) = O1 at *
    generalize x + y = v at *
    generalize i + 1 = i1 at *
    simp only [abI,Qht,Z0,quiet,cF,↓pF,reduceCtorEq,Qb,Qp,Zh,Zf,Zg,Ze,Zc,Qj,Q3,Qi,Q2,Q6,Q5,↓Zo,↓Zn,↓Zw,↓Zz,↓Zx,↓Zy,cL,Qo,Qn,Qx,Qw,Qu,Ql,Qk,Qv,Qd,Qz,Q0,Qq,Qf,Qh,Qg,Qt,Qs,Qr,Qm,Qe,cJ,hxc,hyc,w1,w2,e1,e2,e4,s1,J0,h1,l1,l2]
   ·intro j hj hj'
    rw [Ji (by omega)]
    exact h3 j (by omega) hj'
   ·rw [Wo hx,Wo hy]
    rw [Kt] at n1
    omega)
  (fun st hs => by
   obtain ⟨o,rfl,h1,h2,h3,h4⟩:=hs
   rw [Zl (by rw [ha.len]; omega),Zl (by rw [hb.len]; omega)] at h4
   refine ⟨_,?_,o,rfl,h1,h2,h4⟩
   simp only [abI,Qht,Z0,quiet,cF,↓pF,reduceCtorEq,Qb,Qp,Zh,Zf,Zg,Ze,Zc,Qj,Q3,Qi,Q2,Q6,Q5,↓Zo,↓Zn,↓Zw,↓Zz,↓Zx,↓Zy,cL,Qo,Qn,Qx,Qw,Qu,Ql,Qk,Qv,Qd,Qz,Q0,Qq,Qf,Qh,Qg,Qt,Qs,Qr,Qm,Qe])
 exact ⟨o,hl,h1,h2,h3⟩
theorem Qeb {a b:List Nat} (ha:Nm a) (hb:Nm b):∃ r,Vd T 73 [eV a,eV b] = some (eV r) ∧ Nm r ∧ nf r = nf a + nf b:=by
 obtain ⟨d,hd,l1,h2,h3⟩:=Qo5 ha hb
 have hal:=ha.num_lt
 have hbl:=hb.num_lt
 obtain ⟨r,hr,hN,hf⟩:=Qqx l1 h2 (by
  rw [h3]
  have e:(65536:Nat) ^ 32 = 2 ^ 256 * 2 ^ 256:=by decide
  rw [e]
  have:(2:Nat) ≤ 2 ^ 256:=by decide
  have:=Vt (2 ^ 256) this
  generalize (2:Nat) ^ 256 = M at *
  omega)
 refine ⟨r,?_,hN,by rw [hf,h3,Go.Fp.Gb]; rfl⟩
 simp only [abI,Zb,Za,Xu] at hd
 have hz:=Ga
 have lz:=Bh
 have hz2:=Qqo
 have lz2:=Qlr
 have la:=ha.len
 have lb:=hb.len
 have lr:=hN.len
 generalize Ys = Z at *
 generalize D0 = Z2 at *
 apply Xg
 apply Zt
 rw [Jb (fn:=a72) rfl]
 simp only [a72,↓Zr,Z0,quiet,cF,↓pF,reduceCtorEq,Qb,Qp,Zh,Zf,Zg,Ze,Zc,Qj,Q3,Qi,Q2,Q6,Q5,↓Zu,↓Zm,↓Z5,↓Z9,↓Z6,↓Z7,cL,Qo,Qn,Qx,Qw,Qu,Ql,Qk,Qv,Qd,Qz,Q0,Qq,Qf,Qh,Qg,Qt,Qs,Qr,Qm,Qe,cJ,hz,hz2,hd,hr,Zd,Xd,Jv,Xs,Vm,Xt,J0,la,lb,l1,lr,lz,lz2,Vl]
 rfl
theorem Qdv:Nm Ys:=⟨rfl,by decide⟩
theorem Qbm:num 65536 Ys = 0:=by decide
theorem T2 {a:List Nat}:nf a = 0 ↔ num 65536 a % Go.Fp.P = 0:=by
 unfold nf
 rw [← Go.Fp.Qre,Go.Fp.Qbh,Nat.zero_mod]
theorem Qns {v w:Nat} (hv:v < 2 ^ 256) (hw:w < 2 ^ 256):(dig 65536 16 v == dig 65536 16 w) = decide (v = w):=by
 by_cases h:v = w
 ·subst h; simp
 ·rw [decide_eq_false h,beq_eq_false_iff_ne.2]
  intro e
  have:=congrArg (num 65536) e
  rw [Gv hv,Gv hw] at this
  exact h this
theorem Qn8:Go.Fp.P < 2 ^ 256:=by decide
theorem Qij:0 < Go.Fp.P:=by decide
theorem Qiz (a:List Nat):(dig 65536 16 (num 65536 a % Go.Fp.P) == Ys) = decide (nf a = 0):=by
 have hz:Ys = dig 65536 16 0:=by decide
 have h1:=Jj (num 65536 a) Qij
 have h2:=Qn8
 rw [hz,Qns (by omega) (by omega)]
 by_cases h:nf a = 0
 ·rw [decide_eq_true h,decide_eq_true (T2.1 h)]
 ·rw [decide_eq_false h,decide_eq_false (fun e => h (T2.2 e))]
theorem Qoy {a:List Nat} (ha:Nm a):∃ r,Vd T 74 [eV a] = some (eV r) ∧ Nm r ∧ nf r = -nf a:=by
 have hc:=D8 ha
 have hq:=Qiz a
 have h1:=Jj (num 65536 a) Qij
 have hPl:=Qn8
 have hC:=Nm.dig (num 65536 a % Go.Fp.P)
 have hCn:=Gv (v:=num 65536 a % Go.Fp.P) (by omega)
 have hp:=Ts
 have hm:=Qga G7 hC (by rw [hCn,D9]; omega)
 have lP:=G7.len
 have lC:=hC.len
 have la:=ha.len
 have hz:=Ga
 have lz:=Bh
 have hf:=Rj
 rw [hCn,D9] at hm
 have hceq:=Qkb lC lz
 rw [hq] at hceq
 by_cases h:nf a = 0
 ·rw [decide_eq_true h] at hceq
  refine ⟨dig 65536 16 (num 65536 a % Go.Fp.P),?_,hC,?_⟩
  ·generalize dig 65536 16 (num 65536 a % Go.Fp.P) = C at *
   generalize Ys = Z at *
   apply Xg
   apply Zt
   rw [Jb (fn:=a73) rfl]
   simp only [a73,↓Zr,Z0,quiet,cF,↓pF,reduceCtorEq,Qb,Qp,Zh,Zf,Zg,Ze,Zc,Qj,Q3,Qi,Q2,Q6,Q5,↓Zu,↓Zm,↓Z5,↓Z9,↓Z6,↓Z7,cL,Qo,Qn,Qx,Qw,Qu,Ql,Qk,Qv,Qd,Qz,Q0,Qq,Qf,Qh,Qg,Qt,Qs,Qr,Qm,Qe,cJ,hz,hf,hc,hceq,Zd,Xd,Jv,Xs,Vm,Xt,J0,la,lC,lz,Vl]
   rfl
  ·unfold nf
   rw [hCn,Go.Fp.Hn]
   show nf a = - nf a
   rw [h]; grobner
 ·rw [decide_eq_false h] at hceq
  have hR:=Nm.dig (Go.Fp.P - num 65536 a % Go.Fp.P)
  have hRn:=Gv (v:=Go.Fp.P - num 65536 a % Go.Fp.P) (by omega)
  refine ⟨dig 65536 16 (Go.Fp.P - num 65536 a % Go.Fp.P),?_,hR,?_⟩
  ·have lR:=hR.len
   generalize dig 65536 16 (num 65536 a % Go.Fp.P) = C at *
   generalize dig 65536 16 (Go.Fp.P - num 65536 a % Go.Fp.P) = R at *
   generalize Bx = PL at *
   generalize Ys = Z at *
   apply Xg
   apply Zt
   rw [Jb (fn:=a73) rfl]
   simp only [a73,↓Zr,Z0,quiet,cF,↓pF,reduceCtorEq,Qb,Qp,Zh,Zf,Zg,Ze,Zc,Qj,Q3,Qi,Q2,Q6,Q5,↓Zu,↓Zm,↓Z5,↓Z9,↓Z6,↓Z7,cL,Qo,Qn,Qx,Qw,Qu,Ql,Qk,Qv,Qd,Qz,Q0,Qq,Qf,Qh,Qg,Qt,Qs,Qr,Qm,Qe,cJ,hz,hf,hc,hceq,hp,hm,Zd,Xd,Jv,Xs,Vm,Xt,J0,la,lC,lR,lP,lz,Vl]
   rfl
  ·show Go.Fp.fp (num 65536 _) = _
   rw [hRn,Go.Fp.Qxq (by omega),Go.Fp.Hn,Go.Fp.Q54]
   exact Qno _
theorem Qkj {a b:List Nat} (ha:Nm a) (hb:Nm b):∃ r,Vd T 72 [eV a,eV b] = some (eV r) ∧ Nm r ∧ nf r = nf a - nf b:=by
 obtain ⟨n,hn,hN,hnf⟩:=Qoy hb
 obtain ⟨r,hr,hR,hrf⟩:=Qeb ha hN
 refine ⟨r,?_,hR,by rw [hrf,hnf,Qp3]⟩
 have hz:=Ga
 have lz:=Bh
 have la:=ha.len
 have lb:=hb.len
 have lr:=hR.len
 generalize Ys = Z at *
 apply Xg
 apply Zt
 rw [Jb (fn:=a69) rfl]
 simp only [a69,↓Zr,Z0,quiet,cF,↓pF,reduceCtorEq,Qb,Qp,Zh,Zf,Zg,Ze,Zc,Qj,Q3,Qi,Q2,Q6,Q5,↓Zu,↓Zm,↓Z5,↓Z9,↓Z6,↓Z7,cL,Qo,Qn,Qx,Qw,Qu,Ql,Qk,Qv,Qd,Qz,Q0,Qq,Qf,Qh,Qg,Qt,Qs,Qr,Qm,Qe,cJ,hz,hn,hr,Zd,Xd,Jv,Xs,Vm,Xt,J0,la,lb,lr,lz,Vl]
 rfl
def Qlj (a b d:List Nat) (i k:Int) (ex:Env):St:=⟨[(2,.pointer (some ⟨0,0,none⟩)),(3,.pointer (some ⟨1,0,none⟩)),(4,.pointer (some ⟨2,0,none⟩)),(5,.pointer (some ⟨3,0,none⟩)),(6,.int .i64 i),(7,.int .i64 k)] ++ ex,[⟨ns .u64 a,true,true,true,1⟩,⟨ns .u64 b,true,true,true,1⟩,⟨ns .u64 Ys,true,true,true,1⟩,⟨ns .u64 d,true,true,true,1⟩],[]⟩
theorem Qoz {a b d:List Nat} {i x S:Nat} (ha:Nm a) (hb:Nm b) (hi:i < 16) (hx:a[i]? = some x) (hd:d.length = 32) (hM:∀ x ∈ d,x ≤ S * 4294967296) (hS:S ≤ 256) :
  ∃ d',Jk T 0 (.block 2 (.loop Qhx)) (Qlj a b d i 0 []) = some (.normal,Qlj a b d' i 16 [(13,.bool false)]) ∧ d'.length = 32 ∧ (∀ x ∈ d',x ≤ (S + 16) * 4294967296) ∧ num 65536 d' = num 65536 d + x * num 65536 b * 65536 ^ i:=by
 have hx':=ha.lt x (Zk hx)
 obtain ⟨st,hl,d',rfl,h2,h3,h4⟩:=Vi (T:=T) (base:=0) (id:=2) (body:=Qhx)
  (fun k st => ∃ d':List Nat,st = Qlj a b d' i k [] ∧ d'.length = 32 ∧ (∀ x ∈ d',x ≤ (S + k) * 4294967296) ∧ num 65536 d' = num 65536 d + x * num 65536 (b.take k) * 65536 ^ i)
  (Q:=fun st => ∃ d':List Nat,st = Qlj a b d' i 16 [(13,.bool false)] ∧ d'.length = 32 ∧ (∀ x ∈ d',x ≤ (S + 16) * 4294967296) ∧ num 65536 d' = num 65536 d + x * num 65536 b * 65536 ^ i)
  16 (s:=Qlj a b d i 0 []) ⟨d,rfl,hd,by simpa using hM,by simp [num]⟩
  (fun k st hk hs => by
   obtain ⟨d',rfl,h2,h3,h4⟩:=hs
   obtain ⟨y,hy⟩:∃ y,b[k]? = some y:=⟨_,Q1 (by rw [hb.len]; omega)⟩
   obtain ⟨v,hv⟩:∃ y,d'[i + k]? = some y:=⟨_,Q1 (by omega)⟩
   have hy':=hb.lt y (Zk hy)
   have hv':=h3 v (Zk hv)
   have hxy:x * y ≤ 65535 * 65535:=Wg (by omega) (by omega)
   have hxc:=Yo (k := .u64) hx
   have hyc:=Yo (k := .u64) hy
   have hvc:=Yo (k := .u64) hv
   have l1:=ha.len
   have l2:=hb.len
   have e1:((k:Int) < 16) = True:=eq_true (by omega)
   have e3:((i:Int) < 16) = True:=eq_true (by omega)
   have w1:IntKind.i64.wrap ((k:Int) + 1) = ((k + 1:Nat):Int):=Y0 (b:=1) (by omega)
   have w2:IntKind.i64.wrap ((i:Int) + (k:Int)) = ((i + k:Nat):Int):=Y0 (by omega)
   have w5:IntKind.u64.wrap ((x:Int) * (y:Int)) = ((x * y:Nat):Int):=Rz (by omega)
   have w6:IntKind.u64.wrap ((v:Int) + ((x * y:Nat):Int)) = ((v + x * y:Nat):Int):=Ds (by omega)
   have hset:=Uw .u64 d' (i + k) (v + x * y)
   have hn:=Ge (B:=65536) (v + x * y) hv
   refine ⟨Qlj a b (d'.set (i + k) (v + x * y)) i ((k + 1:Nat):Int) [],?_,d'.set (i + k) (v + x * y),rfl,by rw [Xe]; exact h2,?_,?_⟩
   ·have e5:(((i + k:Nat):Int) < 32) = True:=eq_true (by omega)
    have e7:(i + k ≤ 31) = True:=eq_true (by omega)
    generalize d'.set (i + k) (v + x * y) = D' at *
    generalize v + x * y = u at *
    generalize x * y = xy at *
    generalize i + k = j at *
    generalize k + 1 = k1 at *
    simp only [Qlj,Qhx,Z0,quiet,cF,↓pF,reduceCtorEq,Qb,Qp,Zh,Zf,Zg,Ze,Zc,Qj,Q3,Qi,Q2,Q6,Q5,↓Zo,↓Zn,↓Zw,↓Zz,↓Zx,↓Zy,cL,Qo,Qn,Qx,Qw,Qu,Ql,Qk,Qv,Qd,Qz,Q0,Qq,Qf,Qh,Qg,Qt,Qs,Qr,Qm,Qe,cJ,e1,e3,e5,e7,w1,w2,w5,w6,hxc,hyc,hvc,hset,J0,h2,l1,l2]
   ·intro z hz
    rcases Hq hz with h | h
    ·exact Un (h3 z h) (Vt _ (Nat.le_succ _))
    ·omega
   ·rw [Wo hy]
    have e8:(v + x * y) * 65536 ^ (i + k) = v * 65536 ^ (i + k) + x * y * 65536 ^ k * 65536 ^ i:=by
     rw [Kt,Vo (x * y),← Wl,B4 k i]
    rw [Ha,Kt,← Vo x y]
    omega)
  (fun st hs => by
   obtain ⟨d',rfl,h2,h3,h4⟩:=hs
   rw [Zl (by rw [hb.len]; omega)] at h4
   refine ⟨_,?_,d',rfl,h2,h3,h4⟩
   simp only [Qlj,Qhx,Z0,quiet,cF,↓pF,reduceCtorEq,Qb,Qp,Zh,Zf,Zg,Ze,Zc,Qj,Q3,Qi,Q2,Q6,Q5,↓Zo,↓Zn,↓Zw,↓Zz,↓Zx,↓Zy,cL,Qo,Qn,Qx,Qw,Qu,Ql,Qk,Qv,Qd,Qz,Q0,Qq,Qf,Qh,Qg,Qt,Qs,Qr,Qm,Qe])
 exact ⟨d',hl,h2,h3,h4⟩
theorem Qo0 {a b:List Nat} (ha:Nm a) (hb:Nm b) :
  ∃ d,Jk T 0 (.block 0 (.loop Qhw)) (abI a b D0 0 []) = some (.normal,abI a b d 16 [(9,.bool false)]) ∧ d.length = 32 ∧ (∀ x ∈ d,x < 2 ^ 44) ∧ num 65536 d = num 65536 a * num 65536 b:=by
 obtain ⟨st,hl,o,rfl,h1,h2,h3⟩:=Vi (T:=T) (base:=0) (id:=0) (body:=Qhw)
  (fun i st => ∃ (o:List Nat) (ex:Env),st = abI a b o i ex ∧ o.length = 32 ∧ (∀ x ∈ o,x ≤ (i * 16) * 4294967296) ∧ num 65536 o = num 65536 (a.take i) * num 65536 b)
  (Q:=fun st => ∃ o:List Nat,st = abI a b o 16 [(9,.bool false)] ∧ o.length = 32 ∧ (∀ x ∈ o,x < 2 ^ 44) ∧ num 65536 o = num 65536 a * num 65536 b)
  16 (s:=abI a b D0 0 []) ⟨D0,[],rfl,rfl,by decide,by simp [num]; decide⟩
  (fun i st hi hs => by
   obtain ⟨o,ex,rfl,h1,h2,h3⟩:=hs
   obtain ⟨x,hx⟩:∃ x,a[i]? = some x:=⟨_,Q1 (by rw [ha.len]; omega)⟩
   obtain ⟨d',hb',g1,g2,g3⟩:=Qoz ha hb hi hx h1 h2 (by omega)
   simp only [Qlj,Zb,Za,Xu] at hb'
   have w1:IntKind.i64.wrap ((i:Int) + 1) = ((i + 1:Nat):Int):=Y0 (b:=1) (by omega)
   have e1:((i:Int) < 16) = True:=eq_true (by omega)
   refine ⟨abI a b d' ((i + 1:Nat):Int) [],?_,d',[],rfl,g1,?_,?_⟩
   ·simp only [abI,Qhw,Z0,quiet,cF,↓pF,reduceCtorEq,Qb,Qp,Zh,Zf,Zg,Ze,Zc,Qj,Q3,Qi,Q2,Q6,Q5,↓Zo,↓Zn,↓Zw,↓Zz,↓Zx,↓Zy,cL,Qo,Qn,Qx,Qw,Qu,Ql,Qk,Qv,Qd,Qz,Q0,Qq,Qf,Qh,Qg,Qt,Qs,Qr,Qm,Qe,cJ,e1,w1,hb']
   ·intro z hz
    exact Un (g2 z hz) (Vt _ (by omega))
   ·rw [g3,h3,Wo hx,Kt,Vo,Vo,K6 (num 65536 b) (65536 ^ i)])
  (fun st hs => by
   obtain ⟨o,ex,rfl,h1,h2,h3⟩:=hs
   rw [Zl (by rw [ha.len]; omega)] at h3
   refine ⟨_,?_,o,rfl,h1,fun x hx => Wk (h2 x hx) (by decide),h3⟩
   simp only [abI,Qhw,Z0,quiet,cF,↓pF,reduceCtorEq,Qb,Qp,Zh,Zf,Zg,Ze,Zc,Qj,Q3,Qi,Q2,Q6,Q5,↓Zo,↓Zn,↓Zw,↓Zz,↓Zx,↓Zy,cL,Qo,Qn,Qx,Qw,Qu,Ql,Qk,Qv,Qd,Qz,Q0,Qq,Qf,Qh,Qg,Qt,Qs,Qr,Qm,Qe])
 exact ⟨o,hl,h1,h2,h3⟩
theorem U3 {a b:List Nat} (ha:Nm a) (hb:Nm b):∃ r,Vd T 57 [eV a,eV b] = some (eV r) ∧ Nm r ∧ nf r = nf a * nf b:=by
 obtain ⟨d,hd,l1,h2,h3⟩:=Qo0 ha hb
 have hal:=ha.num_lt
 have hbl:=hb.num_lt
 obtain ⟨r,hr,hN,hf⟩:=Qqx l1 h2 (by
  rw [h3]
  have e:(65536:Nat) ^ 32 = 2 ^ 256 * 2 ^ 256:=by decide
  rw [e]
  exact Qob hal hbl)
 refine ⟨r,?_,hN,by rw [hf,h3,Go.Fp.U0]; rfl⟩
 simp only [abI,Zb,Za,Xu] at hd
 have hz:=Ga
 have lz:=Bh
 have hz2:=Qqo
 have lz2:=Qlr
 have la:=ha.len
 have lb:=hb.len
 have lr:=hN.len
 generalize Ys = Z at *
 generalize D0 = Z2 at *
 apply Xg
 apply Zt
 rw [Jb (fn:=a67) rfl]
 simp only [a67,↓Zr,Z0,quiet,cF,↓pF,reduceCtorEq,Qb,Qp,Zh,Zf,Zg,Ze,Zc,Qj,Q3,Qi,Q2,Q6,Q5,↓Zu,↓Zm,↓Z5,↓Z9,↓Z6,↓Z7,cL,Qo,Qn,Qx,Qw,Qu,Ql,Qk,Qv,Qd,Qz,Q0,Qq,Qf,Qh,Qg,Qt,Qs,Qr,Qm,Qe,cJ,hz,hz2,hd,hr,Zd,Xd,Jv,Xs,Vm,Xt,J0,la,lb,l1,lr,lz,lz2,Vl]
 rfl
end Go.Ev.YtgacigcbglflkaaGreat
set_option linter.unusedSimpArgs false
set_option linter.unusedVariables false
namespace Go.Ev.YtgacigcbglflkaaGreat
open Go Go.Ev
attribute [local congr] W7 Ul W6 Um Ww
set_option maxRecDepth 100000
def rpH (a n o:List Nat):List Ob:=[⟨ns .u64 a,true,true,true,1⟩,⟨ns .u64 n,true,true,true,1⟩,⟨ns .u64 Ys,true,true,true,1⟩,⟨ns .u64 o,true,true,true,1⟩]
def rpI (a n o:List Nat) (i:Int) (ex:Env):St:=⟨[(2,.pointer (some ⟨0,0,none⟩)),(3,.pointer (some ⟨1,0,none⟩)),(4,.pointer (some ⟨2,0,none⟩)),(5,.pointer (some ⟨3,0,none⟩)),(6,.int .i64 i)] ++ ex,rpH a n o,[]⟩
def rbI (a n o:List Nat) (i:Int) (w k:Nat) (ex:Env):St:=⟨[(2,.pointer (some ⟨0,0,none⟩)),(3,.pointer (some ⟨1,0,none⟩)),(4,.pointer (some ⟨2,0,none⟩)),(5,.pointer (some ⟨3,0,none⟩)),(6,.int .i64 i),(7,.int .u64 w),(8,.int .i64 k)] ++ ex,rpH a n o,[]⟩
theorem Qvo {a n o:List Nat} {i w:Nat} (hi:i < 256) (hw:w < 65536) :
  Jk T 0 (.block 2 (.loop Qhn)) (rbI a n o i w 0 []) = some (.normal,rbI a n o i (w / 2 ^ (i % 16)) (i % 16) [(24,.bool false)]):=by
 have e3:(i:Int).tmod 16 = ((i % 16:Nat):Int):=rfl
 have h:=Wc (T:=T) (base:=0) (id:=2) (body:=Qhn) (fun k => rbI a n o i (w / 2 ^ k) k []) (s':=rbI a n o i (w / 2 ^ (i % 16)) (i % 16) [(24,.bool false)]) (i % 16)
  (fun k hk => by
   have h16:=Jj i (by decide:0 < 16)
   have e1:((k:Int) < ((i % 16:Nat):Int)) = True:=eq_true (by omega)
   have w1:IntKind.i64.wrap ((k:Int) + 1) = ((k + 1:Nat):Int):=Y0 (b:=1) (by omega)
   have hle:w / 2 ^ k ≤ w:=W8 _ _
   have w2:IntKind.u64.wrap (((w / 2 ^ k:Nat):Int).tdiv 2) = ((w / 2 ^ k / 2:Nat):Int):=D2 (n:=w / 2 ^ k / 2) (by omega)
   rw [Kp,← X9]
   generalize w / 2 ^ k = v at *
   generalize v / 2 = u at *
   generalize i % 16 = m at *
   simp only [rbI,rpH,Qhn,Z0,quiet,cF,↓pF,reduceCtorEq,Qb,Qp,Zh,Zf,Zg,Ze,Zc,Qj,Q3,Qi,Q2,Q6,Q5,↓Zo,↓Zn,↓Zw,↓Zz,↓Zx,↓Zy,cL,Qo,Qn,Qx,Qw,Qu,Ql,Qk,Qv,Qd,Qz,Q0,Qq,Qf,Qh,Qg,Qt,Qs,Qr,Qm,Qe,cJ,e1,e3,w1,w2])
  (by
   generalize w / 2 ^ (i % 16) = v at *
   generalize i % 16 = m at *
   simp only [rbI,rpH,Qhn,Z0,quiet,cF,↓pF,reduceCtorEq,Qb,Qp,Zh,Zf,Zg,Ze,Zc,Qj,Q3,Qi,Q2,Q6,Q5,↓Zo,↓Zn,↓Zw,↓Zz,↓Zx,↓Zy,cL,Qo,Qn,Qx,Qw,Qu,Ql,Qk,Qv,Qd,Qz,Q0,Qq,Qf,Qh,Qg,Qt,Qs,Qr,Qm,Qe,cJ,e3])
 rw [Ya,Wi] at h
 exact h
theorem Qzh {a n o:List Nat} {i:Nat} {ex:Env} (ha:Nm a) (hn:Nm n) (hi:i < 256) (ho:Nm o) (hp:nf o = Go.Fp.pow (nf a) (num 65536 n / 2 ^ (i + 1))) :
  ∃ r ex',Jk T 0 Qeq (rpI a n o i ex) = some (.normal,rpI a n r ((i:Int) - 1) ex') ∧ Nm r ∧ nf r = Go.Fp.pow (nf a) (num 65536 n / 2 ^ i):=by
 obtain ⟨w,hw⟩:∃ w,n[i / 16]? = some w:=⟨_,Q1 (by rw [hn.len]; omega)⟩
 have hw':=hn.lt w (Zk hw)
 have hwv:=Bu (B:=65536) (by decide) hn.lt hw
 have hwc:=Yo (k := .u64) hw
 have hbit:w / 2 ^ (i % 16) % 2 = num 65536 n / 2 ^ i % 2:=by
  rw [← hwv,show (65536:Nat) = 2 ^ 16 from rfl,Qj6 (Jj _ (by decide)),Vr]
 obtain ⟨r1,m1,g1,g2⟩:=U3 ho ho
 obtain ⟨r2,m2,g3,g4⟩:=U3 g1 ha
 have hlt:=Qac (num 65536 n) i
 have hnum:num 65536 n / 2 ^ i = 2 * (num 65536 n / 2 ^ (i + 1)) + num 65536 n / 2 ^ i % 2:=by
  rw [Kp,← X9]
  omega
 have hstep:=Qmp (nf a) (num 65536 n / 2 ^ (i + 1)) (num 65536 n / 2 ^ i % 2) hlt
 rw [← hnum,← hp] at hstep
 have hb:=Qvo (a:=a) (n:=n) (o:=r1) hi hw'
 simp only [rbI,rpH,Zb,Za,Xu] at hb
 have w2:IntKind.i64.wrap ((i:Int).tdiv 16) = ((i / 16:Nat):Int):=wn (n:=i / 16) (by omega)
 have w3:IntKind.i64.wrap ((i:Int) - 1) = (i:Int) - 1:=K7 (by omega) (by omega)
 have w4:((w / 2 ^ (i % 16):Nat):Int).tmod 2 = ((w / 2 ^ (i % 16) % 2:Nat):Int):=rfl
 have e1:((0:Int) ≤ (i:Int)) = True:=eq_true (by omega)
 have e3:(((i / 16:Nat):Int) < 16) = True:=eq_true (by omega)
 have l0:=ha.len
 have l1:=hn.len
 have l2:=ho.len
 have l3:=g1.len
 have l4:=g3.len
 rw [hbit] at w4
 generalize hB:num 65536 n / 2 ^ i % 2 = B at *
 generalize w / 2 ^ (i % 16) = wv at *
 by_cases hB1:B = 1
 ·have hbq:((B:Int) == 1) = true:=by rw [hB1]; rfl
  rw [if_pos hB1] at hstep
  refine ⟨r2,[],?_,g3,by rw [hstep,g4,g2]⟩
  simp only [rpI,rpH,Qeq,Z0,quiet,cF,↓pF,reduceCtorEq,Qb,Qp,Zh,Zf,Zg,Ze,Zc,Qj,Q3,Qi,Q2,Q6,Q5,↓Zo,↓Zn,↓Zw,↓Zz,↓Zx,↓Zy,cL,Qo,Qn,Qx,Qw,Qu,Ql,Qk,Qv,Qd,Qz,Q0,Qq,Qf,Qh,Qg,Qt,Qs,Qr,Qm,Qe,cJ,hwc,hb,w2,w3,w4,e1,e3,m1,m2,hbq,Jv,Xs,Vm,Xt,J0,Xd,l0,l1,l2,l3,l4,Vl]
 ·have hbq:((B:Int) == 1) = false:=by
   have:B = 0:=by omega
   rw [this]; rfl
  rw [if_neg hB1] at hstep
  refine ⟨r1,[],?_,g1,by rw [hstep,g2]⟩
  simp only [rpI,rpH,Qeq,Z0,quiet,cF,↓pF,reduceCtorEq,Qb,Qp,Zh,Zf,Zg,Ze,Zc,Qj,Q3,Qi,Q2,Q6,Q5,↓Zo,↓Zn,↓Zw,↓Zz,↓Zx,↓Zy,cL,Qo,Qn,Qx,Qw,Qu,Ql,Qk,Qv,Qd,Qz,Q0,Qq,Qf,Qh,Qg,Qt,Qs,Qr,Qm,Qe,cJ,hwc,hb,w2,w3,w4,e1,e3,m1,m2,hbq,Jv,Xs,Vm,Xt,J0,Xd,l0,l1,l2,l3,l4,Vl]
theorem Qkk:nf (Ws 1) = 1:=by unfold nf; rw [Gg (by decide)]; rfl
theorem Qf9 {a n:List Nat} (ha:Nm a) (hn:Nm n):∃ r,Vd T 91 [eV a,eV n] = some (eV r) ∧ Nm r ∧ nf r = Go.Fp.pow (nf a) (num 65536 n):=by
 have hK:=hn.num_lt
 obtain ⟨st,hb,r,rfl,hr1,hr2⟩:=Vi (T:=T) (base:=0) (id:=0) (body:=Qeq)
  (fun j st => ∃ (r:List Nat) (ex:Env),st = rpI a n r ((255:Int) - j) ex ∧ Nm r ∧ nf r = Go.Fp.pow (nf a) (num 65536 n / 2 ^ (256 - j)))
  (Q:=fun st => ∃ r:List Nat,st = rpI a n r (-1) [(11,.bool false)] ∧ Nm r ∧ nf r = Go.Fp.pow (nf a) (num 65536 n))
  256 (s:=rpI a n (Ws 1) 255 []) ⟨_,[],rfl,Bl 1,by rw [Qkk,Xw,W0 hK]; rfl⟩
  (fun j st hj hs => by
   obtain ⟨r,ex,rfl,h1,h2⟩:=hs
   obtain ⟨i,hi⟩:∃ i,256 - j = i + 1:=⟨255 - j,by omega⟩
   rw [hi] at h2
   obtain ⟨r',ex',g1,g2,g3⟩:=Qzh (ex:=ex) ha hn (i:=i) (by omega) h1 h2
   rw [show (255:Int) - j = (i:Int) by omega]
   refine ⟨_,g1,r',ex',?_,g2,?_⟩
   ·rw [show (255:Int) - ((j + 1:Nat):Int) = (i:Int) - 1 by omega]
   ·rw [show 256 - (j + 1) = i by omega]; exact g3)
  (fun st hs => by
   obtain ⟨r,ex,rfl,h1,h2⟩:=hs
   rw [K9,Ya,Wi] at h2
   have e:((0:Int) ≤ -1) = False:=by decide
   refine ⟨_,?_,r,rfl,h1,h2⟩
   rw [show (255:Int) - ((256:Nat):Int) = -1 by omega]
   simp only [rpI,rpH,Qeq,Z0,quiet,cF,↓pF,reduceCtorEq,Qb,Qp,Zh,Zf,Zg,Ze,Zc,Qj,Q3,Qi,Q2,Q6,Q5,↓Zo,↓Zn,↓Zw,↓Zz,↓Zx,↓Zy,cL,Qo,Qn,Qx,Qw,Qu,Ql,Qk,Qv,Qd,Qz,Q0,Qq,Qf,Qh,Qg,Qt,Qs,Qr,Qm,Qe,e])
 refine ⟨r,?_,hr1,hr2⟩
 have hs:=Hh 1 (by decide)
 have ls:=(Bl 1).len
 have hz:=Ga
 have lz:=Bh
 have la:=ha.len
 have ln:=hn.len
 have lr:=hr1.len
 simp only [B0] at hs
 simp only [rpI,rpH,Zb,Za] at hb
 generalize Ys = Z at *
 generalize Ws 1 = S at *
 apply Xg
 apply Zt
 rw [Jb (fn:=a88) rfl]
 simp only [a88,↓Zr,Z0,quiet,cF,↓pF,reduceCtorEq,Qb,Qp,Zh,Zf,Zg,Ze,Zc,Qj,Q3,Qi,Q2,Q6,Q5,↓Zu,↓Zm,↓Z5,↓Z9,↓Z6,↓Z7,cL,Qo,Qn,Qx,Qw,Qu,Ql,Qk,Qv,Qd,Qz,Q0,Qq,Qf,Qh,Qg,Qt,Qs,Qr,Qm,Qe,cJ,hz,hs,hb,Zd,Xd,Jv,Xs,Vm,Xt,J0,la,ln,lr,ls,lz,Vl]
 rfl
theorem Qao {a:List Nat} (ha:Nm a):∃ r,Vd T 55 [eV a] = some (eV r) ∧ Nm r ∧ nf r = Go.Fp.iv (nf a):=by
 have hp:=Ts
 have hs:=Hh 2 (by decide)
 have hm:=Qga G7 (Bl 2) (by rw [D9,Gg (by decide)]; decide)
 rw [D9,Gg (by decide)] at hm
 have hN:=Nm.dig (Go.Fp.P - 2)
 have hn:=Gv (v:=Go.Fp.P - 2) (by decide)
 obtain ⟨r,hr,h1,h2⟩:=Qf9 ha hN
 rw [hn] at h2
 refine ⟨r,?_,h1,h2⟩
 have hz:=Ga
 have lz:=Bh
 have la:=ha.len
 have lp:=G7.len
 have ls:=(Bl 2).len
 have lm:=hN.len
 have lr:=h1.len
 simp only [Wx] at hs
 generalize Ys = Z at *
 generalize Bx = PL at *
 generalize Ws 2 = S at *
 generalize dig 65536 16 (Go.Fp.P - 2) = E at *
 apply Xg
 apply Zt
 rw [Jb (fn:=a71) rfl]
 simp only [a71,↓Zr,Z0,quiet,cF,↓pF,reduceCtorEq,Qb,Qp,Zh,Zf,Zg,Ze,Zc,Qj,Q3,Qi,Q2,Q6,Q5,↓Zu,↓Zm,↓Z5,↓Z9,↓Z6,↓Z7,cL,Qo,Qn,Qx,Qw,Qu,Ql,Qk,Qv,Qd,Qz,Q0,Qq,Qf,Qh,Qg,Qt,Qs,Qr,Qm,Qe,cJ,hz,hp,hs,hm,hr,Zd,Xd,Jv,Xs,Vm,Xt,J0,la,lp,ls,lm,lr,lz,Vl]
 rfl
theorem d_eq : -(Go.Fp.fp 121665) * Go.Fp.iv (Go.Fp.fp 121666) = Go.Fp.d:=by
 have h0:Go.Fp.fp 121666 ≠ 0:=by decide +kernel
 have h1:=Go.Fp.T4 h0
 have h2:Go.Fp.fp 121666 * Go.Fp.d = - Go.Fp.fp 121665:=by decide +kernel
 refine Go.Fp.fld.cancel h0 ?_
 rw [h2]
 generalize Go.Fp.iv (Go.Fp.fp 121666) = y at *
 generalize Go.Fp.fp 121666 = x at *
 generalize Go.Fp.fp 121665 = z at *
 clear h0 h2
 grobner
theorem Q43:∃ r,Vd T 34 [] = some (eV r) ∧ Nm r ∧ nf r = Go.Fp.d:=by
 have s1:=Hh 121665 (by decide)
 have s2:=Hh 121666 (by decide)
 obtain ⟨n,hn,n1,n2⟩:=Qoy (Bl 121665)
 obtain ⟨v,hv,v1,v2⟩:=Qao (Bl 121666)
 obtain ⟨r,hr,r1,r2⟩:=U3 n1 v1
 refine ⟨r,?_,r1,?_⟩
 ·have hz:=Ga
  have lz:=Bh
  have lr:=r1.len
  simp only [Wx] at s1 s2
  generalize Ys = Z at *
  generalize Ws 121665 = S1 at *
  generalize Ws 121666 = S2 at *
  apply Xg
  apply Zt
  rw [Jb (fn:=a36) rfl]
  simp only [a36,↓Zr,Z0,quiet,cF,↓pF,reduceCtorEq,Qb,Qp,Zh,Zf,Zg,Ze,Zc,Qj,Q3,Qi,Q2,Q6,Q5,↓Zu,↓Zm,↓Z5,↓Z9,↓Z6,↓Z7,cL,Qo,Qn,Qx,Qw,Qu,Ql,Qk,Qv,Qd,Qz,Q0,Qq,Qf,Qh,Qg,Qt,Qs,Qr,Qm,Qe,cJ,hz,s1,s2,hn,hv,hr,Zd,Xd,Jv,Xs,Vm,Xt,J0,lr,lz,Vl]
  rfl
 ·have e1:nf (Ws 121665) = Go.Fp.fp 121665:=by unfold nf; rw [Gg (by decide)]
  have e2:nf (Ws 121666) = Go.Fp.fp 121666:=by unfold nf; rw [Gg (by decide)]
  rw [r2,n2,v2,e1,e2,d_eq]
theorem six (l:List Nat) (h:l.length = 16):∃ a0 a1 a2 a3 a4 a5 a6 a7 a8 a9 a10 a11 a12 a13 a14 a15,l = [a0,a1,a2,a3,a4,a5,a6,a7,a8,a9,a10,a11,a12,a13,a14,a15]:=by
 match l,h with
 | [a0,a1,a2,a3,a4,a5,a6,a7,a8,a9,a10,a11,a12,a13,a14,a15],_ => exact ⟨a0,a1,a2,a3,a4,a5,a6,a7,a8,a9,a10,a11,a12,a13,a14,a15,rfl⟩
def tL (x y z:List Nat):List Nat:=x ++ (y ++ z)
theorem Tp {x y z:List Nat} (hx:x.length = 16) (hy:y.length = 16) (hz:z.length = 16):(tL x y z).length = 48:=by simp [tL,hx,hy,hz]
theorem tri {x y z:List Nat} (hx:x.length = 16) (hy:y.length = 16) (hz:z.length = 16) :
  Wn 16 (ns .u64 (tL x y z)) = ns .u64 x ∧ Wn 16 (Bz 16 (ns .u64 (tL x y z))) = ns .u64 y ∧ Wn 16 (Bz 32 (ns .u64 (tL x y z))) = ns .u64 z:=by
 obtain ⟨a0,a1,a2,a3,a4,a5,a6,a7,a8,a9,a10,a11,a12,a13,a14,a15,rfl⟩:=six _ hx
 obtain ⟨b0,b1,b2,b3,b4,b5,b6,b7,b8,b9,b10,b11,b12,b13,b14,b15,rfl⟩:=six _ hy
 obtain ⟨c0,c1,c2,c3,c4,c5,c6,c7,c8,c9,c10,c11,c12,c13,c14,c15,rfl⟩:=six _ hz
 exact ⟨rfl,rfl,rfl⟩
def B2:List Nat:=Qa 48 0
theorem Qdw:Qa 48 (Value.int .u64 0) = ns .u64 B2:=rfl
theorem Qag:B2.length = 48:=rfl
theorem Qxv {x y z:List Nat} (hx:x.length = 16) (hy:y.length = 16) (hz:z.length = 16):fillL (ns .u64 B2) [(0,16,eV x),(16,16,eV y),(32,16,eV z)] = some (ns .u64 (tL x y z)):=by
 obtain ⟨a0,a1,a2,a3,a4,a5,a6,a7,a8,a9,a10,a11,a12,a13,a14,a15,rfl⟩:=six _ hx
 obtain ⟨b0,b1,b2,b3,b4,b5,b6,b7,b8,b9,b10,b11,b12,b13,b14,b15,rfl⟩:=six _ hy
 obtain ⟨c0,c1,c2,c3,c4,c5,c6,c7,c8,c9,c10,c11,c12,c13,c14,c15,rfl⟩:=six _ hz
 rfl
theorem Q55 {y z:List Nat} (hy:y.length = 16) (hz:z.length = 16):fillL (ns .u64 B2) [(16,16,eV y),(32,16,eV z)] = some (ns .u64 (tL Ys y z)):=by
 obtain ⟨b0,b1,b2,b3,b4,b5,b6,b7,b8,b9,b10,b11,b12,b13,b14,b15,rfl⟩:=six _ hy
 obtain ⟨c0,c1,c2,c3,c4,c5,c6,c7,c8,c9,c10,c11,c12,c13,c14,c15,rfl⟩:=six _ hz
 rfl
structure RRep (x y z:List Nat) (p:Go.Cv.Pt Go.Fp.P Go.Fp.d):Prop where
 nx:Nm x
 ny:Nm y
 nz:Nm z
 ne:nf z ≠ 0
 x:nf x = p.x * nf z
 y:nf y = p.y * nf z
def RP (l:List Nat) (p:Go.Cv.Pt Go.Fp.P Go.Fp.d):Prop:=∃ x y z,l = tL x y z ∧ RRep x y z p
theorem RP.len {l:List Nat} {p:Go.Cv.Pt Go.Fp.P Go.Fp.d} (h:RP l p):l.length = 48:=by
 obtain ⟨x,y,z,rfl,h⟩:=h
 exact Tp h.nx.len h.ny.len h.nz.len
theorem fe_m1 (b D:Go.Fp.Fe):b - D * b = b * (1 - D):=by grobner
theorem fe_m2 (b D:Go.Fp.Fe):b + D * b = b * (1 + D):=by grobner
theorem sum_x {s D N a b m q w:Go.Fp.Fe} (hs:s * (1 + D) = N) (hb:b = a * a)
  (hm:m = b - D * b) (hq:q = b + D * b) (hw:w = N * a):a * m * w = s * (m * q):=by
 subst hw hm hq hb
 rw [← hs]
 clear hs
 grobner
theorem sum_y {s D N a b m q:Go.Fp.Fe} (hs:s * (1 - D) = N) (hb:b = a * a)
  (hm:m = b - D * b) (hq:q = b + D * b):a * q * (N * a) = s * (m * q):=by
 subst hm hq hb
 rw [← hs]
 clear hs
 grobner
theorem Qvp {x1 y1 z1 x2 y2 z2:Go.Fp.Fe} {p q:Go.Cv.Pt Go.Fp.P Go.Fp.d} (n1:z1 ≠ 0) (n2:z2 ≠ 0) (hx1:x1 = p.x * z1) (hy1:y1 = p.y * z1) (hx2:x2 = q.x * z2) (hy2:y2 = q.y * z2)
  {a b c e g m u w:Go.Fp.Fe} (ha:a = z1 * z2) (hb:b = a * a) (hc:c = x1 * x2) (he:e = y1 * y2) (hg:g = Go.Fp.d * (c * e)) (hm:m = b - g) (hu:u = b + g) (hw:w = (x1 + y1) * (x2 + y2) - c - e) :
  m * u ≠ 0 ∧ a * m * w = (W3 p q).x * (m * u) ∧ a * u * (e + c) = (W3 p q).y * (m * u):=by
 have F:=Go.Fp.fld
 have hP:=F.denP p.on q.on
 have hM:=F.denM p.on q.on
 have sx:=Go.Cv.Qbl Go.Fp.fld p q
 have sy:=Go.Cv.Qbk Go.Fp.fld p q
 have hx:(W3 p q).x * (1 + Go.Fp.d * p.x * q.x * p.y * q.y) = p.x * q.y + q.x * p.y:=sx
 have hy:(W3 p q).y * (1 - Go.Fp.d * p.x * q.x * p.y * q.y) = p.y * q.y + p.x * q.x:=sy
 clear sx sy
 generalize (W3 p q).x = s1 at *
 generalize (W3 p q).y = s2 at *
 generalize p.x = px at *
 generalize p.y = py at *
 generalize q.x = qx at *
 generalize q.y = qy at *
 generalize Go.Fp.d = d at *
 have an:a ≠ 0:=by rw [ha]; exact F.mul_ne n1 n2
 have bn:b ≠ 0:=by rw [hb]; exact F.mul_ne an an
 have hgb:g = d * px * qx * py * qy * b:=by
  subst hx1 hy1 hx2 hy2 hc he hb ha
  rw [hg]
  clear hg hm hu hw hP hM hx hy n1 n2 an bn F
  grobner
 have hwa:w = (px * qy + qx * py) * a:=by
  subst hx1 hy1 hx2 hy2 hc he ha
  rw [hw]
  clear hg hm hu hw hP hM hx hy n1 n2 an bn F hgb hb
  grobner
 have hec:e + c = (py * qy + px * qx) * a:=by
  subst hx1 hy1 hx2 hy2 hc he ha
  clear hg hm hu hw hP hM hx hy n1 n2 an bn F hgb hb hwa
  grobner
 have hm':m = b - d * px * qx * py * qy * b:=by rw [hm,hgb]
 have hu':u = b + d * px * qx * py * qy * b:=by rw [hu,hgb]
 generalize hD:d * px * qx * py * qy = D at *
 refine ⟨?_,?_,?_⟩
 ·have e1:m = b * (1 - D):=by rw [hm']; exact fe_m1 _ _
  have e2:u = b * (1 + D):=by rw [hu']; exact fe_m2 _ _
  rw [e1,e2]
  exact F.mul_ne (F.mul_ne bn hM) (F.mul_ne bn hP)
 ·exact sum_x hx hb hm' hu' hwa
 ·rw [hec]
  exact sum_y hy hb hm' hu'
theorem Qkp {l1 l2 dl:List Nat} {p q:Go.Cv.Pt Go.Fp.P Go.Fp.d} (h1:RP l1 p) (h2:RP l2 q) (Nd:Nm dl) (hd:nf dl = Go.Fp.d):∃ r,Vd T 33 [eV l1,eV l2,eV dl] = some (eV r) ∧ RP r (W3 p q):=by
 obtain ⟨x1,y1,z1,rfl,h1⟩:=h1
 obtain ⟨x2,y2,z2,rfl,h2⟩:=h2
 obtain ⟨a,va,Na,fa⟩:=U3 h1.nz h2.nz
 obtain ⟨b,vb,Nb,fb⟩:=U3 Na Na
 obtain ⟨c,vc,Nc,fc⟩:=U3 h1.nx h2.nx
 obtain ⟨e,ve,Ne,fe'⟩:=U3 h1.ny h2.ny
 obtain ⟨ce,vce,Nce,fce⟩:=U3 Nc Ne
 obtain ⟨g,vg,Ng,fg⟩:=U3 Nd Nce
 obtain ⟨m,vm,Nmm,fm⟩:=Qkj Nb Ng
 obtain ⟨u,vu,Nu,fu⟩:=Qeb Nb Ng
 obtain ⟨s1,vs1,Ns1,fs1⟩:=Qeb h1.nx h1.ny
 obtain ⟨s2,vs2,Ns2,fs2⟩:=Qeb h2.nx h2.ny
 obtain ⟨s3,vs3,Ns3,fs3⟩:=U3 Ns1 Ns2
 obtain ⟨s4,vs4,Ns4,fs4⟩:=Qkj Ns3 Nc
 obtain ⟨w,vw,Nw,fw⟩:=Qkj Ns4 Ne
 obtain ⟨am,vam,Nam,fam⟩:=U3 Na Nmm
 obtain ⟨X,vX,NX,fX⟩:=U3 Nam Nw
 obtain ⟨au,vau,Nau,fau⟩:=U3 Na Nu
 obtain ⟨ec,vec,Nec,fec⟩:=Qeb Ne Nc
 obtain ⟨Y,vY,NY,fY⟩:=U3 Nau Nec
 obtain ⟨Z,vZ,NZ,fZ⟩:=U3 Nmm Nu
 obtain ⟨g1,g2,g3⟩:=Qvp (w:=nf w) (g:=nf g) h1.ne h2.ne h1.x h1.y h2.x h2.y fa fb fc fe' (by rw [fg,hd,fce]) fm fu (by rw [fw,fs4,fs3,fs1,fs2])
 refine ⟨tL X Y Z,?_,X,Y,Z,rfl,NX,NY,NZ,by rw [fZ]; exact g1,by rw [fX,fam,fZ]; exact g2,by rw [fY,fau,fec,fZ]; exact g3⟩
 obtain ⟨u0,u1,u2⟩:=tri h1.nx.len h1.ny.len h1.nz.len
 obtain ⟨v0,v1,v2⟩:=tri h2.nx.len h2.ny.len h2.nz.len
 have L1:=Tp h1.nx.len h1.ny.len h1.nz.len
 have L2:=Tp h2.nx.len h2.ny.len h2.nz.len
 have L3:=Tp NX.len NY.len NZ.len
 have hf:=Qxv NX.len NY.len NZ.len
 have hz:=Ga
 have lz:=Bh
 have hz2:=Qdw
 have lz2:=Qag
 have ld:=Nd.len
 have la:=Na.len
 have lb:=Nb.len
 have lc:=Nc.len
 have le:=Ne.len
 have lg:=Ng.len
 have lm:=Nmm.len
 have lu:=Nu.len
 have lw:=Nw.len
 generalize Ys = Z16 at *
 generalize B2 = Z48 at *
 generalize tL X Y Z = R at *
 generalize tL x1 y1 z1 = P1 at *
 generalize tL x2 y2 z2 = P2 at *
 apply Xg
 apply Zt
 rw [Jb (fn:=a35) rfl]
 simp only [a35,↓Zr,Z0,quiet,cF,↓pF,reduceCtorEq,Qb,Qp,Zh,Zf,Zg,Ze,Zc,Qj,Q3,Qi,Q2,Q6,Q5,↓Zu,↓Zm,↓Z5,↓Z9,↓Z6,↓Z7,cL,Qo,Qn,Qx,Qw,Qu,Ql,Qk,Qv,Qd,Qz,Q0,Qq,Qf,Qh,Qg,Qt,Qs,Qr,Qm,Qe,cJ,hz,hz2,u0,u1,u2,v0,v1,v2,hf,va,vb,vc,ve,vce,vg,vm,vu,vs1,vs2,vs3,vs4,vw,vam,vX,vau,vec,vY,vZ,Zd,Xd,Jv,Xs,Vm,Xt,J0,L1,L2,L3,lz,lz2,ld,la,lb,lc,le,lg,lm,lu,lw,Vl]
 rfl
theorem Qzb:∃ r,Vd T 58 [] = some (eV r) ∧ RP r U1:=by
 have hs:=Hh 1 (by decide)
 have hN:=Bl 1
 have h1:=Qkk
 have h0:nf Ys = 0:=by unfold nf; rw [Qbm]; rfl
 refine ⟨tL Ys (Ws 1) (Ws 1),?_,_,_,_,rfl,Qdv,hN,hN,by rw [h1]; exact Go.Fp.Rb,by rw [h0,h1]; show (0:Go.Fp.Fe) = 0 * 1; grobner,by rw [h1]; show (1:Go.Fp.Fe) = 1 * 1; grobner⟩
 have hf:=Q55 hN.len hN.len
 have hz2:=Qdw
 have lz2:=Qag
 have L:=Tp Qdv.len hN.len hN.len
 simp only [B0] at hs
 generalize tL Ys (Ws 1) (Ws 1) = R at *
 generalize Ws 1 = S at *
 generalize B2 = Z48 at *
 apply Xg
 apply Zt
 rw [Jb (fn:=a74) rfl]
 simp only [a74,↓Zr,Z0,quiet,cF,↓pF,reduceCtorEq,Qb,Qp,Zh,Zf,Zg,Ze,Zc,Qj,Q3,Qi,Q2,Q6,Q5,↓Zu,↓Zm,↓Z5,↓Z9,↓Z6,↓Z7,cL,Qo,Qn,Qx,Qw,Qu,Ql,Qk,Qv,Qd,Qz,Q0,Qq,Qf,Qh,Qg,Qt,Qs,Qr,Qm,Qe,cJ,hz2,hs,hf,Zd,Xd,Jv,Xs,Vm,Xt,J0,L,lz2,Vl]
 rfl
def ruH (k P o D:List Nat):List Ob:=[⟨u8s k,true,true,true,1⟩,⟨ns .u64 P,true,true,true,1⟩,⟨ns .u64 B2,true,true,true,1⟩,⟨ns .u64 o,true,true,true,1⟩,⟨ns .u64 D,true,true,true,1⟩]
def ruI (k P o D:List Nat) (i:Int) (ex:Env):St:=⟨[(2,.pointer (some ⟨0,0,none⟩)),(3,.pointer (some ⟨1,0,none⟩)),(4,.pointer (some ⟨2,0,none⟩)),(5,.pointer (some ⟨3,0,none⟩)),(6,.pointer (some ⟨4,0,none⟩)),(7,.int .i64 i)] ++ ex,ruH k P o D,[]⟩
def ruB (k P o D:List Nat) (i:Int) (w j:Nat) (ex:Env):St:=⟨[(2,.pointer (some ⟨0,0,none⟩)),(3,.pointer (some ⟨1,0,none⟩)),(4,.pointer (some ⟨2,0,none⟩)),(5,.pointer (some ⟨3,0,none⟩)),(6,.pointer (some ⟨4,0,none⟩)),(7,.int .i64 i),(8,.int .i64 w),(9,.int .i64 j)] ++ ex,ruH k P o D,[]⟩
theorem Q4z {k P o D:List Nat} {i w:Nat} (hi:i < 256) (hw:w < 256) :
  Jk T 0 (.block 2 (.loop Qie)) (ruB k P o D i w 0 []) = some (.normal,ruB k P o D i (w / 2 ^ (i % 8)) (i % 8) [(24,.bool false)]):=by
 have e3:(i:Int).tmod 8 = ((i % 8:Nat):Int):=rfl
 have h:=Wc (T:=T) (base:=0) (id:=2) (body:=Qie) (fun j => ruB k P o D i (w / 2 ^ j) j []) (s':=ruB k P o D i (w / 2 ^ (i % 8)) (i % 8) [(24,.bool false)]) (i % 8)
  (fun j hj => by
   have h16:=Jj i (by decide:0 < 8)
   have e1:((j:Int) < ((i % 8:Nat):Int)) = True:=eq_true (by omega)
   have w1:IntKind.i64.wrap ((j:Int) + 1) = ((j + 1:Nat):Int):=Y0 (b:=1) (by omega)
   have hle:w / 2 ^ j ≤ w:=W8 _ _
   have w2:IntKind.i64.wrap (((w / 2 ^ j:Nat):Int).tdiv 2) = ((w / 2 ^ j / 2:Nat):Int):=wn (n:=w / 2 ^ j / 2) (by omega)
   rw [Kp,← X9]
   generalize w / 2 ^ j = v at *
   generalize v / 2 = u at *
   generalize i % 8 = m at *
   simp only [ruB,ruH,Qie,Z0,quiet,cF,↓pF,reduceCtorEq,Qb,Qp,Zh,Zf,Zg,Ze,Zc,Qj,Q3,Qi,Q2,Q6,Q5,↓Zo,↓Zn,↓Zw,↓Zz,↓Zx,↓Zy,cL,Qo,Qn,Qx,Qw,Qu,Ql,Qk,Qv,Qd,Qz,Q0,Qq,Qf,Qh,Qg,Qt,Qs,Qr,Qm,Qe,cJ,e1,e3,w1,w2])
  (by
   generalize w / 2 ^ (i % 8) = v at *
   generalize i % 8 = m at *
   simp only [ruB,ruH,Qie,Z0,quiet,cF,↓pF,reduceCtorEq,Qb,Qp,Zh,Zf,Zg,Ze,Zc,Qj,Q3,Qi,Q2,Q6,Q5,↓Zo,↓Zn,↓Zw,↓Zz,↓Zx,↓Zy,cL,Qo,Qn,Qx,Qw,Qu,Ql,Qk,Qv,Qd,Qz,Q0,Qq,Qf,Qh,Qg,Qt,Qs,Qr,Qm,Qe,cJ,e3])
 rw [Ya,Wi] at h
 exact h
theorem Qzd {k P o D:List Nat} {i:Nat} {ex:Env} {p q:Go.Cv.Pt Go.Fp.P Go.Fp.d} (lk:k.length = 32) (xk:∀ x ∈ k,x < 256) (hi:i < 256) (hP:RP P p) (ho:RP o q) (ND:Nm D) (hD:nf D = Go.Fp.d) :
  ∃ P' o',Jk T 0 Qet (ruI k P o D i ex) = some (.normal,ruI k P' o' D ((i + 1:Nat):Int) []) ∧ RP P' (W3 p p) ∧ RP o' (if num 256 k / 2 ^ i % 2 = 1 then W3 q p else q):=by
 obtain ⟨w,hw⟩:∃ w,k[i / 8]? = some w:=⟨_,Q1 (by omega)⟩
 have hw':=xk w (Zk hw)
 have hwv:=Bu (B:=256) (by decide) xk hw
 have hwc:=Wp hw
 have hbit:w / 2 ^ (i % 8) % 2 = num 256 k / 2 ^ i % 2:=by
  rw [← hwv,show (256:Nat) = 2 ^ 8 from rfl,Qj6 (Jj _ (by decide)),Vr]
 obtain ⟨r1,m1,g1⟩:=Qkp ho hP ND hD
 obtain ⟨r2,m2,g2⟩:=Qkp hP hP ND hD
 have hb:=Q4z (k:=k) (P:=P) (o:=o) (D:=D) hi hw'
 simp only [ruB,ruH,Zb,Za,Xu] at hb
 have hlt:=Qac (num 256 k) i
 have w0:IntKind.i64.wrap (w:Int) = (w:Int):=wn (by omega)
 have w2:IntKind.i64.wrap ((i:Int).tdiv 8) = ((i / 8:Nat):Int):=wn (n:=i / 8) (by omega)
 have w3:IntKind.i64.wrap ((i:Int) + 1) = ((i + 1:Nat):Int):=Y0 (b:=1) (by omega)
 have w4:((w / 2 ^ (i % 8):Nat):Int).tmod 2 = ((w / 2 ^ (i % 8) % 2:Nat):Int):=rfl
 have e1:((i:Int) < 256) = True:=eq_true (by omega)
 have e3:(((i / 8:Nat):Int) < 32) = True:=eq_true (by omega)
 have l1:=hP.len
 have l2:=ho.len
 have l3:=g1.len
 have l4:=g2.len
 have l5:=ND.len
 rw [hbit] at w4
 generalize hB:num 256 k / 2 ^ i % 2 = B at *
 generalize w / 2 ^ (i % 8) = wv at *
 by_cases hB1:B = 1
 ·have hbq:((B:Int) == 1) = true:=by rw [hB1]; rfl
  rw [if_pos hB1]
  refine ⟨r2,r1,?_,g2,g1⟩
  simp only [ruI,ruH,Qet,Z0,quiet,cF,↓pF,reduceCtorEq,Qb,Qp,Zh,Zf,Zg,Ze,Zc,Qj,Q3,Qi,Q2,Q6,Q5,↓Zo,↓Zn,↓Zw,↓Zz,↓Zx,↓Zy,cL,Qo,Qn,Qx,Qw,Qu,Ql,Qk,Qv,Qd,Qz,Q0,Qq,Qf,Qh,Qg,Qt,Qs,Qr,Qm,Qe,cJ,hwc,hb,w0,w2,w3,w4,e1,e3,m1,m2,hbq,Jv,Xs,Vm,Xt,J0,X2,lk,Xd,l1,l2,l3,l4,l5,Vl]
 ·have hbq:((B:Int) == 1) = false:=by
   have:B = 0:=by omega
   rw [this]; rfl
  rw [if_neg hB1]
  refine ⟨r2,o,?_,g2,ho⟩
  simp only [ruI,ruH,Qet,Z0,quiet,cF,↓pF,reduceCtorEq,Qb,Qp,Zh,Zf,Zg,Ze,Zc,Qj,Q3,Qi,Q2,Q6,Q5,↓Zo,↓Zn,↓Zw,↓Zz,↓Zx,↓Zy,cL,Qo,Qn,Qx,Qw,Qu,Ql,Qk,Qv,Qd,Qz,Q0,Qq,Qf,Qh,Qg,Qt,Qs,Qr,Qm,Qe,cJ,hwc,hb,w0,w2,w3,w4,e1,e3,m1,m2,hbq,Jv,Xs,Vm,Xt,J0,X2,lk,Xd,l1,l2,l3,l4,l5,Vl]
theorem Qsc (p:Go.Cv.Pt Go.Fp.P Go.Fp.d):V9 1 p = p:=Go.Cv.mul_one Go.Fp.fld p
theorem Qjh (a b:Nat) (p:Go.Cv.Pt Go.Fp.P Go.Fp.d):V9 (a + b) p = W3 (V9 a p) (V9 b p):=Go.Cv.mul_add Go.Fp.fld a b p
theorem Tu {l k:List Nat} {p:Go.Cv.Pt Go.Fp.P Go.Fp.d} (hl:RP l p) (lk:k.length = 32) (xk:∀ x ∈ k,x < 256):∃ r,Vd T 23 [.agg (u8s k).toArray,eV l] = some (eV r) ∧ RP r (V9 (num 256 k) p):=by
 have hK:=num_lt xk
 rw [lk,show (256:Nat) ^ 32 = 2 ^ 256 from by rw [show (256:Nat) = 2 ^ 8 from rfl,← Yp]] at hK
 obtain ⟨z,hz,rz⟩:=Qzb
 obtain ⟨D,hD,ND,fD⟩:=Q43
 obtain ⟨st,hb,P',r,rfl,hP',hr⟩:=Vi (T:=T) (base:=0) (id:=0) (body:=Qet)
  (fun i st => ∃ (P o:List Nat) (ex:Env),st = ruI k P o D i ex ∧ RP P (V9 (2 ^ i) p) ∧ RP o (V9 (num 256 k % 2 ^ i) p))
  (Q:=fun st => ∃ P o:List Nat,st = ruI k P o D 256 [(13,.bool false)] ∧ P.length = 48 ∧ RP o (V9 (num 256 k) p))
  256 (s:=ruI k l z D 0 []) ⟨l,z,[],rfl,by rw [Ya,Qsc]; exact hl,by rw [Ya,Qod]; exact rz⟩
  (fun i st hi hs => by
   obtain ⟨P,o,ex,rfl,h1,h2⟩:=hs
   obtain ⟨P',o',g1,g2,g3⟩:=Qzd (ex:=ex) lk xk hi h1 h2 ND fD
   refine ⟨_,g1,P',o',[],rfl,?_,?_⟩
   ·rw [Kp,Nat.mul_two,Qjh]; exact g2
   ·have hm:num 256 k % 2 ^ (i + 1) = num 256 k % 2 ^ i + 2 ^ i * (num 256 k / 2 ^ i % 2):=Nat.mod_pow_succ
    have hlt:=Qac (num 256 k) i
    rw [hm]
    by_cases hB:num 256 k / 2 ^ i % 2 = 1
    ·rw [if_pos hB] at g3
     rw [hB,Xy,Qjh]; exact g3
    ·rw [if_neg hB] at g3
     rw [show num 256 k / 2 ^ i % 2 = 0 by omega,Te,Jq]; exact g3)
  (fun st hs => by
   obtain ⟨P,o,ex,rfl,h1,h2⟩:=hs
   rw [Z3 hK] at h2
   refine ⟨_,?_,P,o,rfl,h1.len,h2⟩
   simp only [ruI,ruH,Qet,Z0,quiet,cF,↓pF,reduceCtorEq,Qb,Qp,Zh,Zf,Zg,Ze,Zc,Qj,Q3,Qi,Q2,Q6,Q5,↓Zo,↓Zn,↓Zw,↓Zz,↓Zx,↓Zy,cL,Qo,Qn,Qx,Qw,Qu,Ql,Qk,Qv,Qd,Qz,Q0,Qq,Qf,Qh,Qg,Qt,Qs,Qr,Qm,Qe])
 refine ⟨r,?_,hr⟩
 have hz2:=Qdw
 have lz2:=Qag
 have l1:=hl.len
 have l2:=rz.len
 have l3:=ND.len
 have l4:=hr.len
 simp only [ruI,ruH,Zb,Za] at hb
 generalize B2 = Z48 at *
 apply Xg
 apply Zt
 rw [Jb (fn:=a38) rfl]
 simp only [a38,↓Zr,Z0,quiet,cF,↓pF,reduceCtorEq,Qb,Qp,Zh,Zf,Zg,Ze,Zc,Qj,Q3,Qi,Q2,Q6,Q5,↓Zu,↓Zm,↓Z5,↓Z9,↓Z6,↓Z7,cL,Qo,Qn,Qx,Qw,Qu,Ql,Qk,Qv,Qd,Qz,Q0,Qq,Qf,Qh,Qg,Qt,Qs,Qr,Qm,Qe,cJ,hz2,hz,hD,hb,Zd,Xd,Jv,Xs,Vm,Xt,J0,X2,lk,l1,l2,l3,l4,hP',lz2,Vl]
 rfl
theorem Qwz {l:List Nat} (hl:l.length = 32) (h:∀ x ∈ l,x < 256):l = dig 256 32 (num 256 l):=by
 have:=Dv (B:=256) (by decide) h
 rw [hl] at this
 exact this.symm
theorem Qy5 {v:Nat} (hv:v < 2 ^ 255):∃ w,(dig 256 32 v)[31]? = some w ∧ w < 128 ∧ (dig 256 32 v).set 31 (w + 128) = dig 256 32 (v + 2 ^ 255):=by
 obtain ⟨w,hw⟩:∃ w,(dig 256 32 v)[31]? = some w:=⟨_,Q1 (by rw [Kb]; decide)⟩
 have hwv:w = v / 256 ^ 31 % 256:=by rw [Uy (by decide)] at hw; exact (Gw hw).symm
 have e31:(256:Nat) ^ 31 = 452312848583266388373324160190187140051835877600158453279131187530910662656:=by decide
 have e32:(256:Nat) ^ 32 = 115792089237316195423570985008687907853269984665640564039457584007913129639936:=by decide
 have e255:(2:Nat) ^ 255 = 57896044618658097711785492504343953926634992332820282019728792003956564819968:=by decide
 have hw128:w < 128:=by
  rw [e31] at hwv
  rw [e255] at hv
  omega
 refine ⟨w,hw,hw128,?_⟩
 have hlt:∀ x ∈ (dig 256 32 v).set 31 (w + 128),x < 256:=Hu (fun x hx => Gm (by decide) hx) (by omega)
 refine (Qwz (by rw [Xe,Kb]) hlt).trans (congrArg (dig 256 32) ?_)
 have hs:=Ge (B:=256) (w + 128) hw
 have hn:num 256 (dig 256 32 v) = v:=by
  rw [U4 (by decide)]
  refine Z3 ?_
  rw [e32]
  rw [e255] at hv
  omega
 rw [hn,e31] at hs
 rw [e255]
 omega
theorem Qd9 {l:List Nat} {p:Go.Cv.Pt Go.Fp.P Go.Fp.d} (h:RP l p):Vd T 22 [eV l] = some (.agg (u8s (enc p)).toArray):=by
 obtain ⟨x,y,z,rfl,h⟩:=h
 obtain ⟨i,vi,Ni,fi⟩:=Qao h.nz
 obtain ⟨a,va,Na,fa⟩:=U3 h.ny Ni
 obtain ⟨b,vb,Nb,fb⟩:=U3 h.nx Ni
 have hinv:=Go.Fp.T4 h.ne
 have fa':nf a = p.y:=by rw [fa,fi,h.y]; grobner
 have fb':nf b = p.x:=by rw [fb,fi,h.x]; grobner
 have k1:=Qcn Na
 have k2:=Qcn Nb
 rw [fa'] at k1
 rw [fb'] at k2
 obtain ⟨u0,u1,u2⟩:=tri h.nx.len h.ny.len h.nz.len
 have L1:=Tp h.nx.len h.ny.len h.nz.len
 have li:=Ni.len
 have lk:(dig 256 32 p.y.val).length = 32:=Kb _ _ _
 have lj:(dig 256 32 p.x.val).length = 32:=Kb _ _ _
 have lz:=Kb 256 32 0
 have hz:=Qt2
 have h0:(dig 256 32 p.x.val)[0]? = some (p.x.val % 256):=by rw [Uy (by decide),Ya,Wi]
 have h0c:=Wp h0
 have e0:((p.x.val % 256:Nat):Int).tmod 2 = ((p.x.val % 2:Nat):Int):=by
  have:p.x.val % 256 % 2 = p.x.val % 2:=by omega
  rw [← this]; rfl
 obtain ⟨w,hw,hw',Qg7⟩:=Qy5 (Qd0 p.y)
 have hwc:=Wp hw
 have hset:=U2 (dig 256 32 p.y.val) 31 (w + 128)
 rw [Qg7] at hset
 have wadd:IntKind.u8.wrap ((w:Int) + 128) = ((w + 128:Nat):Int):=w8n (n:=w + 128) (by omega)
 have lE:=Kb 256 32 (p.y.val + 2 ^ 255)
 generalize tL x y z = P1 at *
 generalize dig 256 32 0 = Z at *
 by_cases ho:p.x.val % 2 = 1
 ·have hbq:((p.x.val % 2:Nat):Int) == 1:=by rw [ho]; rfl
  have hbq':(((p.x.val % 2:Nat):Int) == 1) = true:=hbq
  have he:enc p = dig 256 32 (p.y.val + 2 ^ 255):=by rw [enc,Qb2,ho,Wm]
  rw [he]
  generalize dig 256 32 (p.y.val + 2 ^ 255) = E at *
  generalize dig 256 32 p.y.val = Y at *
  generalize dig 256 32 p.x.val = X at *
  generalize p.x.val % 2 = par at *
  generalize p.x.val % 256 = x0 at *
  apply Xg
  apply Zt
  rw [Jb (fn:=a33) rfl]
  simp only [a33,↓Zr,Z0,quiet,cF,↓pF,reduceCtorEq,Qb,Qp,Zh,Zf,Zg,Ze,Zc,Qj,Q3,Qi,Q2,Q6,Q5,↓Zu,↓Zm,↓Z5,↓Z9,↓Z6,↓Z7,cL,Qo,Qn,Qx,Qw,Qu,Ql,Qk,Qv,Qd,Qz,Q0,Qq,Qf,Qh,Qg,Qt,Qs,Qr,Qm,Qe,cJ,hz,u0,u1,u2,vi,va,vb,k1,k2,h0c,e0,hbq',hwc,wadd,hset,Zd,Xd,Jv,Xs,Vm,Xt,J0,X2,lk,lj,li,lz,lE,L1,Vl]
  rfl
 ·have hbq':(((p.x.val % 2:Nat):Int) == 1) = false:=by
   rw [show p.x.val % 2 = 0 by omega]; rfl
  have he:enc p = dig 256 32 p.y.val:=by rw [enc,Qb2,show p.x.val % 2 = 0 by omega,Xi,Jq]
  rw [he]
  generalize dig 256 32 p.y.val = Y at *
  generalize dig 256 32 p.x.val = X at *
  generalize p.x.val % 2 = par at *
  generalize p.x.val % 256 = x0 at *
  apply Xg
  apply Zt
  rw [Jb (fn:=a33) rfl]
  simp only [a33,↓Zr,Z0,quiet,cF,↓pF,reduceCtorEq,Qb,Qp,Zh,Zf,Zg,Ze,Zc,Qj,Q3,Qi,Q2,Q6,Q5,↓Zu,↓Zm,↓Z5,↓Z9,↓Z6,↓Z7,cL,Qo,Qn,Qx,Qw,Qu,Ql,Qk,Qv,Qd,Qz,Q0,Qq,Qf,Qh,Qg,Qt,Qs,Qr,Qm,Qe,cJ,hz,u0,u1,u2,vi,va,vb,k1,k2,h0c,e0,hbq',Zd,Xd,Jv,Xs,Vm,Xt,J0,X2,lk,lj,li,lz,L1,Vl]
  rfl
def hmI (n:List Nat) (i:Int) (c:Nat) (j:Int) (ex:Env):St:=⟨[(0,.pointer (some ⟨0,0,none⟩)),(1,.pointer (some ⟨1,0,none⟩)),(2,.int .i64 i),(3,.int .u64 c),(4,.int .i64 j)] ++ ex,[⟨ns .u64 Ys,true,true,true,1⟩,⟨ns .u64 n,true,true,true,1⟩],[]⟩
theorem Qw9 {n:List Nat} {i:Int} (hn:Nm n) :
  Jk T 0 (.block 2 (.loop Qhm)) (hmI n i 0 15 []) = some (.normal,hmI (dig 65536 16 (num 65536 n / 2)) i (num 65536 n % 2) (-1) [(16,.bool false)]):=by
 have hD:Nm (dig 65536 16 (num 65536 n / 2)):=Nm.dig _
 obtain ⟨D,hDd⟩:∃ D,D = dig 65536 16 (num 65536 n / 2):=⟨_,rfl⟩
 rw [← hDd] at hD ⊢
 have hlt:=hn.num_lt
 obtain ⟨st,hb,rfl⟩:=Vi (T:=T) (base:=0) (id:=2) (body:=Qhm)
  (fun j st => st = hmI (n.take (16 - j) ++ D.drop (16 - j)) i (num 65536 n / 65536 ^ (16 - j) % 2) ((15:Int) - j) [])
  (Q:=fun st => st = hmI D i (num 65536 n % 2) (-1) [(16,.bool false)])
  16 (s:=hmI n i 0 15 []) (by
   rw [Xw,Zl (by rw [hn.len]; omega),Yb (by rw [hD.len]; omega),Kv,W0 hlt]; rfl)
  (fun j st hj hs => by
   subst hs
   obtain ⟨m,hm⟩:∃ m,16 - j = m + 1:=⟨15 - j,by omega⟩
   rw [hm,show (15:Int) - j = (m:Int) by omega,show 16 - (j + 1) = m by omega,show (15:Int) - ((j + 1:Nat):Int) = (m:Int) - 1 by omega]
   refine ⟨_,?_,rfl⟩
   obtain ⟨x,hx⟩:∃ x,n[m]? = some x:=⟨_,Q1 (by rw [hn.len]; omega)⟩
   have hx':=hn.lt x (Zk hx)
   have hxv:=Bu (B:=65536) (by decide) hn.lt hx
   obtain ⟨c,hc⟩:∃ c,c = num 65536 n / 65536 ^ (m + 1) % 2:=⟨_,rfl⟩
   rw [← hc]
   have hc2:num 65536 n / 65536 ^ m / 65536 % 2 = c:=by rw [hc,Kp,X9]
   have hxl:(n.take (m + 1) ++ D.drop (m + 1))[m]? = some x:=by
    rw [Qy (by rw [Jx,hn.len]; omega),Ks,if_pos (by omega)]; exact hx
   have hdg:D[m]? = some ((x + c * 65536) / 2):=by
    rw [hDd,Uy (by omega)]
    congr 1
    rw [X9,K6 2,← X9]
    generalize num 65536 n / 65536 ^ m = q at *
    omega
   have hcn:num 65536 n / 65536 ^ m % 2 = (x + c * 65536) % 2:=by
    generalize num 65536 n / 65536 ^ m = q at *
    omega
   rw [hcn]
   have hstep:(n.take (m + 1) ++ D.drop (m + 1)).set m ((x + c * 65536) / 2) = n.take m ++ D.drop m:=by
    rw [Rf _ _ (by rw [Jx,hn.len]; omega),Yf,hx]
    rw [Uk _ _ (by rw [Jx]; omega)]
    have e:(n.take m).length = m:=by rw [Jx,hn.len]; omega
    rw [e,K9,Yr (i:=m),hdg]
    simp
   have hset:=Uw .u64 (n.take (m + 1) ++ D.drop (m + 1)) m ((x + c * 65536) / 2)
   rw [hstep] at hset
   have hlen:(n.take (m + 1) ++ D.drop (m + 1)).length = 16:=by rw [Z4,Jx,Vs,hn.len,hD.len]; omega
   have hxc:=Yo (k := .u64) hxl
   have hcb:c < 2:=by rw [hc]; exact Jj _ (by decide)
   have w1:IntKind.i64.wrap ((m:Int) - 1) = (m:Int) - 1:=K7 (by omega) (by omega)
   have w2:IntKind.u64.wrap ((c:Int) * 65536) = ((c * 65536:Nat):Int):=Rz (b:=65536) (by omega)
   have w3:IntKind.u64.wrap ((x:Int) + ((c * 65536:Nat):Int)) = ((x + c * 65536:Nat):Int):=Ds (by omega)
   have w4:IntKind.u64.wrap (((x + c * 65536:Nat):Int).tdiv 2) = (((x + c * 65536) / 2:Nat):Int):=D2 (n:=(x + c * 65536) / 2) (by omega)
   have w5:((x + c * 65536:Nat):Int).tmod 2 = (((x + c * 65536) % 2:Nat):Int):=rfl
   have e1:((0:Int) ≤ (m:Int)) = True:=eq_true (by omega)
   have e2:((m:Int) < 16) = True:=eq_true (by omega)
   have e4:(m ≤ 15) = True:=eq_true (by omega)
   clear hc hc2 hcn hdg hstep
   generalize n.take (m + 1) ++ D.drop (m + 1) = A1 at *
   generalize n.take m ++ D.drop m = A2 at *
   generalize (x + c * 65536) / 2 = u at *
   generalize (x + c * 65536) % 2 = u2 at *
   generalize x + c * 65536 = v at *
   generalize c * 65536 = v2 at *
   simp only [hmI,Qhm,Z0,quiet,cF,↓pF,reduceCtorEq,Qb,Qp,Zh,Zf,Zg,Ze,Zc,Qj,Q3,Qi,Q2,Q6,Q5,↓Zo,↓Zn,↓Zw,↓Zz,↓Zx,↓Zy,cL,Qo,Qn,Qx,Qw,Qu,Ql,Qk,Qv,Qd,Qz,Q0,Qq,Qf,Qh,Qg,Qt,Qs,Qr,Qm,Qe,cJ,hxc,w1,w2,w3,w4,w5,e1,e2,e4,hset,J0,hlen])
  (fun st hs => by
   subst hs
   have e:((0:Int) ≤ -1) = False:=by decide
   refine ⟨_,?_,rfl⟩
   rw [show (15:Int) - ((16:Nat):Int) = -1 by omega,K9,Q3,Q2,Za,Ya,Wi]
   simp only [hmI,Qhm,Z0,quiet,cF,↓pF,reduceCtorEq,Qb,Qp,Zh,Zf,Zg,Ze,Zc,Qj,Q3,Qi,Q2,Q6,Q5,↓Zo,↓Zn,↓Zw,↓Zz,↓Zx,↓Zy,cL,Qo,Qn,Qx,Qw,Qu,Ql,Qk,Qv,Qd,Qz,Q0,Qq,Qf,Qh,Qg,Qt,Qs,Qr,Qm,Qe,e])
 exact hb
def hmO (n:List Nat) (i:Int) (ex:Env):St:=⟨[(0,.pointer (some ⟨0,0,none⟩)),(1,.pointer (some ⟨1,0,none⟩)),(2,.int .i64 i)] ++ ex,[⟨ns .u64 Ys,true,true,true,1⟩,⟨ns .u64 n,true,true,true,1⟩],[]⟩
theorem Qw8 {n:List Nat} (hn:Nm n) :
  Jk T 0 (.block 0 (.loop Qhl)) (hmO n 0 []) = some (.normal,hmO (dig 65536 16 (num 65536 n / 2 ^ 2)) 2 [(12,.bool false)]):=by
 obtain ⟨st,hb,rfl⟩:=Vi (T:=T) (base:=0) (id:=0) (body:=Qhl)
  (fun i st => ∃ ex,st = hmO (dig 65536 16 (num 65536 n / 2 ^ i)) i ex)
  (Q:=fun st => st = hmO (dig 65536 16 (num 65536 n / 2 ^ 2)) 2 [(12,.bool false)])
  2 (s:=hmO n 0 []) ⟨[],by rw [Ya,Wi,← hn.eq]; rfl⟩
  (fun i st hi hs => by
   obtain ⟨ex,rfl⟩:=hs
   have hN:=Nm.dig (num 65536 n / 2 ^ i)
   have hlt:num 65536 n / 2 ^ i < 2 ^ 256:=Wk (W8 _ _) hn.num_lt
   have hb:=Qw9 (i:=(i:Int)) hN
   rw [Gv hlt,X9,← Kp] at hb
   simp only [hmI,Zb,Za,Xu] at hb
   have w1:IntKind.i64.wrap ((i:Int) + 1) = ((i + 1:Nat):Int):=Y0 (b:=1) (by omega)
   have e1:((i:Int) < 2) = True:=eq_true (by omega)
   refine ⟨_,?_,[],rfl⟩
   generalize dig 65536 16 (num 65536 n / 2 ^ i) = A at *
   generalize dig 65536 16 (num 65536 n / 2 ^ (i + 1)) = A' at *
   simp only [hmO,Qhl,Z0,quiet,cF,↓pF,reduceCtorEq,Qb,Qp,Zh,Zf,Zg,Ze,Zc,Qj,Q3,Qi,Q2,Q6,Q5,↓Zo,↓Zn,↓Zw,↓Zz,↓Zx,↓Zy,cL,Qo,Qn,Qx,Qw,Qu,Ql,Qk,Qv,Qd,Qz,Q0,Qq,Qf,Qh,Qg,Qt,Qs,Qr,Qm,Qe,cJ,hb,w1,e1])
  (fun st hs => by
   obtain ⟨ex,rfl⟩:=hs
   refine ⟨_,?_,rfl⟩
   generalize dig 65536 16 (num 65536 n / 2 ^ 2) = A at *
   simp only [hmO,Qhl,Z0,quiet,cF,↓pF,reduceCtorEq,Qb,Qp,Zh,Zf,Zg,Ze,Zc,Qj,Q3,Qi,Q2,Q6,Q5,↓Zo,↓Zn,↓Zw,↓Zz,↓Zx,↓Zy,cL,Qo,Qn,Qx,Qw,Qu,Ql,Qk,Qv,Qd,Qz,Q0,Qq,Qf,Qh,Qg,Qt,Qs,Qr,Qm,Qe,cJ])
 exact hb
def hrI (a n:List Nat) (i:Int) (c:Nat) (j:Int) (ex:Env):St:=⟨[(1,.pointer (some ⟨0,0,none⟩)),(2,.pointer (some ⟨1,0,none⟩)),(4,.pointer (some ⟨2,0,none⟩)),(5,.int .i64 i),(6,.int .u64 c),(7,.int .i64 j)] ++ ex,[⟨ns .u64 a,true,true,true,1⟩,⟨ns .u64 Ys,true,true,true,1⟩,⟨ns .u64 n,true,true,true,1⟩],[]⟩
theorem Qw7 {a n:List Nat} {i:Int} (hn:Nm n) :
  Jk T 0 (.block 2 (.loop Qhv)) (hrI a n i 0 15 []) = some (.normal,hrI a (dig 65536 16 (num 65536 n / 2)) i (num 65536 n % 2) (-1) [(20,.bool false)]):=by
 have hD:Nm (dig 65536 16 (num 65536 n / 2)):=Nm.dig _
 obtain ⟨D,hDd⟩:∃ D,D = dig 65536 16 (num 65536 n / 2):=⟨_,rfl⟩
 rw [← hDd] at hD ⊢
 have hlt:=hn.num_lt
 obtain ⟨st,hb,rfl⟩:=Vi (T:=T) (base:=0) (id:=2) (body:=Qhv)
  (fun j st => st = hrI a (n.take (16 - j) ++ D.drop (16 - j)) i (num 65536 n / 65536 ^ (16 - j) % 2) ((15:Int) - j) [])
  (Q:=fun st => st = hrI a D i (num 65536 n % 2) (-1) [(20,.bool false)])
  16 (s:=hrI a n i 0 15 []) (by
   rw [Xw,Zl (by rw [hn.len]; omega),Yb (by rw [hD.len]; omega),Kv,W0 hlt]; rfl)
  (fun j st hj hs => by
   subst hs
   obtain ⟨m,hm⟩:∃ m,16 - j = m + 1:=⟨15 - j,by omega⟩
   rw [hm,show (15:Int) - j = (m:Int) by omega,show 16 - (j + 1) = m by omega,show (15:Int) - ((j + 1:Nat):Int) = (m:Int) - 1 by omega]
   refine ⟨_,?_,rfl⟩
   obtain ⟨x,hx⟩:∃ x,n[m]? = some x:=⟨_,Q1 (by rw [hn.len]; omega)⟩
   have hx':=hn.lt x (Zk hx)
   have hxv:=Bu (B:=65536) (by decide) hn.lt hx
   obtain ⟨c,hc⟩:∃ c,c = num 65536 n / 65536 ^ (m + 1) % 2:=⟨_,rfl⟩
   rw [← hc]
   have hc2:num 65536 n / 65536 ^ m / 65536 % 2 = c:=by rw [hc,Kp,X9]
   have hxl:(n.take (m + 1) ++ D.drop (m + 1))[m]? = some x:=by
    rw [Qy (by rw [Jx,hn.len]; omega),Ks,if_pos (by omega)]; exact hx
   have hdg:D[m]? = some ((x + c * 65536) / 2):=by
    rw [hDd,Uy (by omega)]
    congr 1
    rw [X9,K6 2,← X9]
    generalize num 65536 n / 65536 ^ m = q at *
    omega
   have hcn:num 65536 n / 65536 ^ m % 2 = (x + c * 65536) % 2:=by
    generalize num 65536 n / 65536 ^ m = q at *
    omega
   rw [hcn]
   have hstep:(n.take (m + 1) ++ D.drop (m + 1)).set m ((x + c * 65536) / 2) = n.take m ++ D.drop m:=by
    rw [Rf _ _ (by rw [Jx,hn.len]; omega),Yf,hx]
    rw [Uk _ _ (by rw [Jx]; omega)]
    have e:(n.take m).length = m:=by rw [Jx,hn.len]; omega
    rw [e,K9,Yr (i:=m),hdg]
    simp
   have hset:=Uw .u64 (n.take (m + 1) ++ D.drop (m + 1)) m ((x + c * 65536) / 2)
   rw [hstep] at hset
   have hlen:(n.take (m + 1) ++ D.drop (m + 1)).length = 16:=by rw [Z4,Jx,Vs,hn.len,hD.len]; omega
   have hxc:=Yo (k := .u64) hxl
   have hcb:c < 2:=by rw [hc]; exact Jj _ (by decide)
   have w1:IntKind.i64.wrap ((m:Int) - 1) = (m:Int) - 1:=K7 (by omega) (by omega)
   have w2:IntKind.u64.wrap ((c:Int) * 65536) = ((c * 65536:Nat):Int):=Rz (b:=65536) (by omega)
   have w3:IntKind.u64.wrap ((x:Int) + ((c * 65536:Nat):Int)) = ((x + c * 65536:Nat):Int):=Ds (by omega)
   have w4:IntKind.u64.wrap (((x + c * 65536:Nat):Int).tdiv 2) = (((x + c * 65536) / 2:Nat):Int):=D2 (n:=(x + c * 65536) / 2) (by omega)
   have w5:((x + c * 65536:Nat):Int).tmod 2 = (((x + c * 65536) % 2:Nat):Int):=rfl
   have e1:((0:Int) ≤ (m:Int)) = True:=eq_true (by omega)
   have e2:((m:Int) < 16) = True:=eq_true (by omega)
   have e4:(m ≤ 15) = True:=eq_true (by omega)
   clear hc hc2 hcn hdg hstep
   generalize n.take (m + 1) ++ D.drop (m + 1) = A1 at *
   generalize n.take m ++ D.drop m = A2 at *
   generalize (x + c * 65536) / 2 = u at *
   generalize (x + c * 65536) % 2 = u2 at *
   generalize x + c * 65536 = v at *
   generalize c * 65536 = v2 at *
   simp only [hrI,Qhv,Z0,quiet,cF,↓pF,reduceCtorEq,Qb,Qp,Zh,Zf,Zg,Ze,Zc,Qj,Q3,Qi,Q2,Q6,Q5,↓Zo,↓Zn,↓Zw,↓Zz,↓Zx,↓Zy,cL,Qo,Qn,Qx,Qw,Qu,Ql,Qk,Qv,Qd,Qz,Q0,Qq,Qf,Qh,Qg,Qt,Qs,Qr,Qm,Qe,cJ,hxc,w1,w2,w3,w4,w5,e1,e2,e4,hset,J0,hlen])
  (fun st hs => by
   subst hs
   have e:((0:Int) ≤ -1) = False:=by decide
   refine ⟨_,?_,rfl⟩
   rw [show (15:Int) - ((16:Nat):Int) = -1 by omega,K9,Q3,Q2,Za,Ya,Wi]
   simp only [hrI,Qhv,Z0,quiet,cF,↓pF,reduceCtorEq,Qb,Qp,Zh,Zf,Zg,Ze,Zc,Qj,Q3,Qi,Q2,Q6,Q5,↓Zo,↓Zn,↓Zw,↓Zz,↓Zx,↓Zy,cL,Qo,Qn,Qx,Qw,Qu,Ql,Qk,Qv,Qd,Qz,Q0,Qq,Qf,Qh,Qg,Qt,Qs,Qr,Qm,Qe,e])
 exact hb
def hrO (a n:List Nat) (i:Int) (ex:Env):St:=⟨[(1,.pointer (some ⟨0,0,none⟩)),(2,.pointer (some ⟨1,0,none⟩)),(4,.pointer (some ⟨2,0,none⟩)),(5,.int .i64 i)] ++ ex,[⟨ns .u64 a,true,true,true,1⟩,⟨ns .u64 Ys,true,true,true,1⟩,⟨ns .u64 n,true,true,true,1⟩],[]⟩
theorem Qw6 {a n:List Nat} (hn:Nm n) :
  Jk T 0 (.block 0 (.loop Qhu)) (hrO a n 0 []) = some (.normal,hrO a (dig 65536 16 (num 65536 n / 2 ^ 3)) 3 [(16,.bool false)]):=by
 obtain ⟨st,hb,rfl⟩:=Vi (T:=T) (base:=0) (id:=0) (body:=Qhu)
  (fun i st => ∃ ex,st = hrO a (dig 65536 16 (num 65536 n / 2 ^ i)) i ex)
  (Q:=fun st => st = hrO a (dig 65536 16 (num 65536 n / 2 ^ 3)) 3 [(16,.bool false)])
  3 (s:=hrO a n 0 []) ⟨[],by rw [Ya,Wi,← hn.eq]; rfl⟩
  (fun i st hi hs => by
   obtain ⟨ex,rfl⟩:=hs
   have hN:=Nm.dig (num 65536 n / 2 ^ i)
   have hlt:num 65536 n / 2 ^ i < 2 ^ 256:=Wk (W8 _ _) hn.num_lt
   have hb:=Qw7 (a:=a) (i:=(i:Int)) hN
   rw [Gv hlt,X9,← Kp] at hb
   simp only [hrI,Zb,Za,Xu] at hb
   have w1:IntKind.i64.wrap ((i:Int) + 1) = ((i + 1:Nat):Int):=Y0 (b:=1) (by omega)
   have e1:((i:Int) < 3) = True:=eq_true (by omega)
   refine ⟨_,?_,[],rfl⟩
   generalize dig 65536 16 (num 65536 n / 2 ^ i) = A at *
   generalize dig 65536 16 (num 65536 n / 2 ^ (i + 1)) = A' at *
   simp only [hrO,Qhu,Z0,quiet,cF,↓pF,reduceCtorEq,Qb,Qp,Zh,Zf,Zg,Ze,Zc,Qj,Q3,Qi,Q2,Q6,Q5,↓Zo,↓Zn,↓Zw,↓Zz,↓Zx,↓Zy,cL,Qo,Qn,Qx,Qw,Qu,Ql,Qk,Qv,Qd,Qz,Q0,Qq,Qf,Qh,Qg,Qt,Qs,Qr,Qm,Qe,cJ,hb,w1,e1])
  (fun st hs => by
   obtain ⟨ex,rfl⟩:=hs
   refine ⟨_,?_,rfl⟩
   generalize dig 65536 16 (num 65536 n / 2 ^ 3) = A at *
   simp only [hrO,Qhu,Z0,quiet,cF,↓pF,reduceCtorEq,Qb,Qp,Zh,Zf,Zg,Ze,Zc,Qj,Q3,Qi,Q2,Q6,Q5,↓Zo,↓Zn,↓Zw,↓Zz,↓Zx,↓Zy,cL,Qo,Qn,Qx,Qw,Qu,Ql,Qk,Qv,Qd,Qz,Q0,Qq,Qf,Qh,Qg,Qt,Qs,Qr,Qm,Qe,cJ])
 exact hb
def Qgh:List Nat:=dig 65536 16 (Go.Fp.P - 1)
def Qec:List Nat:=dig 65536 16 (Go.Fp.P + 3)
theorem Qje:Nm Qgh:=Nm.dig _
theorem Qjd:Nm Qec:=Nm.dig _
theorem Qjc:Bx[0]? = some 65517:=by decide +kernel
theorem Qo9:(ns .u64 Bx).set 0 (.int .u64 65516) = ns .u64 Qgh:=by
 have h:Bx.set 0 65516 = Qgh:=by decide +kernel
 have:=Uw .u64 Bx 0 65516
 rw [h] at this; exact this
theorem Qo8:(ns .u64 Bx).set 0 (.int .u64 65520) = ns .u64 Qec:=by
 have h:Bx.set 0 65520 = Qec:=by decide +kernel
 have:=Uw .u64 Bx 0 65520
 rw [h] at this; exact this
theorem Q33:nf (Ws 2) = Go.Fp.fp 2:=by unfold nf; rw [Gg (by decide)]
theorem Qxa:Go.Fp.pow (Go.Fp.fp 2) ((Go.Fp.P - 1) / 2) = Go.Fp.fp (Go.Fp.P - 1):=Go.Fp.Qgi (f:=256) (by decide +kernel) (by decide +kernel)
theorem fp_m1:Go.Fp.fp (Go.Fp.P - 1) = -1:=by decide +kernel
theorem Qmo:(Go.Fp.P - 1) / 2 = (Go.Fp.P - 1) / 4 + (Go.Fp.P - 1) / 4:=by decide +kernel
theorem Qmi:∃ r,Vd T 97 [] = some (eV r) ∧ Nm r ∧ nf r * nf r = -1:=by
 have hp:=Ts
 have h2:=Hh 2 (by decide)
 have ho:=Qw8 Qje
 have hn:num 65536 Qgh / 2 ^ 2 = (Go.Fp.P - 1) / 4:=by decide +kernel
 rw [hn] at ho
 have hE:=Nm.dig ((Go.Fp.P - 1) / 4)
 have hEn:=Gv (v:=(Go.Fp.P - 1) / 4) (by decide +kernel)
 obtain ⟨r,hr,r1,r2⟩:=Qf9 (Bl 2) hE
 rw [hEn,Q33] at r2
 refine ⟨r,?_,r1,by rw [r2,← Go.Fp.pow_add,← Qmo,Qxa,fp_m1]⟩
 have g0:=Yo (k := .u64) Qjc
 have s0:=Qo9
 have lp:=G7.len
 have lm:=Qje.len
 have ls:=(Bl 2).len
 have lE:=hE.len
 have lr:=r1.len
 have hz:=Ga
 have lz:=Bh
 have w1:IntKind.u64.wrap 65516 = 65516:=by decide
 simp only [Wx] at h2 g0
 simp only [hmO,Zb,Za,Xu] at ho
 generalize Bx = PL at *
 generalize Qgh = PM at *
 generalize Ws 2 = S at *
 generalize dig 65536 16 ((Go.Fp.P - 1) / 4) = E at *
 generalize Ys = Z at *
 apply Xg
 apply Zt
 rw [Jb (fn:=a89) rfl]
 simp only [a89,↓Zr,Z0,quiet,cF,↓pF,reduceCtorEq,Qb,Qp,Zh,Zf,Zg,Ze,Zc,Qj,Q3,Qi,Q2,Q6,Q5,↓Zu,↓Zm,↓Z5,↓Z9,↓Z6,↓Z7,cL,Qo,Qn,Qx,Qw,Qu,Ql,Qk,Qv,Qd,Qz,Q0,Qq,Qf,Qh,Qg,Qt,Qs,Qr,Qm,Qe,cJ,hz,hp,h2,g0,w1,s0,ho,hr,Zd,Xd,Jv,Xs,Vm,Xt,J0,lp,lm,ls,lE,lr,lz,Vl]
 rfl
theorem Qj4 (a b:List Nat):(dig 65536 16 (num 65536 a % Go.Fp.P) == dig 65536 16 (num 65536 b % Go.Fp.P)) = decide (nf a = nf b):=by
 have h1:=Jj (num 65536 a) Qij
 have h2:=Jj (num 65536 b) Qij
 have h3:=Qn8
 rw [Qns (by omega) (by omega)]
 by_cases h:nf a = nf b
 ·rw [decide_eq_true h,decide_eq_true (Go.Fp.Qbh.1 h)]
 ·rw [decide_eq_false h,decide_eq_false (fun e => h (Go.Fp.Qbh.2 e))]
theorem Qny (a:List Nat):nf (dig 65536 16 (num 65536 a % Go.Fp.P)) = nf a:=by
 have h1:=Jj (num 65536 a) Qij
 have h3:=Qn8
 unfold nf
 rw [Gv (by omega),Go.Fp.Hn]
theorem Qv2:(Go.Fp.P + 3) / 8 + (Go.Fp.P + 3) / 8 = (Go.Fp.P - 1) / 4 + 1:=by decide +kernel
theorem Qp4 (a:Go.Fp.Fe) : -1 * a = -a:=by grobner
theorem Qg8 (a:Go.Fp.Fe):1 * a = a:=by grobner
theorem Q1i (x m:Go.Fp.Fe):x * m * (x * m) = x * x * (m * m):=by grobner
theorem Qtf (a:Go.Fp.Fe) : -a * -1 = a:=by grobner
theorem Qnq {a s:Go.Fp.Fe} (h:s * s = a):Go.Fp.pow a ((Go.Fp.P + 3) / 8) * Go.Fp.pow a ((Go.Fp.P + 3) / 8) = a ∨ Go.Fp.pow a ((Go.Fp.P + 3) / 8) * Go.Fp.pow a ((Go.Fp.P + 3) / 8) = -a:=by
 have e:Go.Fp.pow a ((Go.Fp.P + 3) / 8) * Go.Fp.pow a ((Go.Fp.P + 3) / 8) = Go.Fp.pow a ((Go.Fp.P - 1) / 4) * a:=by
  rw [← Go.Fp.pow_add,Qv2,Go.Fp.pow]
 rcases Go.Fp.Qgj s with h1 | h1
 ·rw [h,Qmo,Go.Fp.pow_add] at h1
  have h2:Go.Fp.pow a ((Go.Fp.P - 1) / 4) * Go.Fp.pow a ((Go.Fp.P - 1) / 4) = 1 * 1:=by rw [h1]; exact (Qg8 1).symm
  rw [e]
  rcases Qqs h2 with h3 | h3
  ·left; rw [h3,Qg8]
  ·right; rw [h3,Qp4]
 ·have ha:a = 0:=by rw [← h,h1]; grobner
  left
  rw [e,ha]; grobner
theorem Qzg {a:List Nat} (ha:Nm a):∃ r ok,Vd T 71 [eV a] = some (.tuple #[eV r,.bool ok]) ∧ Nm r ∧ num 65536 r < Go.Fp.P ∧ (ok = true → nf r * nf r = nf a) ∧ (ok = false → ∀ x:Go.Fp.Fe,x * x ≠ nf a):=by
 have hp:=Ts
 have ho:=Qw6 (a:=a) Qjd
 have hn:num 65536 Qec / 2 ^ 3 = (Go.Fp.P + 3) / 8:=by decide +kernel
 rw [hn] at ho
 have hE:=Nm.dig ((Go.Fp.P + 3) / 8)
 have hEn:=Gv (v:=(Go.Fp.P + 3) / 8) (by decide +kernel)
 obtain ⟨x,hx,x1,x2⟩:=Qf9 ha hE
 rw [hEn] at x2
 obtain ⟨q,hq,q1,q2⟩:=U3 x1 x1
 obtain ⟨m,hm,m1,m2⟩:=Qmi
 obtain ⟨y,hy,y1,y2⟩:=U3 x1 m1
 obtain ⟨t,ht,t1,t2⟩:=U3 y1 y1
 have cq:=D8 q1
 have ca:=D8 ha
 have cx:=D8 x1
 have cy:=D8 y1
 have ct:=D8 t1
 have b1:=Qj4 q a
 have b2:=Qj4 t a
 have nq:=Nm.dig (num 65536 q % Go.Fp.P)
 have na:=Nm.dig (num 65536 a % Go.Fp.P)
 have nx:=Nm.dig (num 65536 x % Go.Fp.P)
 have ny:=Nm.dig (num 65536 y % Go.Fp.P)
 have nt:=Nm.dig (num 65536 t % Go.Fp.P)
 have v1:=Qy2 nq.len na.len
 have v2:=Qkb nq.len na.len
 have v3:=Qkb nt.len na.len
 rw [b1] at v1 v2
 rw [b2] at v3
 have g0:=Yo (k := .u64) Qjc
 have s0:=Qo8
 have lp:=G7.len
 have lm:=Qjd.len
 have lE:=hE.len
 have la:=ha.len
 have lx:=x1.len
 have ly:=y1.len
 have lq:=nx.len
 have ly2:=ny.len
 have hz:=Ga
 have lz:=Bh
 have w1:IntKind.u64.wrap 65520 = 65520:=by decide
 have rft:∀ (r:List Nat) (c:Bool),rf (Value.tuple #[eV r,.bool c]) = true:=fun r c => R1 (a:=eV r) (b := .bool c) (Vl r) rfl
 simp only [Wx] at g0
 simp only [hrO,Zb,Za,Xu] at ho
 have hPl:=Qn8
 have ltx:num 65536 (dig 65536 16 (num 65536 x % Go.Fp.P)) < Go.Fp.P:=by
  have:=Jj (num 65536 x) Qij
  rw [Gv (by omega)]; exact this
 have lty:num 65536 (dig 65536 16 (num 65536 y % Go.Fp.P)) < Go.Fp.P:=by
  have:=Jj (num 65536 y) Qij
  rw [Gv (by omega)]; exact this
 have fx:=Qny x
 have fy:=Qny y
 by_cases h:nf q = nf a
 ·rw [decide_eq_true h] at v1 v2
  refine ⟨dig 65536 16 (num 65536 x % Go.Fp.P),true,?_,nx,ltx,fun _ => by rw [fx,← q2,h],fun h => absurd h (by decide)⟩
  generalize dig 65536 16 (num 65536 q % Go.Fp.P) = CQ at *
  generalize dig 65536 16 (num 65536 a % Go.Fp.P) = CA at *
  generalize dig 65536 16 (num 65536 x % Go.Fp.P) = CX at *
  generalize Bx = PL at *
  generalize Qec = PM at *
  generalize dig 65536 16 ((Go.Fp.P + 3) / 8) = E at *
  generalize Ys = Z at *
  apply Xg
  apply Zt
  rw [Jb (fn:=a68) rfl]
  simp only [a68,↓Zr,Z0,quiet,cF,↓pF,reduceCtorEq,Qb,Qp,Zh,Zf,Zg,Ze,Zc,Qj,Q3,Qi,Q2,Q6,Q5,↓Zu,↓Zm,↓Z5,↓Z9,↓Z6,↓Z7,cL,Qo,Qn,Qx,Qw,Qu,Ql,Qk,Qv,Qd,Qz,Q0,Qq,Qf,Qh,Qg,Qt,Qs,Qr,Qm,Qe,cJ,hz,hp,g0,w1,s0,ho,hx,hq,cq,ca,cx,v1,v2,Zd,Xd,Jv,Xs,Vm,Xt,J0,lp,lm,lE,la,lx,lq,lz,rft,Vl]
  rfl
 ·rw [decide_eq_false h] at v1 v2
  refine ⟨dig 65536 16 (num 65536 y % Go.Fp.P),decide (nf t = nf a),?_,ny,lty,?_,?_⟩
  ·generalize decide (nf t = nf a) = ok at *
   generalize dig 65536 16 (num 65536 q % Go.Fp.P) = CQ at *
   generalize dig 65536 16 (num 65536 a % Go.Fp.P) = CA at *
   generalize dig 65536 16 (num 65536 y % Go.Fp.P) = CY at *
   generalize dig 65536 16 (num 65536 t % Go.Fp.P) = CT at *
   generalize Bx = PL at *
   generalize Qec = PM at *
   generalize dig 65536 16 ((Go.Fp.P + 3) / 8) = E at *
   generalize Ys = Z at *
   apply Xg
   apply Zt
   rw [Jb (fn:=a68) rfl]
   simp only [a68,↓Zr,Z0,quiet,cF,↓pF,reduceCtorEq,Qb,Qp,Zh,Zf,Zg,Ze,Zc,Qj,Q3,Qi,Q2,Q6,Q5,↓Zu,↓Zm,↓Z5,↓Z9,↓Z6,↓Z7,cL,Qo,Qn,Qx,Qw,Qu,Ql,Qk,Qv,Qd,Qz,Q0,Qq,Qf,Qh,Qg,Qt,Qs,Qr,Qm,Qe,cJ,hz,hp,g0,w1,s0,ho,hx,hq,hm,hy,ht,cq,ca,cy,ct,v1,v3,Zd,Xd,Jv,Xs,Vm,Xt,J0,lp,lm,lE,la,lx,ly,ly2,lz,rft,Vl]
   rfl
  ·intro ht'
   rw [fy,← t2]
   exact of_decide_eq_true ht'
  ·intro ht' s hs
   have ht'':=of_decide_eq_false ht'
   rcases Qnq hs with h1 | h1
   ·exact h (by rw [q2,x2,h1])
   ·apply ht''
    rw [t2,y2,Q1i,m2,x2,h1,Qtf]
end Go.Ev.YtgacigcbglflkaaGreat
set_option linter.unusedSimpArgs false
set_option linter.unusedVariables false
namespace Go.Ev.YtgacigcbglflkaaGreat
open Go Go.Ev
attribute [local congr] W7 Ul W6 Um Ww
set_option maxRecDepth 100000
theorem Qy1 {k l:List Nat} (lk:k.length = 32) (ll:l.length = 32):vEq (some (Qa 32 true)) true (.agg (u8s k).toArray) (.agg (u8s l).toArray) = some (.bool (!(k == l))):=by
 rw [Qcd,Gn lk ll]
 rfl
theorem Qt1:fillL (ns .u64 B2) [] = some (ns .u64 B2):=rfl
theorem Q5k {r:List Nat} (h:num 65536 r < Go.Fp.P):(nf r).val = num 65536 r:=Z3 h
theorem Qg9 (a:Go.Fp.Fe):a * 1 = a:=by grobner
theorem Qxw (a:Go.Fp.Fe) : -a * -a = a * a:=by grobner
theorem Qs1 {u v:Go.Fp.Fe} (hv:v ≠ 0) {x:Go.Fp.Fe} (h:x * x = u * Go.Fp.iv v):v * (x * x) = u:=by
 have:=Go.Fp.T4 hv
 rw [h]
 generalize Go.Fp.iv v = w at *
 clear h hv
 grobner
theorem Q05 {u v:Go.Fp.Fe} (hv:v ≠ 0) {x:Go.Fp.Fe} (h:v * (x * x) = u):x * x = u * Go.Fp.iv v:=by
 have:=Go.Fp.T4 hv
 rw [← h]
 generalize Go.Fp.iv v = w at *
 clear h hv
 grobner
theorem Qea {k:List Nat} (lk:k.length = 32) (xk:∀ x ∈ k,x < 256) :
  (∃ l p,Vd T 31 [.agg (u8s k).toArray] = some (Rd l 0) ∧ RP l p ∧ enc p = k) ∨ (∃ l,Vd T 31 [.agg (u8s k).toArray] = some (Rd l 60) ∧ l.length = 48 ∧ ∀ p,enc p ≠ k):=by
 obtain ⟨w,hw,hw',ht,hm,xm,lm⟩:=Qrb lk xk
 have ha:w &&& 127 = w % 128:=Mm w 7
 rw [ha] at hm xm lm
 have hwc:=Wp hw
 have hset:=U2 k 31 (w % 128)
 have hrem:(w:Int).tmod 128 = ((w % 128:Nat):Int):=rfl
 have hof:=rof_v lm xm
 rw [hm] at hof
 rw [Hb] at hof
 have hkey:∀ p:Go.Cv.Pt Go.Fp.P Go.Fp.d,enc p = k ↔ p.y.val = num 256 k % 2 ^ 255 ∧ p.x.val % 2 = num 256 k / 2 ^ 255:=fun p => by rw [Qri lk xk,Qjz]
 rw [← ht] at hkey
 have hVlt:num 256 k % 2 ^ 255 < 2 ^ 255:=Jj _ (by decide)
 have hkm:=Qwz lm xm
 rw [hm] at hkm
 generalize k.set 31 (w % 128) = km at *
 generalize num 256 k % 2 ^ 255 = V at *
 have NY:=Nm.dig V
 have hYn:=Gv (v:=V) (Uc hVlt (by decide))
 have fy:nf (dig 65536 16 V) = Go.Fp.fp V:=by unfold nf; rw [hYn]
 have hby:=Qcn NY
 rw [fy] at hby
 have lB:=Kb 256 32 (Go.Fp.fp V).val
 have heq:=Qy1 lB lm
 have hbk:(dig 256 32 (Go.Fp.fp V).val == km) = decide (V < Go.Fp.P):=by
  rw [hkm,key_inj (Uc (Go.Fp.fp V).isLt (by decide)) (Uc hVlt (by decide))]
  by_cases h:V < Go.Fp.P
  ·rw [decide_eq_true h,decide_eq_true (show (Go.Fp.fp V).val = V from Z3 h)]
  ·have:¬ (Go.Fp.fp V).val = V:=fun e => h (by rw [← e]; exact (Go.Fp.fp V).isLt)
   rw [decide_eq_false h,decide_eq_false this]
 rw [hbk] at heq
 have hz:=Ga
 have lz:=Bh
 have hf:=Rj
 have hz2:=Qdw
 have lz2:=Qag
 have hf2:=Qt1
 have lY:=NY.len
 have hge:decide ((128:Int) ≤ (w:Int)) = decide (w / 128 = 1):=by
  by_cases h:w / 128 = 1
  ·rw [decide_eq_true h,decide_eq_true (by omega)]
  ·rw [decide_eq_false h,decide_eq_false (by omega)]
 generalize dig 65536 16 V = Y at *
 generalize dig 256 32 (Go.Fp.fp V).val = BY at *
 clear hbk hkm
 by_cases hV:V < Go.Fp.P
 ·rw [decide_eq_true hV] at heq
  have hYv:(Go.Fp.fp V).val = V:=Z3 hV
  have s1:=Hh 1 (by decide)
  have N1:=Bl 1
  have f1:=Qkk
  have l1:=N1.len
  simp only [B0] at s1
  obtain ⟨yy,hyy,Nyy,fyy⟩:=U3 NY NY
  obtain ⟨D,hD,ND,fD⟩:=Q43
  obtain ⟨uu,huu,Nuu,fuu⟩:=Qkj Nyy N1
  obtain ⟨dy,hdy,Ndy,fdy⟩:=U3 ND Nyy
  obtain ⟨vv,hvv,Nvv,fvv⟩:=Qeb Ndy N1
  obtain ⟨iw,hiw,Niw,fiw⟩:=Qao Nvv
  obtain ⟨aa,haa,Naa,faa⟩:=U3 Nuu Niw
  obtain ⟨r,ok,hr,Nr,ltr,hok,hno⟩:=Qzg Naa
  obtain ⟨nr,hnr,Nnr,fnr⟩:=Qoy Nr
  have hu:nf uu = Go.Fp.fp V * Go.Fp.fp V - 1:=by rw [fuu,fyy,fy,f1]
  have hv:nf vv = Go.Fp.d * (Go.Fp.fp V * Go.Fp.fp V) + 1:=by rw [fvv,fdy,fD,fyy,fy,f1]
  have hvn:nf vv ≠ 0:=by rw [hv]; exact Qp7 _
  have hyp:∀ p:Go.Cv.Pt Go.Fp.P Go.Fp.d,enc p = k → p.y = Go.Fp.fp V:=fun p hp => Fin.ext (by rw [hYv]; exact ((hkey p).1 hp).1)
  have hxx:∀ p:Go.Cv.Pt Go.Fp.P Go.Fp.d,enc p = k → p.x * p.x = nf aa:=fun p hp => by
   have:=Qyr p
   rw [hyp p hp] at this
   rw [faa,fiw]
   exact Q05 hvn (by rw [hu,hv]; exact this)
  have rft:∀ b:Bool,rf (Value.tuple #[eV r,.bool b]) = true:=fun b => R1 (a:=eV r) (b := .bool b) (Vl r) rfl
  have lyy:=Nyy.len
  have lr:=Nr.len
  have lnr:=Nnr.len
  have hq0:=Qkb lr lz
  have hq0':(r == Ys) = decide (nf r = 0):=by
   by_cases h:nf r = 0
   ·have h2:=T2.1 h
    rw [Z3 ltr] at h2
    have:r = Ys:=Nr.inj Qdv (by rw [h2,Qbm])
    rw [decide_eq_true h,this]; simp
   ·have:¬ r = Ys:=fun e => h (by rw [e]; unfold nf; rw [Qbm]; rfl)
    rw [decide_eq_false h,beq_eq_false_iff_ne.2 this]
  rw [hq0'] at hq0
  obtain ⟨r0,hr0⟩:∃ r0,r[0]? = some r0:=⟨_,Q1 (by rw [lr]; decide)⟩
  have hr0c:=Yo (k := .u64) hr0
  have hr0v:=Bu (B:=65536) (by decide) Nr.lt hr0
  rw [Ya,Wi] at hr0v
  have hpar:r0 % 2 = (nf r).val % 2:=by rw [Q5k ltr,← hr0v]; omega
  have hr2:(r0:Int).tmod 2 = (((nf r).val % 2:Nat):Int):=by rw [← hpar]; rfl
  generalize Ys = Z at *
  obtain ⟨Z48,hz48⟩:∃ Z,B2 = Z:=⟨_,rfl⟩
  rw [hz48] at hz2 lz2 hf2
  cases ok with
  | false =>
   refine .inr ⟨Z48,?_,lz2,fun p hp => hno rfl p.x (hxx p hp)⟩
   generalize Ws 1 = S1 at *
   apply Xg
   apply Zt
   rw [Jb (fn:=a32) rfl]
   simp only [a32,↓Zr,Z0,quiet,cF,↓pF,reduceCtorEq,Qb,Qp,Zh,Zf,Zg,Ze,Zc,Qj,Q3,Qi,Q2,Q6,Q5,↓Zu,↓Zm,↓Z5,↓Z9,↓Z6,↓Z7,cL,Qo,Qn,Qx,Qw,Qu,Ql,Qk,Qv,Qd,Qz,Q0,Qq,Qf,Qh,Qg,Qt,Qs,Qr,Qm,Qe,cJ,Rd,hz,hf,hz2,hf2,hwc,hset,hrem,hge,hof,hby,heq,s1,hyy,hD,huu,hdy,hvv,hiw,haa,hr,Zd,Xd,Jv,Xs,Vm,Xt,J0,X2,lk,lm,lz,lz2,lY,l1,lyy,lr,lB,rft,Vl]
   rfl
  | true =>
   have hroot:=hok rfl
   rw [faa,fiw] at hroot
   have hroot1:=Qs1 hvn hroot
   have h255:(nf r).val % 2 < 2:=Jj _ (by decide)
   have hbq:((((nf r).val % 2:Nat):Int) == 1) = decide ((nf r).val % 2 = 1):=by
    by_cases h:(nf r).val % 2 = 1
    ·rw [h]; rfl
    ·rw [show (nf r).val % 2 = 0 by omega]; rfl
   have bft:(false == true) = false:=rfl
   have btf:(true == false) = false:=rfl
   have fin:∀ X:List Nat,Nm X → nf X * nf X = nf r * nf r → (nf X).val % 2 = w / 128 → ∃ p,RP (tL X Y (Ws 1)) p ∧ enc p = k:=fun X NX hX hp =>
    ⟨⟨nf X,Go.Fp.fp V,Qv9 hu hv (by rw [hX]; exact hroot1)⟩,⟨X,Y,_,rfl,NX,NY,N1,by rw [f1]; exact Go.Fp.Rb,by rw [f1]; exact (Qg9 _).symm,by rw [f1,fy]; exact (Qg9 _).symm⟩,(hkey _).2 ⟨hYv,hp⟩⟩
   have hfr:=Qxv lr lY l1
   have hfn:=Qxv lnr lY l1
   have lTr:=Tp lr lY l1
   have lTn:=Tp lnr lY l1
   rw [hz48] at hfr hfn
   have hneg:nf nr * nf nr = nf r * nf r:=by rw [fnr]; exact Qxw _
   have hnpar:nf r ≠ 0 → (nf nr).val % 2 ≠ (nf r).val % 2:=fun h => by rw [fnr]; exact Qku h
   have hnl:=Jj (nf nr).val (by decide:0 < 2)
   have hw2:w / 128 < 2:=by omega
   by_cases hb:w / 128 = 1
   ·rw [decide_eq_true hb] at hge
    by_cases h0:nf r = 0
    ·rw [decide_eq_true h0] at hq0
     refine .inr ⟨Z48,?_,lz2,fun p hp => ?_⟩
     ·generalize Ws 1 = S1 at *
      apply Xg
      apply Zt
      rw [Jb (fn:=a32) rfl]
      simp only [a32,↓Zr,Z0,quiet,cF,↓pF,reduceCtorEq,Qb,Qp,Zh,Zf,Zg,Ze,Zc,Qj,Q3,Qi,Q2,Q6,Q5,↓Zu,↓Zm,↓Z5,↓Z9,↓Z6,↓Z7,cL,Qo,Qn,Qx,Qw,Qu,Ql,Qk,Qv,Qd,Qz,Q0,Qq,Qf,Qh,Qg,Qt,Qs,Qr,Qm,Qe,cJ,Rd,hz,hf,hz2,hf2,hwc,hset,hrem,hge,hof,hby,heq,s1,hyy,hD,huu,hdy,hvv,hiw,haa,hr,hq0, Zd,Xd,Jv,Xs,Vm,Xt,J0,X2,lk,lm,lz,lz2,lY,l1,lyy,lr,lnr,lB, rft,Vl]
      rfl
     ·have h2:=((hkey p).1 hp).2
      have h3:=hxx p hp
      rw [faa,fiw,← hroot,h0] at h3
      rcases Qqs h3 with h5 | h5
      ·rw [h5,hb] at h2; exact absurd h2 (by decide)
      ·rw [h5,hb] at h2; exact absurd h2 (by decide)
    ·rw [decide_eq_false h0] at hq0
     by_cases hp1:(nf r).val % 2 = 1
     ·rw [decide_eq_true hp1] at hbq
      obtain ⟨p,rp,he⟩:=fin r Nr rfl (by rw [hb]; exact hp1)
      refine .inl ⟨_,p,?_,rp,he⟩
      generalize tL r Y (Ws 1) = R at *
      generalize Ws 1 = S1 at *
      apply Xg
      apply Zt
      rw [Jb (fn:=a32) rfl]
      simp only [a32,↓Zr,Z0,quiet,cF,↓pF,reduceCtorEq,Qb,Qp,Zh,Zf,Zg,Ze,Zc,Qj,Q3,Qi,Q2,Q6,Q5,↓Zu,↓Zm,↓Z5,↓Z9,↓Z6,↓Z7,cL,Qo,Qn,Qx,Qw,Qu,Ql,Qk,Qv,Qd,Qz,Q0,Qq,Qf,Qh,Qg,Qt,Qs,Qr,Qm,Qe,cJ,Rd,hz,hf,hz2,hf2,hwc,hset,hrem,hge,hof,hby,heq,s1,hyy,hD,huu,hdy,hvv,hiw,haa,hr,hq0,bft,btf,hr0c,hr2,hbq,hfr,Zd,Xd,Jv,Xs,Vm,Xt,J0,X2,lk,lm,lz,lz2,lY,l1,lyy,lr,lnr,lB,lTr,rft,Vl]
      rfl
     ·rw [decide_eq_false hp1] at hbq
      obtain ⟨p,rp,he⟩:=fin nr Nnr hneg (by have:=hnpar h0; omega)
      refine .inl ⟨_,p,?_,rp,he⟩
      generalize tL nr Y (Ws 1) = R at *
      generalize Ws 1 = S1 at *
      apply Xg
      apply Zt
      rw [Jb (fn:=a32) rfl]
      simp only [a32,↓Zr,Z0,quiet,cF,↓pF,reduceCtorEq,Qb,Qp,Zh,Zf,Zg,Ze,Zc,Qj,Q3,Qi,Q2,Q6,Q5,↓Zu,↓Zm,↓Z5,↓Z9,↓Z6,↓Z7,cL,Qo,Qn,Qx,Qw,Qu,Ql,Qk,Qv,Qd,Qz,Q0,Qq,Qf,Qh,Qg,Qt,Qs,Qr,Qm,Qe,cJ,Rd,hz,hf,hz2,hf2,hwc,hset,hrem,hge,hof,hby,heq,s1,hyy,hD,huu,hdy,hvv,hiw,haa,hr,hq0,bft,btf,hr0c,hr2,hbq,hnr,hfn,Zd,Xd,Jv,Xs,Vm,Xt,J0,X2,lk,lm,lz,lz2,lY,l1,lyy,lr,lnr,lB,lTn,rft,Vl]
      rfl
   ·rw [decide_eq_false hb] at hge
    by_cases hp1:(nf r).val % 2 = 1
    ·rw [decide_eq_true hp1] at hbq
     have h0:nf r ≠ 0:=fun h => by rw [h] at hp1; exact absurd hp1 (by decide)
     rw [decide_eq_false h0] at hq0
     obtain ⟨p,rp,he⟩:=fin nr Nnr hneg (by have:=hnpar h0; omega)
     refine .inl ⟨_,p,?_,rp,he⟩
     generalize tL nr Y (Ws 1) = R at *
     generalize Ws 1 = S1 at *
     apply Xg
     apply Zt
     rw [Jb (fn:=a32) rfl]
     simp only [a32,↓Zr,Z0,quiet,cF,↓pF,reduceCtorEq,Qb,Qp,Zh,Zf,Zg,Ze,Zc,Qj,Q3,Qi,Q2,Q6,Q5,↓Zu,↓Zm,↓Z5,↓Z9,↓Z6,↓Z7,cL,Qo,Qn,Qx,Qw,Qu,Ql,Qk,Qv,Qd,Qz,Q0,Qq,Qf,Qh,Qg,Qt,Qs,Qr,Qm,Qe,cJ,Rd,hz,hf,hz2,hf2,hwc,hset,hrem,hge,hof,hby,heq,s1,hyy,hD,huu,hdy,hvv,hiw,haa,hr,hq0,bft,btf,hr0c,hr2,hbq,hnr,hfn,Zd,Xd,Jv,Xs,Vm,Xt,J0,X2,lk,lm,lz,lz2,lY,l1,lyy,lr,lnr,lB,lTn,rft,Vl]
     rfl
    ·rw [decide_eq_false hp1] at hbq
     obtain ⟨p,rp,he⟩:=fin r Nr rfl (by omega)
     refine .inl ⟨_,p,?_,rp,he⟩
     generalize tL r Y (Ws 1) = R at *
     generalize decide (nf r = 0) = zq at *
     cases zq with
     | false =>
      generalize Ws 1 = S1 at *
      apply Xg
      apply Zt
      rw [Jb (fn:=a32) rfl]
      simp only [a32,↓Zr,Z0,quiet,cF,↓pF,reduceCtorEq,Qb,Qp,Zh,Zf,Zg,Ze,Zc,Qj,Q3,Qi,Q2,Q6,Q5,↓Zu,↓Zm,↓Z5,↓Z9,↓Z6,↓Z7,cL,Qo,Qn,Qx,Qw,Qu,Ql,Qk,Qv,Qd,Qz,Q0,Qq,Qf,Qh,Qg,Qt,Qs,Qr,Qm,Qe,cJ,Rd,hz,hf,hz2,hf2,hwc,hset,hrem,hge,hof,hby,heq,s1,hyy,hD,huu,hdy,hvv,hiw,haa,hr,hq0,bft,btf,hr0c,hr2,hbq,hfr,Zd,Xd,Jv,Xs,Vm,Xt,J0,X2,lk,lm,lz,lz2,lY,l1,lyy,lr,lnr,lB,lTr,rft,Vl]
      rfl
     | true =>
      generalize Ws 1 = S1 at *
      apply Xg
      apply Zt
      rw [Jb (fn:=a32) rfl]
      simp only [a32,↓Zr,Z0,quiet,cF,↓pF,reduceCtorEq,Qb,Qp,Zh,Zf,Zg,Ze,Zc,Qj,Q3,Qi,Q2,Q6,Q5,↓Zu,↓Zm,↓Z5,↓Z9,↓Z6,↓Z7,cL,Qo,Qn,Qx,Qw,Qu,Ql,Qk,Qv,Qd,Qz,Q0,Qq,Qf,Qh,Qg,Qt,Qs,Qr,Qm,Qe,cJ,Rd,hz,hf,hz2,hf2,hwc,hset,hrem,hge,hof,hby,heq,s1,hyy,hD,huu,hdy,hvv,hiw,haa,hr,hq0,bft,btf,hr0c,hr2,hbq,hfr,Zd,Xd,Jv,Xs,Vm,Xt,J0,X2,lk,lm,lz,lz2,lY,l1,lyy,lr,lnr,lB,lTr,rft,Vl]
      rfl
 ·rw [decide_eq_false hV] at heq
  generalize Ys = Z at *
  generalize B2 = Z48 at *
  refine .inr ⟨Z48,?_,lz2,fun p hp => hV ?_⟩
  ·apply Xg
   apply Zt
   rw [Jb (fn:=a32) rfl]
   simp only [a32,↓Zr,Z0,quiet,cF,↓pF,reduceCtorEq,Qb,Qp,Zh,Zf,Zg,Ze,Zc,Qj,Q3,Qi,Q2,Q6,Q5,↓Zu,↓Zm,↓Z5,↓Z9,↓Z6,↓Z7,cL,Qo,Qn,Qx,Qw,Qu,Ql,Qk,Qv,Qd,Qz,Q0,Qq,Qf,Qh,Qg,Qt,Qs,Qr,Qm,Qe,cJ,Rd,hz,hf,hz2,hf2,hwc,hset,hrem,hge,hof,hby,heq,Zd,Xd,Jv,Xs,Vm,Xt,J0,X2,lk,lm,lz,lz2,lY,lB,Vl]
   rfl
  ·rw [← ((hkey p).1 hp).1]; exact p.y.isLt
theorem Q6e:Go.Fp.fp 4 * Go.Fp.iv (Go.Fp.fp 5) = Go.Fp.fp byN:=by
 have h0:Go.Fp.fp 5 ≠ 0:=by decide +kernel
 have h1:=Go.Fp.T4 h0
 have h2:Go.Fp.fp 5 * Go.Fp.fp byN = Go.Fp.fp 4:=by decide +kernel
 refine Go.Fp.fld.cancel h0 ?_
 rw [h2]
 generalize Go.Fp.iv (Go.Fp.fp 5) = y at *
 generalize Go.Fp.fp 5 = x at *
 generalize Go.Fp.fp 4 = z at *
 clear h0 h2
 grobner
theorem Qtj:enc We = dig 256 32 (Go.Fp.fp byN).val:=by decide +kernel
theorem Qlb {p q:Go.Cv.Pt Go.Fp.P Go.Fp.d} (h:enc p = enc q):p = q:=by
 have:=Qc2 p q
 rw [h] at this
 simp at this
 exact this
theorem Qzs:∃ r,Vd T 24 [] = some (eV r) ∧ RP r We:=by
 have s4:=Hh 4 (by decide)
 have s5:=Hh 5 (by decide)
 obtain ⟨v,hv,v1,v2⟩:=Qao (Bl 5)
 obtain ⟨m,hm,m1,m2⟩:=U3 (Bl 4) v1
 have e4:nf (Ws 4) = Go.Fp.fp 4:=by unfold nf; rw [Gg (by decide)]
 have e5:nf (Ws 5) = Go.Fp.fp 5:=by unfold nf; rw [Gg (by decide)]
 rw [v2,e4,e5,Q6e] at m2
 have hb:=Qcn m1
 rw [m2,← Qtj] at hb
 have hl:=Db We
 rcases Qea (Db We) (Qp5 We) with ⟨l,p,hd,rp,he⟩ | ⟨l,hd,ll,hno⟩
 ·have hpp:=Qlb he
  rw [hpp] at rp
  refine ⟨l,?_,rp⟩
  have lr:=rp.len
  have hz2:=Qdw
  have lz2:=Qag
  have rft:∀ (r:List Nat) (c:Int),rf (Value.tuple #[eV r,.int .i64 c]) = true:=fun r c => R1 (a:=eV r) (b := .int .i64 c) (Vl r) rfl
  simp only [Wx] at s4 s5
  unfold Rd at hd
  generalize enc We = K at *
  generalize Ws 4 = S4 at *
  generalize Ws 5 = S5 at *
  generalize B2 = Z48 at *
  apply Xg
  apply Zt
  rw [Jb (fn:=a37) rfl]
  simp only [a37,↓Zr,Z0,quiet,cF,↓pF,reduceCtorEq,Qb,Qp,Zh,Zf,Zg,Ze,Zc,Qj,Q3,Qi,Q2,Q6,Q5,↓Zu,↓Zm,↓Z5,↓Z9,↓Z6,↓Z7,cL,Qo,Qn,Qx,Qw,Qu,Ql,Qk,Qv,Qd,Qz,Q0,Qq,Qf,Qh,Qg,Qt,Qs,Qr,Qm,Qe,cJ,hz2,s4,s5,hv,hm,hb,hd,Zd,Xd,Jv,Xs,Vm,Xt,J0,X2,lr,lz2,hl,rft,Vl]
  rfl
 ·exact absurd rfl (hno We)
theorem Qcf {a b:List Nat} (h:a.length + b.length ≤ 2 ^ 47):Y3 .add (W9 a) (W9 b) = some (W9 (a ++ b)):=by
 unfold W9
 rw [Qn3]
 have:(⟨(a.map UInt8.ofNat).toArray⟩:ByteArray).size + (⟨(b.map UInt8.ofNat).toArray⟩:ByteArray).size ≤ 2 ^ 47:=by simpa [ByteArray.size] using h
 rw [gate,if_pos this]
 congr 2
 apply ByteArray.ext
 simp
def byO (x:Nat):Ob:=⟨[.int .u8 x],true,true,true,1⟩
def Tb (S:List Nat) (i:Nat):List Ob:=(S.take i).map byO
theorem Qj5 {S:List Nat} {i w:Nat} (h:S[i]? = some w):Tb S (i + 1) = Tb S i ++ [⟨[.int .u8 w],true,true,true,1⟩]:=by
 rw [Tb,Yf,h,Gx]
 rfl
theorem Qn1 (m:List Ob) (w:Nat):elemsOf (m ++ [⟨[.int .u8 (w:Int)],true,true,true,1⟩]) 1 1 (.slice (some ⟨m.length,0,none⟩) 1 1) = some (u8s [w]):=by
 have h1:liveAt (m ++ [⟨[.int .u8 (w:Int)],true,true,true,1⟩]) m.length = some ⟨[.int .u8 (w:Int)],true,true,true,1⟩:=Yg (by rw [Zi (Zj _),K9]; rfl) rfl
 simp [elemsOf,h1,u8s]
def txI (G:List Ob) (S:List Nat) (i:Nat) (ex:Env):St:=⟨[(1,.pointer (some ⟨0,0,none⟩)),(3,W9 (S.take i)),(4,.int .i64 i)] ++ ex,G ++ Tb S i,[]⟩
theorem Quh {G:List Ob} {S:List Nat} {x e:Bool} {s:Nat} (h0:G[0]? = some ⟨u8s S,true,x,e,s⟩) (lS:S.length = 32) (xS:∀ y ∈ S,y < 256) :
  Jk T 0 (.block 0 (.loop Qa4)) (txI G S 0 []) = some (.normal,txI G S 32 [(6,.bool false)]) :=
 Wc (T:=T) (base:=0) (id:=0) (body:=Qa4) (fun i => txI G S i []) (s':=txI G S 32 [(6,.bool false)]) 32
  (fun i hi => by
   obtain ⟨w,hw⟩:∃ w,S[i]? = some w:=⟨_,Q1 (by omega)⟩
   have lw:=xS w (Zk hw)
   have e1:((i:Int) < 32) = True:=eq_true (by omega)
   have w3:IntKind.i64.wrap ((i:Int) + 1) = ((i + 1:Nat):Int):=Y0 (b:=1) (by omega)
   have hsa:Y3 .add (W9 (S.take i)) (W9 [w]) = some (W9 (S.take (i + 1))):=by
    rw [Qcf (by rw [Jx]; simp; omega),Yf,hw]; rfl
   have hst:=Qj5 hw
   have gt:∀ m:List Ob,(G ++ m)[0]? = some ⟨u8s S,true,x,e,s⟩:=fun m => by rw [Qy (Q8.1 h0).1]; exact h0
   have hb2:=Qn1 (G ++ Tb S i) w
   have hby:=Qc6 [w]
   have gt0:=gt (Tb S i)
   have gw:(u8s S)[i]? = some (.int .u8 (w:Nat)):=Wp hw
   have fB:fillL [Value.int .u8 0] [(0,1,.int .u8 w)] = some [.int .u8 w]:=rfl
   have hii:i < 32:=hi
   obtain ⟨G1,hG1⟩:∃ X,X = G ++ Tb S i:=⟨_,rfl⟩
   have hG2:G ++ Tb S (i + 1) = G1 ++ [⟨[.int .u8 w],true,true,true,1⟩]:=by rw [hst,← J3,hG1]
   rw [← hG1] at hb2 gt0
   show Jk T 0 Qa4 ⟨_,G ++ Tb S i,[]⟩ = some (.normal,⟨_,G ++ Tb S (i + 1),[]⟩)
   rw [← hG1,hG2]
   generalize S.take i = S1 at *
   generalize S.take (i + 1) = S2 at *
   generalize hi1:i + 1 = i1 at *
   generalize W9 S1 = V1 at *
   generalize W9 S2 = V2 at *
   rw [show W9 [w] = .string ⟨([w].map UInt8.ofNat).toArray⟩ from rfl] at hsa
   generalize u8s [w] = C3 at *
   generalize [w].map UInt8.ofNat = L3 at *
   simp only [txI,Qa4,↓Zr,Z0,quiet,cF,↓pF,reduceCtorEq,Qb,Qp,Zh,Zf,Zg,Ze,Zc,Qj,Q3,Qi,Q2,Q6,Q5,↓Zu,↓Zm,↓Z5,↓Z9,↓Z6,↓Z7,cL,Qo,Qn,Qx,Qw,Qu,Ql,Qk,Qv,Qd,Qz,Q0,Qq,Qf,Qh,Qg,Qt,Qs,Qr,Qm,Qe,cJ,e1,w3,gt0,gw,fB,hb2,hby,hsa,hi1])
  (by
   simp only [txI,Qa4,↓Zr,Z0,quiet,cF,↓pF,reduceCtorEq,Qb,Qp,Zh,Zf,Zg,Ze,Zc,Qj,Q3,Qi,Q2,Q6,Q5,↓Zu,↓Zm,↓Z5,↓Z9,↓Z6,↓Z7,cL,Qo,Qn,Qx,Qw,Qu,Ql,Qk,Qv,Qd,Qz,Q0,Qq,Qf,Qh,Qg,Qt,Qs,Qr,Qm,Qe,cJ])
theorem Qqu {S:List Nat} (lS:S.length = 32) (xS:∀ y ∈ S,y < 256):Vd T 21 [.agg (u8s S).toArray] = some (W9 S):=by
 have h1:=Quh (G:=[⟨u8s S,true,true,true,1⟩]) (S:=S) rfl lS xS
 rw [show txI [⟨u8s S,true,true,true,1⟩] S 0 [] = ⟨[(1,.pointer (some ⟨0,0,none⟩)),(3,.string (ByteArray.mk #[])),(4,.int .i64 0)],[⟨u8s S,true,true,true,1⟩],[]⟩ from rfl] at h1
 unfold txI at h1
 rw [Zl (by omega)] at h1
 obtain ⟨G1,hG1⟩:∃ X,X = [(⟨u8s S,true,true,true,1⟩:Ob)] ++ Tb S 32:=⟨_,rfl⟩
 rw [← hG1] at h1
 have hrf:rf (W9 S) = true:=rfl
 generalize W9 S = V at *
 clear hG1
 apply Xg
 apply Zt
 rw [Jb (fn:=Q2s) rfl]
 simp only [Q2s,↓Zr,Z0,quiet,cF,↓pF,reduceCtorEq,Qb,Qp,Zh,Zf,Zg,Ze,Zc,Qj,Q3,Qi,Q2,Q6,Q5,↓Zu,↓Zm,↓Z5,↓Z9,↓Z6,↓Z7,cL,Qo,Qn,Qx,Qw,Qu,Ql,Qk,Qv,Qd,Qz,Q0,Qq,Qf,Qh,Qg,Qt,Qs,Qr,Qm,Qe,cJ,h1,Jv,Xs,Vm,Xt,X2,lS,Xd,Zd,Vl,hrf]
 rfl
def tnI (G:List Ob) (S:List Nat) (i:Nat) (ex:Env):St:=⟨[(2,.pointer (some ⟨0,0,none⟩)),(3,.pointer (some ⟨1,0,none⟩)),(4,W9 (S.take i)),(5,.int .i64 i)] ++ ex,G ++ Tb S i,[]⟩
theorem Qul {G:List Ob} {S:List Nat} {x e:Bool} {s:Nat} (h0:G[1]? = some ⟨u8s S,true,x,e,s⟩) (lS:S.length = 64) (xS:∀ y ∈ S,y < 256) :
  Jk T 0 (.block 0 (.loop Qa5)) (tnI G S 0 []) = some (.normal,tnI G S 64 [(9,.bool false)]) :=
 Wc (T:=T) (base:=0) (id:=0) (body:=Qa5) (fun i => tnI G S i []) (s':=tnI G S 64 [(9,.bool false)]) 64
  (fun i hi => by
   obtain ⟨w,hw⟩:∃ w,S[i]? = some w:=⟨_,Q1 (by omega)⟩
   have e1:((i:Int) < 64) = True:=eq_true (by omega)
   have w3:IntKind.i64.wrap ((i:Int) + 1) = ((i + 1:Nat):Int):=Y0 (b:=1) (by omega)
   have hsa:Y3 .add (W9 (S.take i)) (W9 [w]) = some (W9 (S.take (i + 1))):=by
    rw [Qcf (by rw [Jx]; simp; omega),Yf,hw]; rfl
   have hst:=Qj5 hw
   have gt:∀ m:List Ob,(G ++ m)[1]? = some ⟨u8s S,true,x,e,s⟩:=fun m => by rw [Qy (Q8.1 h0).1]; exact h0
   have hb2:=Qn1 (G ++ Tb S i) w
   have hby:=Qc6 [w]
   have gt0:=gt (Tb S i)
   have gw:(u8s S)[i]? = some (.int .u8 (w:Nat)):=Wp hw
   have fB:fillL [Value.int .u8 0] [(0,1,.int .u8 w)] = some [.int .u8 w]:=rfl
   have hii:i < 64:=hi
   obtain ⟨G1,hG1⟩:∃ X,X = G ++ Tb S i:=⟨_,rfl⟩
   have hG2:G ++ Tb S (i + 1) = G1 ++ [⟨[.int .u8 w],true,true,true,1⟩]:=by rw [hst,← J3,hG1]
   rw [← hG1] at hb2 gt0
   show Jk T 0 Qa5 ⟨_,G ++ Tb S i,[]⟩ = some (.normal,⟨_,G ++ Tb S (i + 1),[]⟩)
   rw [← hG1,hG2]
   generalize S.take i = S1 at *
   generalize S.take (i + 1) = S2 at *
   generalize hi1:i + 1 = i1 at *
   generalize W9 S1 = V1 at *
   generalize W9 S2 = V2 at *
   rw [show W9 [w] = .string ⟨([w].map UInt8.ofNat).toArray⟩ from rfl] at hsa
   generalize u8s [w] = C3 at *
   generalize [w].map UInt8.ofNat = L3 at *
   simp only [tnI,Qa5,↓Zr,Z0,quiet,cF,↓pF,reduceCtorEq,Qb,Qp,Zh,Zf,Zg,Ze,Zc,Qj,Q3,Qi,Q2,Q6,Q5,↓Zu,↓Zm,↓Z5,↓Z9,↓Z6,↓Z7,cL,Qo,Qn,Qx,Qw,Qu,Ql,Qk,Qv,Qd,Qz,Q0,Qq,Qf,Qh,Qg,Qt,Qs,Qr,Qm,Qe,cJ,e1,w3,gt0,gw,fB,hb2,hby,hsa,hi1])
  (by
   simp only [tnI,Qa5,↓Zr,Z0,quiet,cF,↓pF,reduceCtorEq,Qb,Qp,Zh,Zf,Zg,Ze,Zc,Qj,Q3,Qi,Q2,Q6,Q5,↓Zu,↓Zm,↓Z5,↓Z9,↓Z6,↓Z7,cL,Qo,Qn,Qx,Qw,Qu,Ql,Qk,Qv,Qd,Qz,Q0,Qq,Qf,Qh,Qg,Qt,Qs,Qr,Qm,Qe,cJ])
theorem Qr3 {bs:List Nat} (xb:∀ y ∈ bs,y < 256) (hb:bs.length < 2 ^ 46):Vd T 20 [W9 bs] = some (.agg (u8s (Qcm bs)).toArray):=by
 have hz:Qa 32 (Value.int .u8 0) = u8s (dig 256 32 0):=rfl
 have lz:(dig 256 32 0).length = 32:=rfl
 have hz64:=Qbn
 have lz64:(Qa 64 0).length = 64:=Zd
 have hs:=Qi9 xb hb
 have lS:=Hg bs
 have h1:=Qul (G:=[⟨u8s (dig 256 32 0),true,true,true,1⟩,⟨u8s (sha bs),true,true,true,1⟩]) (S:=sha bs) rfl lS (Qbs bs)
 rw [show tnI [⟨u8s (dig 256 32 0),true,true,true,1⟩,⟨u8s (sha bs),true,true,true,1⟩] (sha bs) 0 [] = ⟨[(2,.pointer (some ⟨0,0,none⟩)),(3,.pointer (some ⟨1,0,none⟩)),(4,.string (ByteArray.mk #[])),(5,.int .i64 0)],[⟨u8s (dig 256 32 0),true,true,true,1⟩,⟨u8s (sha bs),true,true,true,1⟩],[]⟩ from rfl] at h1
 unfold tnI at h1
 rw [Zl (by omega)] at h1
 obtain ⟨l,hr⟩:=Qkn (bs:=sha bs) rfl (by rw [lS]; decide) (Qbs bs)
 have hrv:=Rs hr
 obtain ⟨X,hX⟩:∃ X,X = Tb (sha bs) 64:=⟨_,rfl⟩
 rw [← hX] at h1
 have lr:(rd (sha bs)).length = 32:=Qo3
 clear hX hs hr
 have hs:=Qi9 xb hb
 unfold Qcm
 have r1:rf (W9 bs) = true:=rfl
 have r2:rf (W9 (sha bs)) = true:=rfl
 generalize rd (sha bs) = R at *
 generalize W9 bs = V0 at *
 generalize W9 (sha bs) = V at *
 generalize sha bs = S at *
 generalize Qa 64 0 = Z64 at *
 generalize dig 256 32 0 = Z at *
 simp only [Zb,Za] at h1
 apply Xg
 apply Zt
 rw [Jb (fn:=Q2t) rfl]
 simp only [Q2t,↓Zr,Z0,quiet,cF,↓pF,reduceCtorEq,Qb,Qp,Zh,Zf,Zg,Ze,Zc,Qj,Q3,Qi,Q2,Q6,Q5,↓Zu,↓Zm,↓Z5,↓Z9,↓Z6,↓Z7,cL,Qo,Qn,Qx,Qw,Qu,Ql,Qk,Qv,Qd,Qz,Q0,Qq,Qf,Qh,Qg,Qt,Qs,Qr,Qm,Qe,cJ,hz,hz64,hs,h1,hrv,Jv,Xs,Vm,Xt,X2,lS,lz,lz64,lr,Xd,Zd,Vl,r1,r2]
 rfl
end Go.Ev.YtgacigcbglflkaaGreat
set_option linter.unusedSimpArgs false
set_option linter.unusedVariables false
namespace Go.Ev.YtgacigcbglflkaaGreat
open Go Go.Ev
open Go.NT (Pr)
set_option maxRecDepth 100000
theorem lp1:Pr 531581:=Go.NT.By (f:=729) (by decide) (by decide) (by decide +kernel)
theorem lp2:Pr 1224481:=Go.NT.By (f:=1106) (by decide) (by decide) (by decide +kernel)
theorem lp3:Pr 1257559732178653:=Go.NT.Ru (q:=531581) (k:=2365697292) (a:=2) (q2:=1224481) (k2:=1027014492) (a2:=2) (f:=51) lp1 lp2 (by decide +kernel)
theorem lp4:Pr 4434155615661930479:=Go.NT.Dh (q:=1257559732178653) (k:=3526) (a:=2) (f:=62) lp3 (by decide +kernel)
theorem lp5:Pr 172054593956031949258510691:=Go.NT.Dh (q:=4434155615661930479) (k:=38802110) (a:=2) (f:=88) lp4 (by decide +kernel)
theorem lp6:Pr 19757330305831588566944191468367130476339:=Go.NT.Dh (q:=172054593956031949258510691) (k:=114831751082918) (a:=2) (f:=134) lp5 (by decide +kernel)
theorem lp7:Pr 276602624281642239937218680557139826668747:=Go.NT.Dh (q:=19757330305831588566944191468367130476339) (k:=14) (a:=2) (f:=138) lp6 (by decide +kernel)
theorem Qj0:Pr ell:=Go.NT.Dh (q:=276602624281642239937218680557139826668747) (k:=26163907866482859529727157400808004) (a:=2) (f:=253) lp7 (by decide +kernel)
theorem Q2e:We ≠ U1:=fun h => Qp6 (by rw [h,Qjf])
theorem Qsb (p:Go.Cv.Pt Go.Fp.P Go.Fp.d):V9 1 p = p:=Go.Cv.mul_one Go.Fp.fld p
theorem Qjk {n:Nat} (h:V9 n We = U1):ell ∣ n:=by
 refine Classical.byContradiction fun hn => ?_
 have hf:=Go.NT.Qem Qj0 hn
 apply Q2e
 have e1:ell - 1 = (ell - 2) + 1:=by decide +kernel
 have h2:n ^ (ell - 1) = n ^ (ell - 2) * n:=by rw [e1,Kp]
 have h3:V9 (n ^ (ell - 1)) We = U1:=by rw [h2,Tx,h,Qjf]
 rw [← Hi Ho,hf,Qsb] at h3
 exact h3
theorem Qe3 {p q r:Go.Cv.Pt Go.Fp.P Go.Fp.d} (h:W3 p q = W3 p r):q = r:=Go.Cv.add_left_cancel Go.Fp.fld h
theorem Qn4 {a b:Nat} (ha:a < ell) (hb:b < ell) (h:V9 a We = V9 b We):a = b:=by
 have key:∀ {x y:Nat},x ≤ y → y < ell → V9 x We = V9 y We → x = y:=by
  intro x y hxy hy hh
  have e:y = x + (y - x):=by omega
  rw [e,Ma] at hh
  have h1:V9 (y - x) We = U1:=by
   refine (Qe3 (p:=V9 x We) ?_).symm
   rw [Qby]; exact hh
  obtain ⟨k,hk⟩:=Qjk h1
  rcases Yd k with h0 | h0
  ·rw [h0,Te] at hk; omega
  ·have:=Ug ell h0
   omega
 rcases Nat.le_total a b with hab | hab
 ·exact key hab hb h
 ·exact (key hab ha h.symm).symm
theorem Q1q (n:Nat) (h:ell ∣ 8 * n):ell ∣ n:=by
 have hc:Q6j ell 8:=Go.NT.Pr.coprime Qj0 (by decide +kernel)
 exact hc.dvd_of_dvd_mul_left h
theorem Qtn {a:List Nat} {x y:Nat} (la:a.length = 32) (xa:∀ z ∈ a,z < 256) (hx:a[0]? = some x) (hy:a[31]? = some y):num 256 (Gc a x y) % 8 = 0 ∧ 2 ^ 254 ≤ num 256 (Gc a x y) ∧ num 256 (Gc a x y) < 2 ^ 255:=by
 have hx':=xa x (Zk hx)
 have hy':=xa y (Zk hy)
 obtain ⟨t,ht⟩:∃ t,a = x :: t:=by
  cases a with
  | nil => simp at hx
  | cons z t => simp at hx; subst hx; exact ⟨t,rfl⟩
 have e8:x &&& 248 = x / 8 * 8:=(by decide +kernel:∀ v,v < 256 → v &&& 248 = v / 8 * 8) x hx'
 have e64:(y &&& 127) ||| 64 = y % 64 + 64:=(by decide +kernel:∀ v,v < 256 → (v &&& 127) ||| 64 = v % 64 + 64) y hy'
 have h1:=Ge (B:=256) (x &&& 248) hx
 have hy2:(a.set 0 (x &&& 248))[31]? = some y:=by rw [Ji (by decide)]; exact hy
 have h2:=Ge (B:=256) ((y &&& 127) ||| 64) hy2
 have hV:=num_lt xa
 rw [la] at hV
 have hg:=Bu (by decide:0 < 256) xa hy
 have hm:num 256 a % 256 = x:=by
  have:=Bu (by decide:0 < 256) xa hx
  rwa [Ya,Wi] at this
 unfold Gc
 rw [e8] at h1 h2 ⊢
 rw [e64] at h2 ⊢
 have e31:(256:Nat) ^ 31 = 452312848583266388373324160190187140051835877600158453279131187530910662656:=by decide
 have e32:(256:Nat) ^ 32 = 115792089237316195423570985008687907853269984665640564039457584007913129639936:=by decide
 have e254:(2:Nat) ^ 254 = 28948022309329048855892746252171976963317496166410141009864396001978282409984:=by decide
 have e255:(2:Nat) ^ 255 = 57896044618658097711785492504343953926634992332820282019728792003956564819968:=by decide
 rw [Ya,Xy,Xy] at h1
 rw [e31] at h2 hg
 rw [e32] at hV
 rw [e254,e255]
 generalize num 256 ((a.set 0 (x / 8 * 8)).set 31 (y % 64 + 64)) = N2 at *
 generalize num 256 (a.set 0 (x / 8 * 8)) = N1 at *
 generalize num 256 a = N at *
 have hyq:N / 452312848583266388373324160190187140051835877600158453279131187530910662656 = y:=by omega
 have hdm:=Vr N 452312848583266388373324160190187140051835877600158453279131187530910662656
 rw [hyq] at hdm
 have hmlt:=Jj N (by decide:0 < 452312848583266388373324160190187140051835877600158453279131187530910662656)
 have hlow:N % 452312848583266388373324160190187140051835877600158453279131187530910662656 % 256 = x:=by omega
 generalize N % 452312848583266388373324160190187140051835877600158453279131187530910662656 = M at *
 refine ⟨?_,?_,?_⟩ <;> omega
theorem Qza (s:List Nat):num 256 (scL s) % 8 = 0 ∧ 2 ^ 254 ≤ num 256 (scL s) ∧ num 256 (scL s) < 2 ^ 255:=by
 obtain ⟨x,g0,d0,lx⟩:=Qd6 s (i:=0) (by decide)
 obtain ⟨z,g31,d31,lz⟩:=Qd6 s (i:=31) (by decide)
 unfold scL
 rw [d0,d31]
 exact Qtn (by rw [Jx,Hg]; rfl) (fun y hy => Qbs s y (Kr hy)) (by rw [Ks,if_pos (by decide)]; exact g0) (by rw [Ks,if_pos (by decide)]; exact g31)
theorem Qux (s:List Nat):¬ ell ∣ num 256 (scL s):=by
 obtain ⟨h1,h2,h3⟩:=Qza s
 generalize num 256 (scL s) = a at *
 intro hd
 obtain ⟨k,rfl⟩:=hd
 have h7:k < 8:=Nat.lt_of_mul_lt_mul_left (a:=ell) (Uc h3 (by decide +kernel))
 have h0:0 < k:=by
  rcases Yd k with h | h
  ·rw [h,Te] at h2
   exact absurd h2 (by decide)
  ·exact h
 have hm:ell * k % 8 = (ell % 8) * k % 8:=by rw [Qql]
 have he:ell % 8 = 5:=by decide +kernel
 rw [hm,he] at h1
 clear h2 h3 hm he
 omega
end Go.Ev.YtgacigcbglflkaaGreat
set_option linter.unusedSimpArgs false
set_option linter.unusedVariables false
namespace Go.Ev.YtgacigcbglflkaaGreat
open Go Go.Ev
set_option maxRecDepth 100000
def W5:List Nat:=1 :: Qa 31 0
theorem Qi6:sha W5 = [206,12,38,94,204,130,221,140,238,110,86,206,68,228,93,175,215,160,197,117,13,249,20,178,83,161,251,122,138,246,109,219,153,118,54,7,240,168,93,11,212,54,105,25,74,58,64,87,122,82,138,243,149,244,241,126,6,241,222,252,198,222,178,165]:=by decide +kernel
theorem Qc1 {p q:Go.Cv.Pt Go.Fp.P Go.Fp.d} (h:enc p = enc q):p = q:=by
 have:=Qc2 p q
 rw [h] at this
 simp at this
 exact this
theorem Qgl (k:Nat) (p:Go.Cv.Pt Go.Fp.P Go.Fp.d):V9 k p.neg = (V9 k p).neg:=Go.Cv.mul_neg Go.Fp.fld k p
theorem Qy6 {s m:List Nat} {c:Int} (h:Qdr (Bm s) (frL s m) (bkL s m) m c):c = 0:=by
 have hA:enc (V9 (num 256 (scL s)) We) = Bm s:=rfl
 have hR:enc (V9 (num 256 (rL s m)) We) = frL s m:=rfl
 have hb:num 256 (bkL s m) = (num 256 (chL (frL s m) (Bm s) m) * num 256 (scL s) + num 256 (rL s m)) % ell:=Qwn _ _ _
 have hnt:V9 8 (V9 (num 256 (scL s)) We) ≠ U1:=fun h => Qux s (Q1q _ (Qjk (by rw [Tx]; exact h)))
 have hblt:num 256 (bkL s m) < ell:=by rw [hb]; exact Jj _ Du
 rcases h with ⟨h,-⟩ | ⟨A,eA,h⟩
 ·exact absurd hA (h _)
 ·have e1:=Qc1 (eA.trans hA.symm)
  rw [e1] at h
  rcases h with h | h
  ·obtain ⟨h,-⟩:=h
   cases h with
   | inl h => exact absurd h hnt
   | inr h => exact absurd hblt h
  ·have h:=h.2.2
   rcases h with ⟨h,-⟩ | ⟨R,eR,h⟩
   ·exact absurd hR (h _)
   ·have e2:=Qc1 (eR.trans hR.symm)
    rw [e2] at h
    rw [h,if_pos]
    rw [hb,Hi Ho,Ma,Tx,Qgl]
    generalize num 256 (chL (frL s m) (Bm s) m) = k
    generalize V9 k (V9 (num 256 (scL s)) We) = X
    rw [Qap X,Mb,Qcp,Qby]
theorem Qrv {s m back m':List Nat} {c:Int} (hl:back.length = 32) (hx:∀ y ∈ back,y < 256) (h:Qdr (Bm s) (frL s m) back m' c):c = 70 ∨ (c = 0 ∧ num 256 back < ell ∧ (num 256 back + num 256 (chL (frL s m) (Bm s) m) * num 256 (scL s)) % ell = (num 256 (bkL s m) + num 256 (chL (frL s m) (Bm s) m') * num 256 (scL s)) % ell):=by
 have hA:enc (V9 (num 256 (scL s)) We) = Bm s:=rfl
 have hR:enc (V9 (num 256 (rL s m)) We) = frL s m:=rfl
 have hb:num 256 (bkL s m) = (num 256 (chL (frL s m) (Bm s) m) * num 256 (scL s) + num 256 (rL s m)) % ell:=Qwn _ _ _
 rcases h with ⟨h,-⟩ | ⟨A,eA,h⟩
 ·exact absurd hA (h _)
 ·have e1:=Qc1 (eA.trans hA.symm)
  rw [e1] at h
  rcases h with h | h
  ·exact .inl h.2
  ·have hc:=h.2.1
   have h:=h.2.2
   rcases h with ⟨-,h⟩ | ⟨R,eR,h⟩
   ·exact .inl h
   ·have e2:=Qc1 (eR.trans hR.symm)
    rw [e2] at h
    split at h
    ·rename_i hq
     right
     refine ⟨h,hc,?_⟩
     apply Qn4 (Jj _ Du) (Jj _ Du)
     rw [Hi Ho,Hi Ho,Ma,Ma,hb,Hi Ho,Ma,Tx,Tx]
     rw [Qgl] at hq
     generalize V9 (num 256 (chL (frL s m) (Bm s) m)) (V9 (num 256 (scL s)) We) = X
     generalize V9 (num 256 (chL (frL s m) (Bm s) m')) (V9 (num 256 (scL s)) We) = Y at *
     rw [← hq]
     generalize V9 (num 256 back) We = Z
     rw [Mb X,Mb Z,Qap Y.neg,Qcp,Qby,Qap]
    ·exact .inl h
theorem Qru {s m m':List Nat} {c:Int} (hne:(num 256 (chL (frL s m) (Bm s) m) * num 256 (scL s)) % ell ≠ (num 256 (chL (frL s m) (Bm s) m') * num 256 (scL s)) % ell) (h:Qdr (Bm s) (frL s m) (bkL s m) m' c):c = 70:=by
 rcases Qrv (Qc8 s m) (Qqc s m) h with h | ⟨-,-,h⟩
 ·exact h
 ·exfalso
  apply hne
  generalize num 256 (chL (frL s m) (Bm s) m) * num 256 (scL s) = t at *
  generalize num 256 (chL (frL s m) (Bm s) m') * num 256 (scL s) = u at *
  generalize num 256 (bkL s m) = v at *
  have h1:V9 (v + t) We = V9 (v + u) We:=by rw [← Hi Ho,h,Hi Ho]
  rw [Ma,Ma] at h1
  have h2:=Qe3 h1
  apply Qn4 (Jj _ Du) (Jj _ Du)
  rw [Hi Ho,Hi Ho]; exact h2
theorem Q03 {a:Jac} {q:Go.Cv.Pt Go.Fp.P Go.Fp.d} (r:JRep a q) {xN yN:Nat} (hx:xN < Go.Fp.P) (hy:yN < Go.Fp.P) (c1:a.x % Go.Fp.P = xN * a.z % Go.Fp.P) (c2:a.y % Go.Fp.P = yN * a.z % Go.Fp.P):enc q = dig 256 32 (yN + xN % 2 * 2 ^ 255):=by
 have d1:=Go.Fp.Qbh.2 c1
 have d2:=Go.Fp.Qbh.2 c2
 have F:=Go.Fp.fld
 rw [Go.Fp.U0] at d1 d2
 have ex:q.x = Go.Fp.fp xN:=by
  refine F.cancel r.nz ?_
  have:=r.x
  rw [d1] at this
  generalize Go.Fp.fp a.z = z at *
  generalize Go.Fp.fp xN = u at *
  generalize q.x = w at *
  clear d1 d2 c1 c2 r
  grobner
 have ey:q.y = Go.Fp.fp yN:=by
  refine F.cancel r.nz ?_
  have:=r.y
  rw [d2] at this
  generalize Go.Fp.fp a.z = z at *
  generalize Go.Fp.fp yN = u at *
  generalize q.y = w at *
  clear d1 d2 c1 c2 r ex
  grobner
 have vx:q.x.val = xN:=by rw [ex]; exact Z3 hx
 have vy:q.y.val = yN:=by rw [ey]; exact Z3 hy
 rw [enc,Qb2,vx,vy]
def Qvw (a:Jac) (xN yN:Nat):Bool:=Nat.beq (a.x % Go.Fp.P) (xN * a.z % Go.Fp.P) && Nat.beq (a.y % Go.Fp.P) (yN * a.z % Go.Fp.P)
theorem Qrh {f n xN yN:Nat} (hn:n < 2 ^ f) (hx:xN < Go.Fp.P) (hy:yN < Go.Fp.P) (h:Qvw (Qpu Qnc f n) xN yN = true):enc (V9 n We) = dig 256 32 (yN + xN % 2 * 2 ^ 255):=by
 simp only [Qvw,Vw,Nat.beq_eq] at h
 exact Q03 (Qej.mul hn) hx hy h.1 h.2
theorem Qmg:num 256 (scL W5) = 41354757114163650016304086911142683682198188400503391378057401993857692208328:=by
 unfold scL; rw [Qi6]; decide +kernel
theorem Qr9:Bm W5 = [206,204,21,7,220,29,221,114,149,149,28,41,8,136,240,149,173,185,4,77,27,115,214,150,230,223,6,93,104,59,212,252]:=by
 unfold Bm
 rw [Qmg,Qrh (f:=256) (xN:=26822555233711949854380153315158647482531717314742952720223963642152101436051) (yN:=56461774818723834839721450787889437474891852695816614318545467683432985644238) (by decide) (by decide) (by decide) (by decide +kernel)]
 decide +kernel
theorem Qzt:num 256 (rL W5 [97,98]) = 7190534050387402144765361376655957038148003192940851339449226809932380300429:=by
 have h:sha (pfL W5 ++ [97,98]) = [245,131,162,243,57,11,83,147,38,239,238,183,86,182,16,217,82,20,190,29,33,101,218,112,39,67,38,43,126,6,51,219,187,123,239,137,61,76,188,0,26,80,214,37,40,102,17,26,190,188,49,139,180,91,207,69,39,118,219,241,76,130,218,172]:=by
  unfold pfL; rw [Qi6]; decide +kernel
 unfold rL Qcm rd
 rw [h]; decide +kernel
theorem Qxo:frL W5 [97,98] = [134,63,78,239,9,61,234,83,110,157,208,124,146,195,3,229,241,254,201,125,3,83,36,232,178,253,110,174,138,47,113,26]:=by
 unfold frL
 rw [Qzt,Qrh (f:=256) (xN:=32550285640094647749913757797573026337242524108283111522313707369526038663284) (yN:=11960115902405820554232334576818862127346778307006478725868305158423201070982) (by decide) (by decide) (by decide) (by decide +kernel)]
 decide +kernel
theorem Qya:(num 256 (chL (frL W5 [97,98]) (Bm W5) [97,98]) * num 256 (scL W5)) % ell ≠ (num 256 (chL (frL W5 [97,98]) (Bm W5) [97,99]) * num 256 (scL W5)) % ell:=by
 rw [Qxo,Qr9,Qmg]
 have h1:num 256 (chL [134,63,78,239,9,61,234,83,110,157,208,124,146,195,3,229,241,254,201,125,3,83,36,232,178,253,110,174,138,47,113,26] [206,204,21,7,220,29,221,114,149,149,28,41,8,136,240,149,173,185,4,77,27,115,214,150,230,223,6,93,104,59,212,252] [97,98]) = 4345896033909676126526464428017597814750041397111024468569518375243159531215:=by decide +kernel
 have h2:num 256 (chL [134,63,78,239,9,61,234,83,110,157,208,124,146,195,3,229,241,254,201,125,3,83,36,232,178,253,110,174,138,47,113,26] [206,204,21,7,220,29,221,114,149,149,28,41,8,136,240,149,173,185,4,77,27,115,214,150,230,223,6,93,104,59,212,252] [97,99]) = 6890909591804878976832584633512085998992470259931648135772900504642653770023:=by decide +kernel
 rw [h1,h2]
 decide +kernel
end Go.Ev.YtgacigcbglflkaaGreat
set_option linter.unusedSimpArgs false
set_option linter.unusedVariables false
namespace Go.Ev.YtgacigcbglflkaaGreat
open Go Go.Ev
attribute [local congr] W7 Ul W6 Um Ww
set_option maxRecDepth 100000
def tcI (Hm:List Ob) (m:Value) (F B:List Nat) (i:Nat) (ex:Env):St:=⟨[(2,m),(3,.pointer (some ⟨0,0,none⟩)),(4,.pointer (some ⟨1,0,none⟩)),(7,.pointer (some ⟨2,0,none⟩)),(9,.pointer (some ⟨3,0,none⟩)),(10,.pointer (some ⟨4,0,none⟩)),(11,.int .i64 i)] ++ ex,Hm ++ [⟨u8s F,true,true,true,1⟩,⟨u8s B,true,true,true,1⟩],[]⟩
theorem Quo {o0 o2:Ob} {m:Value} {F B:List Nat} (lF:F.length = 32) (lB:B.length = 32) :
  Jk T 0 (.block 0 (.loop Qdg)) (tcI [o0,⟨u8s (F ++ B),true,true,true,1⟩,o2] m (dig 256 32 0) (dig 256 32 0) 0 []) = some (.normal,tcI [o0,⟨u8s (F ++ B),true,true,true,1⟩,o2] m F B 32 [(26,.bool false)]):=by
 have h:=Wc (T:=T) (base:=0) (id:=0) (body:=Qdg) (fun i => tcI [o0,⟨u8s (F ++ B),true,true,true,1⟩,o2] m (pf 32 F i) (pf 32 B i) i []) (s':=tcI [o0,⟨u8s (F ++ B),true,true,true,1⟩,o2] m F B 32 [(26,.bool false)]) 32
  (fun i hi => by
   have hi:i < 32:=hi
   obtain ⟨w,hw⟩:∃ w,F[i]? = some w:=⟨_,Q1 (by omega)⟩
   obtain ⟨z,hz⟩:∃ z,B[i]? = some z:=⟨_,Q1 (by omega)⟩
   have s1:=Gq lF hi hw
   have s2:=Gq lB hi hz
   have hset:=U2 (pf 32 F i) i w
   have hset2:=U2 (pf 32 B i) i z
   rw [s1] at hset
   rw [s2] at hset2
   have l1:i + 1 ≤ (u8s (pf 32 F i)).length:=by rw [X2,Hw lF (by omega)]; omega
   have l2:i + 1 ≤ (u8s (pf 32 B i)).length:=by rw [X2,Hw lB (by omega)]; omega
   have e1:((i:Int) < 32) = True:=eq_true (by omega)
   have e2:((i:Int) < 64) = True:=eq_true (by omega)
   have e3:(((i + 32:Nat):Int) < 64) = True:=eq_true (by omega)
   have w3:IntKind.i64.wrap ((i:Int) + 1) = ((i + 1:Nat):Int):=Y0 (b:=1) (by omega)
   have w4:IntKind.i64.wrap ((i:Int) + 32) = ((i + 32:Nat):Int):=Y0 (b:=32) (by omega)
   have gw:(u8s (F ++ B))[i]? = some (.int .u8 (w:Nat)):=Wp (by rw [Qy (by omega),hw])
   have gz:(u8s (F ++ B))[i + 32]? = some (.int .u8 (z:Nat)):=Wp (by rw [Zi (by omega),lF,Nat.add_sub_cancel,hz])
   generalize pf 32 F i = O1 at *
   generalize pf 32 F (i + 1) = O2 at *
   generalize pf 32 B i = O3 at *
   generalize pf 32 B (i + 1) = O4 at *
   generalize hi1:i + 1 = i1 at *
   generalize hi2:i + 32 = i2 at *
   generalize F ++ B = SG at *
   have im:∀ k,Xo 0 [] [k] = []:=fun k => Yl (by simp)
   simp only [tcI,Qdg,↓Zr,Z0,quiet,cF,↓pF,reduceCtorEq,Qb,Qp,Zh,Zf,Zg,Ze,Zc,Qj,Q3,Qi,Q2,Q6,Q5,↓Zu,↓Zm,↓Z5,↓Z9,↓Z6,↓Z7,cL,Qo,Qn,Qx,Qw,Qu,Ql,Qk,Qv,Qd,Qz,Q0,Qq,Qf,Qh,Qg,Qt,Qs,Qr,Qm,Qe,cJ,e1,e2,e3,w3,w4,gw,gz,hset,hset2,l1,l2,hi1,hi2,im])
  (by
   rw [Hy lF,Hy lB]
   simp only [tcI,Qdg,↓Zr,Z0,quiet,cF,↓pF,reduceCtorEq,Qb,Qp,Zh,Zf,Zg,Ze,Zc,Qj,Q3,Qi,Q2,Q6,Q5,↓Zu,↓Zm,↓Z5,↓Z9,↓Z6,↓Z7,cL,Qo,Qn,Qx,Qw,Qu,Ql,Qk,Qv,Qd,Qz,Q0,Qq,Qf,Qh,Qg,Qt,Qs,Qr,Qm,Qe,cJ])
 rw [Hx,Hx] at h
 exact h
theorem Qti:enc U1 = dig 256 32 1:=by decide +kernel
theorem Qyl {S K R:Go.Cv.Pt Go.Fp.P Go.Fp.d}:W3 S K.neg = R ↔ S = W3 R K:=by
 have hz:∀ p:Go.Cv.Pt Go.Fp.P Go.Fp.d,W3 p U1 = p:=fun p => Go.Cv.add_zero Go.Fp.fld p
 have hn:W3 K.neg K = U1:=by rw [Qap]; exact Qcp K
 constructor
 ·intro h
  rw [← h,Mb,hn,hz]
 ·intro h
  rw [h,Mb,Qcp,hz]
theorem Qsy:fillL (u8s (dig 256 32 0)) [(0,1,.int .u8 8)] = some (u8s (dig 256 32 8)):=by rfl
theorem Q02:fillL (u8s (dig 256 32 0)) [(0,1,.int .u8 1)] = some (u8s (dig 256 32 1)):=by rfl
theorem Qvk {pub front back m:List Nat} {c:Int} (lp:pub.length = 32) (xp:∀ y ∈ pub,y < 256) (lf:front.length = 32) (xf:∀ y ∈ front,y < 256) (lb:back.length = 32) (xb:∀ y ∈ back,y < 256) (xm:∀ y ∈ m,y < 256) (hm:m.length < 2 ^ 45) (hc:Qdr pub front back m c) :
  Vd T 12 [.agg (u8s pub).toArray,.agg (u8s (front ++ back)).toArray,W9 m] = some (.int .i64 c):=by
 have hz:Qa 32 (Value.int .u8 0) = u8s (dig 256 32 0):=rfl
 have lz:(dig 256 32 0).length = 32:=rfl
 have fz:=Qls
 have hz48:=Qdw
 have lz48:=Qag
 have rft:∀ (r:List Nat) (c:Int),rf (Value.tuple #[eV r,.int .i64 c]) = true:=fun r c => R1 (a:=eV r) (b := .int .i64 c) (Vl r) rfl
 have lS:(front ++ back).length = 64:=by rw [Z4,lf,lb]
 have r0:rf (W9 m) = true:=rfl
 rcases Qea lp xp with ⟨A,a,hA,rA,eA⟩ | ⟨A,hA,lA,hno⟩
 ·unfold Rd at hA
  have p1:=rA.len
  have hl:=Quo (o0:=⟨u8s pub,true,true,true,1⟩) (o2:=⟨ns .u64 A,true,true,true,1⟩) (m:=W9 m) lf lb
  simp only [tcI,Zb,Za,Xu] at hl
  obtain ⟨a',ea',hc⟩:∃ A,enc A = pub ∧ (((V9 8 A = U1 ∨ ¬ num 256 back < ell) ∧ c = 70) ∨ (V9 8 A ≠ U1 ∧ num 256 back < ell ∧
   (((∀ R,enc R ≠ front) ∧ c = 70) ∨ ∃ R,enc R = front ∧ c = if W3 (V9 (num 256 back) We) (V9 (num 256 (chL front pub m)) A.neg) = R then 0 else 70))):=by
   rcases hc with h | h
   ·exact absurd eA (h.1 a)
   ·exact h
  have haa:a' = a:=Qlb (ea'.trans eA.symm)
  subst haa
  obtain ⟨P8,h8,r8⟩:=Tu rA (k:=dig 256 32 8) (Kb _ _ _) T6
  rw [show num 256 (dig 256 32 8) = 8 by decide +kernel] at r8
  have hE8:=Qd9 r8
  have k8:=Qsy
  have k1:=Q02
  have l8:(dig 256 32 8).length = 32:=rfl
  have l1:(dig 256 32 1).length = 32:=rfl
  have lE8:=Db (V9 8 a')
  have q8:Y2 (Qa 32 true) (u8s (enc (V9 8 a'))) (u8s (dig 256 32 1)) = some (decide (V9 8 a' = U1)):=by
   rw [Gn lE8 l1,← Qti,Qc2]
  obtain ⟨qc,hcn⟩:=Qfd lb xb
  have hcv:=Rs hcn
  clear hcn
  by_cases htiny:V9 8 a' = U1
  ·have hc70:c = 70:=by
    rcases hc with h | h
    ·exact h.2
    ·exact absurd htiny h.1
   subst hc70
   rw [decide_eq_true htiny] at q8
   generalize enc (V9 8 a') = E8 at *
   generalize front ++ back = SG at *
   generalize W9 m = M at *
   generalize dig 256 32 8 = K8 at *
   generalize dig 256 32 1 = K1 at *
   generalize dig 256 32 0 = Z at *
   generalize B2 = Z48 at *
   apply Xg
   apply Zt
   rw [Jb (fn:=Qdh) rfl]
   simp only [Qdh,↓Zr,Z0,quiet,cF,↓pF,reduceCtorEq,Qb,Qp,Zh,Zf,Zg,Ze,Zc,Qj,Q3,Qi,Q2,Q6,Q5,↓Zu,↓Zm,↓Z5,↓Z9,↓Z6,↓Z7,cL,Qo,Qn,Qx,Qw,Qu,Ql,Qk,Qv,Qd,Qz,Q0,Qq,Qf,Qh,Qg,Qt,Qs,Qr,Qm,Qe,cJ,hz,fz,hz48,hA,hl,h8,hE8,k8,k1,q8,hcv,Jv,Xs,Vm,Xt,J0,X2,lp,lf,lb,lS,lz,lz48,l8,l1,lE8,p1,Xd,Zd,rft,Vl,r0]
   rfl
  ·rw [decide_eq_false htiny] at q8
   by_cases hcan:num 256 back < ell
   ·rw [decide_eq_true hcan] at hcv
    have hc:(((∀ R,enc R ≠ front) ∧ c = 70) ∨ ∃ R,enc R = front ∧ c = if W3 (V9 (num 256 back) We) (V9 (num 256 (chL front pub m)) a'.neg) = R then 0 else 70):=by
     rcases hc with h | h
     ·rcases h.1 with h | h
      ·exact absurd h htiny
      ·exact absurd hcan h
     ·exact h.2.2
    rcases Qea lf xf with ⟨R,r,hR,rR,eR⟩ | ⟨R,hR,lR,hnR⟩
    ·unfold Rd at hR
     have p2:=rR.len
     have hcr:c = if W3 (V9 (num 256 back) We) (V9 (num 256 (chL front pub m)) a'.neg) = r then 0 else 70:=by
      rcases hc with h | ⟨r',er',h⟩
      ·exact absurd eR (h.1 r)
      ·rw [← Qlb (er'.trans eR.symm)]; exact h
     rw [Qgl] at hcr
     simp only [Qyl] at hcr
     have t2:=Qqu lf xf
     have t3:=Qqu lp xp
     have a2:Y3 .add (W9 front) (W9 pub) = some (W9 (front ++ pub)):=Qcf (by rw [lf,lp]; decide)
     have a3:Y3 .add (W9 (front ++ pub)) (W9 m) = some (W9 (front ++ pub ++ m)):=Qcf (by rw [Z4,lf,lp]; omega)
     have n2:Vd T 20 [W9 (front ++ pub ++ m)] = some (.agg (u8s (chL front pub m)).toArray):=by
      rw [chL,← J3]
      exact Qr3 (fun y hy => (Xb.1 hy).elim (fun h => (Xb.1 h).elim (xf y) (xp y)) (xm y)) (by rw [Z4,Z4,lf,lp]; omega)
     have l4:(chL front pub m).length = 32:=Tw
     obtain ⟨B,hB,rB⟩:=Qzs
     obtain ⟨X,hX,rX⟩:=Tu rB lb xb
     have hEX:=Qd9 rX
     obtain ⟨Y,hY,rY⟩:=Tu rA l4 Qcl
     obtain ⟨D,hD,nD,fD⟩:=Q43
     obtain ⟨W,hW,rW⟩:=Qkp rR rY nD fD
     have hEW:=Qd9 rW
     have lEX:=Db (V9 (num 256 back) We)
     have lEW:=Db (W3 r (V9 (num 256 (chL front pub m)) a'))
     have qf:Y2 (Qa 32 true) (u8s (enc (V9 (num 256 back) We))) (u8s (enc (W3 r (V9 (num 256 (chL front pub m)) a')))) = some (decide (V9 (num 256 back) We = W3 r (V9 (num 256 (chL front pub m)) a'))):=by
      rw [Gn lEX lEW,Qc2]
     have r1:rf (W9 (front ++ pub ++ m)) = true:=rfl
     have r2:rf (W9 front) = true:=rfl
     have r3:rf (W9 pub) = true:=rfl
     have p3:=rX.len
     have p4:=rY.len
     have p5:=rW.len
     have p6:=rB.len
     by_cases hfin:V9 (num 256 back) We = W3 r (V9 (num 256 (chL front pub m)) a')
     ·rw [if_pos hfin] at hcr
      subst hcr
      rw [decide_eq_true hfin] at qf
      clear hc hfin rX rY rW rB rR rA r8
      generalize enc (V9 (num 256 back) We) = EX at *
      generalize enc (W3 r (V9 (num 256 (chL front pub m)) a')) = EW at *
      generalize chL front pub m = CH at *
      generalize enc (V9 8 a') = E8 at *
      generalize W9 (front ++ pub ++ m) = V1 at *
      generalize W9 (front ++ pub) = V2 at *
      generalize W9 front = V3 at *
      generalize W9 pub = V4 at *
      generalize front ++ back = SG at *
      generalize W9 m = M at *
      generalize dig 256 32 8 = K8 at *
      generalize dig 256 32 1 = K1 at *
      generalize dig 256 32 0 = Z at *
      generalize B2 = Z48 at *
      apply Xg
      apply Zt
      rw [Jb (fn:=Qdh) rfl]
      simp only [Qdh,↓Zr,Z0,quiet,cF,↓pF,reduceCtorEq,Qb,Qp,Zh,Zf,Zg,Ze,Zc,Qj,Q3,Qi,Q2,Q6,Q5,↓Zu,↓Zm,↓Z5,↓Z9,↓Z6,↓Z7,cL,Qo,Qn,Qx,Qw,Qu,Ql,Qk,Qv,Qd,Qz,Q0,Qq,Qf,Qh,Qg,Qt,Qs,Qr,Qm,Qe,cJ,hz,fz,hz48,hA,hl,h8,hE8,k8,k1,q8,hcv,hR,t2,t3,a2,a3,n2,hB,hX,hEX,hY,hD,hW,hEW,qf,Jv,Xs,Vm,Xt,J0,X2,lp,lf,lb,lS,lz,lz48,l8,l1,l4,lEX,lEW,lE8,p1,p2,p3,p4,p5,p6,Xd,Zd,rft,Vl,r0,r1,r2,r3]
      rfl
     ·rw [if_neg hfin] at hcr
      subst hcr
      rw [decide_eq_false hfin] at qf
      clear hc hfin rX rY rW rB rR rA r8
      generalize enc (V9 (num 256 back) We) = EX at *
      generalize enc (W3 r (V9 (num 256 (chL front pub m)) a')) = EW at *
      generalize chL front pub m = CH at *
      generalize enc (V9 8 a') = E8 at *
      generalize W9 (front ++ pub ++ m) = V1 at *
      generalize W9 (front ++ pub) = V2 at *
      generalize W9 front = V3 at *
      generalize W9 pub = V4 at *
      generalize front ++ back = SG at *
      generalize W9 m = M at *
      generalize dig 256 32 8 = K8 at *
      generalize dig 256 32 1 = K1 at *
      generalize dig 256 32 0 = Z at *
      generalize B2 = Z48 at *
      apply Xg
      apply Zt
      rw [Jb (fn:=Qdh) rfl]
      simp only [Qdh,↓Zr,Z0,quiet,cF,↓pF,reduceCtorEq,Qb,Qp,Zh,Zf,Zg,Ze,Zc,Qj,Q3,Qi,Q2,Q6,Q5,↓Zu,↓Zm,↓Z5,↓Z9,↓Z6,↓Z7,cL,Qo,Qn,Qx,Qw,Qu,Ql,Qk,Qv,Qd,Qz,Q0,Qq,Qf,Qh,Qg,Qt,Qs,Qr,Qm,Qe,cJ,hz,fz,hz48,hA,hl,h8,hE8,k8,k1,q8,hcv,hR,t2,t3,a2,a3,n2,hB,hX,hEX,hY,hD,hW,hEW,qf,Jv,Xs,Vm,Xt,J0,X2,lp,lf,lb,lS,lz,lz48,l8,l1,l4,lEX,lEW,lE8,p1,p2,p3,p4,p5,p6,Xd,Zd,rft,Vl,r0,r1,r2,r3]
      rfl
    ·unfold Rd at hR
     have hc70:c = 70:=by
      rcases hc with h | ⟨r',er',h⟩
      ·exact h.2
      ·exact absurd er' (hnR r')
     subst hc70
     clear hc
     generalize enc (V9 8 a') = E8 at *
     generalize front ++ back = SG at *
     generalize W9 m = M at *
     generalize dig 256 32 8 = K8 at *
     generalize dig 256 32 1 = K1 at *
     generalize dig 256 32 0 = Z at *
     generalize B2 = Z48 at *
     apply Xg
     apply Zt
     rw [Jb (fn:=Qdh) rfl]
     simp only [Qdh,↓Zr,Z0,quiet,cF,↓pF,reduceCtorEq,Qb,Qp,Zh,Zf,Zg,Ze,Zc,Qj,Q3,Qi,Q2,Q6,Q5,↓Zu,↓Zm,↓Z5,↓Z9,↓Z6,↓Z7,cL,Qo,Qn,Qx,Qw,Qu,Ql,Qk,Qv,Qd,Qz,Q0,Qq,Qf,Qh,Qg,Qt,Qs,Qr,Qm,Qe,cJ,hz,fz,hz48,hA,hl,h8,hE8,k8,k1,q8,hcv,hR,Jv,Xs,Vm,Xt,J0,X2,lp,lf,lb,lS,lz,lz48,l8,l1,lE8,lR,p1,Xd,Zd,rft,Vl,r0]
     rfl
   ·rw [decide_eq_false hcan] at hcv
    have hc70:c = 70:=by
     rcases hc with h | h
     ·exact h.2
     ·exact absurd h.2.1 hcan
    subst hc70
    clear hc
    generalize enc (V9 8 a') = E8 at *
    generalize front ++ back = SG at *
    generalize W9 m = M at *
    generalize dig 256 32 8 = K8 at *
    generalize dig 256 32 1 = K1 at *
    generalize dig 256 32 0 = Z at *
    generalize B2 = Z48 at *
    apply Xg
    apply Zt
    rw [Jb (fn:=Qdh) rfl]
    simp only [Qdh,↓Zr,Z0,quiet,cF,↓pF,reduceCtorEq,Qb,Qp,Zh,Zf,Zg,Ze,Zc,Qj,Q3,Qi,Q2,Q6,Q5,↓Zu,↓Zm,↓Z5,↓Z9,↓Z6,↓Z7,cL,Qo,Qn,Qx,Qw,Qu,Ql,Qk,Qv,Qd,Qz,Q0,Qq,Qf,Qh,Qg,Qt,Qs,Qr,Qm,Qe,cJ,hz,fz,hz48,hA,hl,h8,hE8,k8,k1,q8,hcv,Jv,Xs,Vm,Xt,J0,X2,lp,lf,lb,lS,lz,lz48,l8,l1,lE8,p1,Xd,Zd,rft,Vl,r0]
    rfl
 ·unfold Rd at hA
  have hc60:c = 60:=by
   rcases hc with h | ⟨a,ea,h⟩
   ·exact h.2
   ·exact absurd ea (hno a)
  subst hc60
  clear hc
  generalize front ++ back = SG at *
  generalize W9 m = M at *
  generalize B2 = Z48 at *
  apply Xg
  apply Zt
  rw [Jb (fn:=Qdh) rfl]
  simp only [Qdh,↓Zr,Z0,quiet,cF,↓pF,reduceCtorEq,Qb,Qp,Zh,Zf,Zg,Ze,Zc,Qj,Q3,Qi,Q2,Q6,Q5,↓Zu,↓Zm,↓Z5,↓Z9,↓Z6,↓Z7,cL,Qo,Qn,Qx,Qw,Qu,Ql,Qk,Qv,Qd,Qz,Q0,Qq,Qf,Qh,Qg,Qt,Qs,Qr,Qm,Qe,cJ,hz,fz,hz48,hA,Jv,Xs,Vm,Xt,J0,X2,lp,lf,lb,lS,lz,lz48,lA,Xd,Zd,rft,Vl,r0]
  rfl
theorem Qd7:W5.length = 32:=rfl
theorem Qmf:∀ y ∈ W5,y < 256:=by decide
theorem Args.one {H:List Ob} {a b n c:Nat} {t:List Nat} {e:Bool} {s:Nat} (ha:H[a]? = some ⟨[.slice (some ⟨b,0,none⟩) n n],true,true,e,s⟩) {e':Bool} {s':Nat} (hb:H[b]? = some ⟨u8s t,true,true,e',s'⟩) (hn:t.length = n) (xt:∀ y ∈ t,y < 256) (h40:n ≤ 2 ^ 47 - 4096):Args H (.slice (some ⟨a,0,none⟩) 1 c) [t]:=by
 have hp:HPart (LtN H.length) H (.slice (some ⟨b,0,none⟩) n n) t:=by
  have:=HPart.whole (n:=H.length) (c:=n) (Q8.1 hb).1 hb xt (by omega)
  rwa [hn] at this
 exact Args.arr ha rfl (.cons hp .nil) (by decide)
theorem Q4y:Vd T 6 [] = some (.bool true):=by
 have hz:Qa 32 (Value.int .u8 0) = u8s (dig 256 32 0):=rfl
 have lz:(dig 256 32 0).length = 32:=rfl
 have hz64:=Qbn
 have lz64:(Qa 64 0).length = 64:=Zd
 have fk:fillL (u8s (dig 256 32 0)) [(0,1,.int .u8 1)] = some (u8s W5):=rfl
 have f97:fillL [Value.int .u8 0] [(0,1,.int .u8 97)] = some (u8s [97]):=rfl
 have f98:fillL [Value.int .u8 0] [(0,1,.int .u8 98)] = some (u8s [98]):=rfl
 have fab:fillL [Value.int .u8 0,.int .u8 0] [(0,1,.int .u8 97),(1,1,.int .u8 98)] = some (u8s [97,98]):=rfl
 have fac:fillL [Value.int .u8 0,.int .u8 0] [(0,1,.int .u8 97),(1,1,.int .u8 99)] = some (u8s [97,99]):=rfl
 have f2:fillL [Value.slice none 0 0,.slice none 0 0] [(0,1,.slice (some ⟨0,0,none⟩) 1 1),(1,1,.slice (some ⟨1,0,none⟩) 1 1)] = some [.slice (some ⟨0,0,none⟩) 1 1,.slice (some ⟨1,0,none⟩) 1 1]:=rfl
 have f1:∀ b n:Nat,fillL [Value.slice none 0 0] [(0,1,.slice (some ⟨b,0,none⟩) n n)] = some [.slice (some ⟨b,0,none⟩) n n]:=fun _ _ => rfl
 have lk:=Qd7
 have hpub:=Qvv Qd7 Qmf
 have lP:=Qco W5
 obtain ⟨G1,hG1⟩:∃ X,X = [(⟨u8s [97],true,true,true,1⟩:Ob),⟨u8s [98],true,true,true,1⟩,⟨[.slice (some ⟨0,0,none⟩) 1 1,.slice (some ⟨1,0,none⟩) 1 1],true,true,true,1⟩]:=⟨_,rfl⟩
 have hA1:Args G1 (.slice (some ⟨2,0,none⟩) 2 2) [[97],[98]]:=by
  have p1:HPart (LtN G1.length) G1 (.slice (some ⟨0,0,none⟩) 1 1) [97]:=HPart.whole (b:=[97]) (w:=true) (e:=true) (s:=1) (by rw [hG1]; exact (by decide:0 < 3)) (by rw [hG1]; rfl) (by decide) (by decide)
  have p2:HPart (LtN G1.length) G1 (.slice (some ⟨1,0,none⟩) 1 1) [98]:=HPart.whole (b:=[98]) (w:=true) (e:=true) (s:=1) (by rw [hG1]; exact (by decide:1 < 3)) (by rw [hG1]; rfl) (by decide) (by decide)
  exact Args.arr (ys:=[.slice (some ⟨0,0,none⟩) 1 1,.slice (some ⟨1,0,none⟩) 1 1]) (e:=true) (s:=1) (by rw [hG1]; rfl) rfl (.cons p1 (.cons p2 .nil)) (by decide)
 obtain ⟨l1,hm⟩:=Q0w Qd7 Qmf hA1 (by decide) (by decide)
 rw [show ([[97],[98]]:List (List Nat)).flatten = [97,98] from rfl] at hm
 have lS:=Qmd W5 [97,98]
 obtain ⟨G2,hG2⟩:∃ X,X = G1 ++ l1:=⟨_,rfl⟩
 obtain ⟨G3,hG3⟩:∃ X,X = G2 ++ [(⟨u8s (Qbr W5 [97,98]),true,true,true,1⟩:Ob),⟨u8s (Bm W5),true,true,true,1⟩,⟨u8s [97,98],true,true,true,1⟩,⟨[.slice (some ⟨G2.length + 2,0,none⟩) 2 2],true,true,true,1⟩]:=⟨_,rfl⟩
 have lG3:G3.length = G2.length + 4:=by rw [hG3]; simp
 have g3:∀ j,G3[G2.length + j]? = [(⟨u8s (Qbr W5 [97,98]),true,true,true,1⟩:Ob),⟨u8s (Bm W5),true,true,true,1⟩,⟨u8s [97,98],true,true,true,1⟩,⟨[.slice (some ⟨G2.length + 2,0,none⟩) 2 2],true,true,true,1⟩][j]? := fun j => by rw [hG3,Zi (by omega),Ke]
 have hA3:Args G3 (.slice (some ⟨G2.length + 3,0,none⟩) 1 1) [[97,98]]:=Args.one (g3 3) (g3 2) rfl (by decide) (by decide)
 obtain ⟨l3,c1,hc1,hs1⟩:=Qhd (Qco W5) (Qks W5) (Qfs W5 [97,98]) (Qp2 W5 [97,98]) (Qc8 W5 [97,98]) (Qqc W5 [97,98]) hA3 (by decide) (by decide)
 rw [show ([[97,98]]:List (List Nat)).flatten = [97,98] from rfl] at hs1
 have e1:=Qy6 hs1
 subst e1
 obtain ⟨G4,hG4⟩:∃ X,X = G3 ++ l3:=⟨_,rfl⟩
 have lG4:G3.length ≤ G4.length:=by rw [hG4]; simp
 obtain ⟨G5,hG5⟩:∃ X,X = G4 ++ [(⟨u8s [97,99],true,true,true,1⟩:Ob),⟨[.slice (some ⟨G4.length,0,none⟩) 2 2],true,true,true,1⟩]:=⟨_,rfl⟩
 have g5:∀ j,G5[G4.length + j]? = [(⟨u8s [97,99],true,true,true,1⟩:Ob),⟨[.slice (some ⟨G4.length,0,none⟩) 2 2],true,true,true,1⟩][j]? := fun j => by rw [hG5,Zi (by omega),Ke]
 have hA5:Args G5 (.slice (some ⟨G4.length + 1,0,none⟩) 1 1) [[97,99]]:=Args.one (g5 1) (g5 0) rfl (by decide) (by decide)
 obtain ⟨l5,c2,hc2,hs2⟩:=Qhd (Qco W5) (Qks W5) (Qfs W5 [97,98]) (Qp2 W5 [97,98]) (Qc8 W5 [97,98]) (Qqc W5 [97,98]) hA5 (by decide) (by decide)
 rw [show ([[97,99]]:List (List Nat)).flatten = [97,99] from rfl] at hs2
 have e2:=Qru Qya hs2
 subst e2
 rw [show frL W5 [97,98] ++ bkL W5 [97,98] = Qbr W5 [97,98] from rfl] at hc1 hc2
 have F1:[(⟨u8s [97],true,true,true,1⟩:Ob),⟨u8s [98],true,true,true,1⟩,⟨[.slice (some ⟨0,0,none⟩) 1 1,.slice (some ⟨1,0,none⟩) 1 1],true,true,true,1⟩] = G1:=hG1.symm
 have F2:G1 ++ l1 = G2:=hG2.symm
 have F3:G2 ++ [(⟨u8s (Qbr W5 [97,98]),true,true,true,1⟩:Ob),⟨u8s (Bm W5),true,true,true,1⟩,⟨u8s [97,98],true,true,true,1⟩,⟨[.slice (some ⟨G2.length + 2,0,none⟩) 2 2],true,true,true,1⟩] = G3:=hG3.symm
 have F4:G3 ++ l3 = G4:=hG4.symm
 have F5:G4 ++ [(⟨u8s [97,99],true,true,true,1⟩:Ob),⟨[.slice (some ⟨G4.length,0,none⟩) 2 2],true,true,true,1⟩] = G5:=hG5.symm
 have u4:∀ l:List Ob,(G4 ++ l)[G2.length]? = some ⟨u8s (Qbr W5 [97,98]),true,true,true,1⟩:=fun l => by
  rw [Qy (by omega),hG4,Qy (by omega)]; exact g3 0
 have u4':∀ l:List Ob,(G4 ++ l)[G2.length + 1]? = some ⟨u8s (Bm W5),true,true,true,1⟩:=fun l => by
  rw [Qy (by omega),hG4,Qy (by omega)]; exact g3 1
 have u5:G4[G2.length]? = some ⟨u8s (Qbr W5 [97,98]),true,true,true,1⟩:=by
  rw [hG4,Qy (by omega)]; exact g3 0
 have u5':G4[G2.length + 1]? = some ⟨u8s (Bm W5),true,true,true,1⟩:=by
  rw [hG4,Qy (by omega)]; exact g3 1
 clear hG1 hG2 hG3 hG4 hG5 hs1 hs2 g3 g5 hA1 hA3 hA5
 generalize Qbr W5 [97,98] = S at *
 generalize Bm W5 = P at *
 generalize dig 256 32 0 = Z at *
 generalize Qa 64 0 = Z64 at *
 generalize W5 = K at *
 generalize u8s [97] = b97 at *
 generalize u8s [98] = b98 at *
 generalize u8s [97,98] = bab at *
 generalize u8s [97,99] = bac at *
 apply Xg
 apply Zt
 rw [Jb (fn:=Q28) rfl]
 simp only [Q28,↓Zr,Z0,quiet,cF,↓pF,reduceCtorEq,Qb,Qp,Zh,Zf,Zg,Ze,Zc,Qj,Q3,Qi,Q2,Q6,Q5,↓Zu,↓Zm,↓Z5,↓Z9,↓Z6,↓Z7,cL,Qo,Qn,Qx,Qw,Qu,Ql,Qk,Qv,Qd,Qz,Q0,Qq,Qf,Qh,Qg,Qt,Qs,Qr,Qm,Qe,cJ,hz,hz64,fk,f97,f98,fab,fac,f1,f2,F1,hm,F2,hpub,F3,hc1,F4,u4,u4',u5,u5',F5,hc2,Jv,Xs,Vm,Xt,X2,lz,lz64,lk,lS,lP,Xd,Zd,Vl]
 rfl
structure BA (H0:List Ob) (bv:Value) (l:List Nat):Prop where
 len:vLen false bv = some (.int .i64 l.length)
 lt:∀ y ∈ l,y < 256
 le:l.length ≤ 2 ^ 47 - 4096
 fill:fillL [Value.slice none 0 0] [(0,1,bv)] = some [bv]
 whole:HPart (LtN H0.length) H0 bv l
 cut:∀ k,k ≤ l.length → ∃ s1 s2,(∀ G:List Ob,(∀ i,i < H0.length → G[i]? = H0[i]?) → vSliceSl G 1 none (some (.int .i64 (k:Nat))) none bv = some s1 ∧ vSliceSl G 1 (some (.int .i64 (k:Nat))) none none bv = some s2) ∧
  HPart (LtN H0.length) H0 s1 (l.take k) ∧ HPart (LtN H0.length) H0 s2 (l.drop k)
theorem BA.nil:BA [] (.slice none 0 0) [] :=
 ⟨rfl,by simp,by decide,rfl,⟨⟨_,_,rfl⟩,fun _ _ => rfl,by simp,by decide⟩,fun k hk => by
  have:k = 0:=by simpa using hk
  subst this
  exact ⟨.slice none 0 0,.slice none 0 0,fun G _ => ⟨rfl,rfl⟩,⟨⟨_,_,rfl⟩,fun _ _ => rfl,by simp,by decide⟩,⟨⟨_,_,rfl⟩,fun _ _ => rfl,by simp,by decide⟩⟩⟩
theorem BA.some {l:List Nat} {n:Nat} (ln:l.length = n) (xl:∀ x ∈ l,x < 256) (hm:n ≤ 2 ^ 47 - 4096):BA [⟨u8s l,true,false,false,1⟩] (.slice (some ⟨0,0,none⟩) n n) l:=by
 subst ln
 refine ⟨rfl,xl,hm,rfl,HPart.whole (w:=false) (e:=false) (s:=1) (n:=1) (Rx) rfl xl hm,fun k hk => ?_⟩
 refine ⟨.slice (Dl ⟨0,0,none⟩) k l.length,.slice (Dl ⟨0,0 + k,none⟩) (l.length - k) (l.length - k),fun G hG => ?_,?_,?_⟩
 ·have hg:G[0]? = Dl ⟨u8s l,true,false,false,1⟩:=(hG 0 Rx).trans rfl
  have hlv:liveAt G 0 = Dl ⟨u8s l,true,false,false,1⟩:=Yg hg rfl
  have b1:W4 l.length l.length none (Dl (.int .i64 (k:Nat))) none = Dl (0,k,l.length):=by
   rw [Bo,Gr hk,Q4]; rfl
  have b2:W4 l.length l.length (Dl (.int .i64 (k:Nat))) none none = Dl (k,l.length,l.length):=by
   rw [Bo,R5,Q4,Gr hk,Q4]
  rw [Ht,Ht,b1,b2,Q4,Q4,hlv,Q4,Q4]
  simp [gate]
 ·have:=HPart.arr (n:=1) (H:=[(⟨u8s l,true,false,false,1⟩:Ob)]) (id:=0) (off:=0) (m:=k) (c:=l.length) (by decide) rfl xl (by omega) (by omega)
  rwa [Q2] at this
 ·have:=HPart.arr (n:=1) (H:=[(⟨u8s l,true,false,false,1⟩:Ob)]) (id:=0) (off:=0 + k) (m:=l.length - k) (c:=l.length - k) (by decide) rfl xl (by omega) (by omega)
  rw [Z1,Zl (by rw [Vs]; exact Zj _)] at this
  rw [Z1]
  exact this
theorem Args.of1 {H0 H:List Ob} {a c:Nat} {x:Value} {p:List Nat} {e:Bool} {s:Nat} (ha:H[a]? = some ⟨[x],true,true,e,s⟩) (hx:HPart (LtN H0.length) H0 x p) (hg:∀ i,i < H0.length → H[i]? = H0[i]?) (hl:H0.length ≤ H.length):Args H (.slice (some ⟨a,0,none⟩) 1 c) [p] :=
 Args.arr ha rfl (.cons (hx.ext hg hl) .nil) (by decide)
theorem HPart.b2s {K:Nat → Prop} {H G:List Ob} {x:Value} {p:List Nat} (h:HPart K H x p) (hg:∀ i,K i → G[i]? = H[i]?):elemsOf G 1 p.length x = some (u8s p):=h.reads G hg
theorem Q2g {H0:List Ob} {id k c:Nat} {l:List Nat} {w e:Bool} {s:Nat} (hid:H0[id]? = some ⟨u8s l,true,w,e,s⟩) (hok:e = true ∨ ¬ w = true ∨ 1 ≤ s) (xl:∀ x ∈ l,x < 256) (hk:k ≤ l.length) (hc:k ≤ c) (hm:l.length ≤ 2 ^ 47 - 4096) :
  BA H0 (.slice (some ⟨id,0,none⟩) k c) (l.take k):=by
 have hlt:id < H0.length:=(Q8.1 hid).1
 have lk:(l.take k).length = k:=by rw [Jx]; omega
 have xk:∀ y ∈ l.take k,y < 256:=fun y hy => xl y (Kr hy)
 refine ⟨by rw [lk]; rfl,xk,by omega,rfl,?_,fun j hj => ?_⟩
 ·have:=HPart.arr (n:=H0.length) (H:=H0) (id:=id) (off:=0) (m:=k) (c:=c) hlt hid xl (by omega) (by omega)
  rwa [Q2] at this
 ·rw [lk] at hj
  refine ⟨.slice (some ⟨id,0,none⟩) j c,.slice (some ⟨id,0 + j,none⟩) (k - j) (c - j),fun G hG => ?_,?_,?_⟩
  ·have hg:G[id]? = some ⟨u8s l,true,w,e,s⟩:=(hG id hlt).trans hid
   have hlv:liveAt G id = some ⟨u8s l,true,w,e,s⟩:=Yg hg rfl
   have b1:W4 k c none (some (.int .i64 (j:Nat))) none = some (0,j,c):=by
    rw [Bo,Gr (by omega),Q4]; rfl
   have b2:W4 k c (some (.int .i64 (j:Nat))) none none = some (j,k,c):=by
    rw [Bo,R5,Q4,Gr hj,Q4]
   rw [Ht,Ht,b1,b2,Q4,Q4,hlv,Q4,Q4]
   simp only [gate,if_pos hok]
   simp
  ·have:=HPart.arr (n:=H0.length) (H:=H0) (id:=id) (off:=0) (m:=j) (c:=c) hlt hid xl (by omega) (by omega)
   rw [Q2] at this
   rw [Qtz,V8 hj]
   exact this
  ·have:=HPart.arr (n:=H0.length) (H:=H0) (id:=id) (off:=0 + j) (m:=k - j) (c:=c - j) hlt hid xl (by omega) (by omega)
   rw [Z1] at this ⊢
   rw [List.drop_take]
   exact this
structure BH (H0:List Ob) (bv:Value) (l:List Nat):Prop where
 len:vLen false bv = some (.int .i64 l.length)
 head:∀ k,k ≤ l.length → ∃ bw,(∀ G:List Ob,(∀ i,i < H0.length → G[i]? = H0[i]?) → vSliceSl G 1 none (some (.int .i64 (k:Nat))) none bv = some bw) ∧ BA H0 bw (l.take k)
theorem Q2h (H0:List Ob):BA H0 (.slice none 0 0) [] :=
 ⟨rfl,by simp,by decide,rfl,⟨⟨_,_,rfl⟩,fun _ _ => rfl,by simp,by decide⟩,fun k hk => by
  have:k = 0:=by simpa using hk
  subst this
  exact ⟨.slice none 0 0,.slice none 0 0,fun G _ => ⟨rfl,rfl⟩,⟨⟨_,_,rfl⟩,fun _ _ => rfl,by simp,by decide⟩,⟨⟨_,_,rfl⟩,fun _ _ => rfl,by simp,by decide⟩⟩⟩
theorem Q2d (H0:List Ob):BH H0 (.slice none 0 0) [] :=
 ⟨rfl,fun k hk => ⟨.slice none 0 0,fun G _ => by
  have:k = 0:=by simpa using hk
  subst this
  rfl,by rw [List.take_nil]; exact Q2h H0⟩⟩
theorem bh_at {H0:List Ob} {id n:Nat} {l:List Nat} {w e:Bool} {s:Nat} (hid:H0[id]? = some ⟨u8s l,true,w,e,s⟩) (hok:e = true ∨ ¬ w = true ∨ 1 ≤ s) (xl:∀ x ∈ l,x < 256) (ln:l.length = n) (hm:n ≤ 2 ^ 47 - 4096) :
  BH H0 (.slice (some ⟨id,0,none⟩) n n) l:=by
 subst ln
 have hlt:id < H0.length:=(Q8.1 hid).1
 refine ⟨rfl,fun k hk => ⟨.slice (some ⟨id,0,none⟩) k l.length,fun G hG => ?_,Q2g hid hok xl hk hk hm⟩⟩
 have hg:G[id]? = some ⟨u8s l,true,w,e,s⟩:=(hG id hlt).trans hid
 have hlv:liveAt G id = some ⟨u8s l,true,w,e,s⟩:=Yg hg rfl
 have b1:W4 l.length l.length none (some (.int .i64 (k:Nat))) none = some (0,k,l.length):=by
  rw [Bo,Gr hk,Q4]; rfl
 rw [Ht,b1,Q4,hlv,Q4]
 simp only [gate,if_pos hok]
 simp
theorem BH.nil:BH [] (.slice none 0 0) []:=Q2d []
theorem BH.some {l:List Nat} {n:Nat} (ln:l.length = n) (xl:∀ x ∈ l,x < 256) (hm:n ≤ 2 ^ 47 - 4096):BH [⟨u8s l,true,false,false,1⟩] (.slice (some ⟨0,0,none⟩) n n) l :=
 bh_at (w:=false) (e:=false) (s:=1) rfl (.inr (.inr (Zj 1))) xl ln hm
theorem Q0v (n b:Nat):(if ((b:Nat):Int) < (n:Int) then ((b:Nat):Int) else (n:Int)) = ((min n b:Nat):Int):=by
 split <;> omega
theorem Qmb {H:List Ob} {K:Nat → Prop} {x:Value} {p:List Nat} (hx:HPart K H x p):fillL [Value.slice none 0 0] [(0,1,x)] = some [x]:=by
 obtain ⟨a,c,rfl⟩:=hx.shape
 rfl
theorem Qj2 {H0:List Ob} {pub sg l:List Nat} {bv:Value} (lp:pub.length = 32) (xp:∀ y ∈ pub,y < 256) (lS:sg.length = 64) (xS:∀ y ∈ sg,y < 256) (hb:BH H0 bv l):∃ H',V6 T 4 [.agg (u8s pub).toArray,.agg (u8s sg).toArray,bv] H0 = some (.bool true,H',[]):=by
 have hsg:=Q4y
 have hlen:=hb.len
 have hmin:=Q0v l.length 300
 rw [show ((300:Nat):Int) = 300 from rfl] at hmin
 obtain ⟨bw,hcut,hw⟩:=hb.head (min l.length 300) (by omega)
 have lw:(l.take (min l.length 300)).length ≤ 300:=by rw [Jx]; omega
 have hwl:=hw.len
 obtain ⟨m,hmv⟩:∃ m,m = l.take (min l.length 300):=⟨_,rfl⟩
 rw [← hmv] at hw lw hwl
 obtain ⟨G1,hG1⟩:∃ X,X = H0 ++ [(⟨u8s pub,true,true,true,1⟩:Ob),⟨u8s sg,true,true,true,1⟩]:=⟨_,rfl⟩
 have lG1:G1.length = H0.length + 2:=by rw [hG1]; simp
 have up:∀ i,i < H0.length → ∀ m:List Ob,(G1 ++ m)[i]? = H0[i]? := fun i hi m => by rw [Qy (by omega),hG1,Qy hi]
 have F1:H0 ++ [(⟨u8s pub,true,true,true,1⟩:Ob),⟨u8s sg,true,true,true,1⟩] = G1:=hG1.symm
 have us:∀ m:List Ob,(G1 ++ m)[H0.length]? = some ⟨u8s pub,true,true,true,1⟩:=fun m => by rw [Qy (by omega),hG1,Zi (Zj _),K9]; rfl
 have ut:∀ m:List Ob,(G1 ++ m)[H0.length + 1]? = some ⟨u8s sg,true,true,true,1⟩:=fun m => by rw [Qy (by omega),hG1,Zi (by omega),Ke]; rfl
 have us0:=us []
 have ut0:=ut []
 rw [Kv] at us0 ut0
 have hc1:vSliceSl G1 1 none (some (.int .i64 ((min l.length 300:Nat):Int))) none bv = some bw:=hcut G1 (fun i hi => by have:=up i hi []; rwa [Kv] at this)
 obtain ⟨a,c,hbw⟩:=hw.whole.shape
 have hel:∀ X:List Ob,elemsOf (G1 ++ X) 1 m.length bw = some (u8s m):=fun X => hw.whole.b2s (fun i hi => up i hi X)
 have hby:=Qc6 m
 have hfl1:=Qmb hw.whole
 have hA:Args (G1 ++ [⟨[bw],true,true,true,1⟩]) (.slice (some ⟨G1.length,0,none⟩) 1 1) [m]:=Args.of1 (e:=true) (s:=1) (by rw [Zi (by omega),K9]; rfl) hw.whole (fun i hi => up i hi _) (by simp; omega)
 have hfl:([m]:List (List Nat)).flatten = m:=by simp
 have lf:(sg.take 32).length = 32:=by rw [Jx,lS]; rfl
 have lb:(sg.drop 32).length = 32:=by rw [Vs,lS]
 have xf:∀ y ∈ sg.take 32,y < 256:=fun y hy => xS y (Kr hy)
 have xb:∀ y ∈ sg.drop 32,y < 256:=fun y hy => xS y (Yz hy)
 obtain ⟨l3,cc,hc,hs⟩:=Qhd lp xp lf xf lb xb hA (by show 1 ≤ 1000; decide) (by rw [hfl]; omega)
 rw [hfl] at hs
 have hr:=Qvk lp xp lf xf lb xb hw.lt (by omega) hs
 rw [Y7,J3] at hc
 rw [Y7] at hr
 rw [show W9 m = .string ⟨(m.map UInt8.ofNat).toArray⟩ from rfl] at hr
 have r0:rf (.string ⟨(m.map UInt8.ofNat).toArray⟩) = true:=rfl
 subst hbw
 generalize min l.length 300 = n300 at *
 clear hG1 hw hcut hmv hA hs
 generalize m.map UInt8.ofNat = MU at *
 apply Zt
 rw [Jb (fn:=Q2u) rfl]
 simp only [Q2u,↓Zr,Z0,quiet,cF,↓pF,reduceCtorEq,Qb,Qp,Zh,Zf,Zg,Ze,Zc,Qj,Q3,Qi,Q2,Q6,Q5,↓Zu,↓Zm,↓Z5,↓Z9,↓Z6,↓Z7,cL,Qo,Qn,Qx,Qw,Qu,Ql,Qk,Qv,Qd,Qz,Q0,Qq,Qf,Qh,Qg,Qt,Qs,Qr,Qm,Qe,cJ,hsg,hlen,hmin,hwl,F1,hc1,us,us0,ut,ut0,hfl1,hc,hel,hby,hr,Jv,Xs,Vm,Xt,X2,lp,lS,Xd,Zd,Vl,r0,beq_self_eq_true]
 rfl
end Go.Ev.YtgacigcbglflkaaGreat

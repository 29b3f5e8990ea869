/- What the law leans on, part 4. -/
import Derived.Test.YtgacigcbglflkaaGreatSO3
set_option linter.unusedSimpArgs false
set_option linter.unusedVariables false
open Bool renaming and_eq_true → Vw, false_and → Qfx, false_eq_true → Zv
open Exists renaming intro → Zt
open Int renaming cast_ofNat_Int → Ww, natCast_add → B5, natCast_mul → Uq, natCast_one → B0, natCast_pow → Qqz, natCast_zero → Xu, reduceAdd → Qx, reduceBEq → Q6, reduceBNe → Q5, reduceEq → Qp, reduceGE → Q0, reduceGT → Qz, reduceLE → Qo, reduceLT → Qn, reduceMul → Qw, reduceNeg → Qv, reducePow → Qq, reduceSub → Qu, reduceTDiv → Ql, reduceTMod → Qk, reduceToNat → Qd, toNat_natCast → Jh
open List renaming all_cons → J4, all_eq_true → Yh, append_assoc → Jx, append_nil → Kw, cons_append → Zb, drop → Bs, drop_append_of_le_length → Uj, drop_drop → Tv, drop_eq_getElem?_toList_append → Yr, drop_eq_getElem_cons → U0, drop_of_length_le → Yb, drop_succ_cons → Qi, drop_zero → Q2, eq_nil_of_length_eq_zero → Yl, ext_getElem? → Ym, flatten_append → Wa, flatten_cons → Vj, flatten_nil → Ud, foldl_cons → Up, foldl_nil → Hi, getD_eq_getElem?_getD → Xh, getElem?_append_left → Qy, getElem?_append_right → Zh, getElem?_cons_zero → Zq, getElem?_drop → Vx, getElem?_eq_getElem → Q1, getElem?_eq_none → J0, getElem?_eq_some_iff → Q8, getElem?_map → Uw, getElem?_of_mem → Ba, getElem?_replicate → Qcm, getElem?_set → Bj, getElem?_set_ne → Jj, getElem?_set_self → Xp, getElem?_take → Ks, getElem?_zipWith → Qfa, length_append → Z4, length_cons → Ja, length_drop → Vs, length_nil → Jf, length_replicate → Zd, length_set → Xe, length_take → Js, length_zipWith → Qiz, map_append → G6, map_cons → Y9, map_nil → Uo, mem_append → Jb, mem_cons → W0, mem_map → U7, mem_of_getElem? → Zk, mem_of_mem_drop → Yz, mem_of_mem_take → Kp, mem_or_eq_of_mem_set → Hw, mem_singleton → Bu, nil_append → Za, not_mem_nil → Us, range → Y5, replicate → Qa, replicate_succ → Uh, replicate_succ' → Rp, set_append_left → Ro, set_append_right → Uk, set_cons_zero → Tt, set_set → Qd2, take → We, take_add_one → Yf, take_append_drop → W1, take_append_of_le_length → Wt, take_of_length_le → Zl, take_succ_cons → Qj, take_zero → Q3, zipWith → Gc
open List.cons renaming injEq → R6
open Nat renaming add_assoc → Ka, add_comm → Gb, add_mul → Kt, add_mul_mod_self_right → Bt, add_sub_cancel_left → Kb, add_zero → Jr, and_lt_two_pow → Dr, and_two_pow_sub_one_eq_mod → Mu, div_add_mod → Vr, div_div_eq_div_mul → X9, div_eq_of_lt → Wz, div_le_self → W9, div_one → Wi, dvd_mul_left → Qor, eq_zero_or_pos → Yd, le_of_lt → Wh, le_refl → Zj, le_trans → Un, lt_add_one → Qug, lt_irrefl → Xj, lt_of_le_of_lt → Wk, lt_of_lt_of_le → X1, lt_or_ge → V5, lt_succ_of_lt → Ql2, lt_trans → Uc, min_eq_left → V8, mod_eq_of_lt → Z3, mod_lt → Jk, mod_mod → Hh, mod_mod_of_dvd → Dq, mod_mul_right_div_self → Ts, mod_one → Qos, mul_assoc → Vo, mul_comm → K7, mul_le_mul → Wg, mul_le_mul_right → Vt, mul_lt_mul'' → Qoq, mul_one → Xy, not_lt_zero → Jz, one_mul → Wm, pow_add → Wl, pow_le_pow_right → Vf, pow_mul → Yp, pow_pos → Ws, pow_succ → Kq, pow_zero → Ya, reduceAdd → Qf, reduceDiv → Qt, reduceEqDiff → Qb, reduceLT → Qm, reduceLeDiff → Qe, reduceMod → Qs, reduceMul → Qh, reducePow → Qr, reduceSub → Qg, sub_self → Kv, sub_zero → Xw, zero_add → Z1, zero_lt_one → R5, zero_mul → Xi
open Option renaming bind_eq_some_iff → Qc, bind_some → Q4
open Option.some renaming inj → G0, injEq → Q7
set_option linter.unusedSimpArgs false
set_option linter.unusedVariables false
namespace Go.Ev.YtgacigcbglflkaaGreat
open Go Go.Ev
attribute [local congr] W7 Ul W6 Um Wv
set_option maxRecDepth 100000
theorem Qnk {x y:Nat} (hx:x < 18446744073709551616) (hy:y < 18446744073709551616) :
  V6 T 101 [.int .u64 x,.int .u64 y] [] = some (.tuple #[.int .u64 ((x * y / 18446744073709551616:Nat):Int),.int .u64 ((x * y % 18446744073709551616:Nat):Int)],[],[]):=by
 have key:∀ a b:Nat,a = x * y / 18446744073709551616 → b = x * y % 18446744073709551616 → (some (.tuple #[.int .u64 (a:Int),.int .u64 (b:Int)],[],[]):Option (Value × List Ob × List Nat)) = some (.tuple #[.int .u64 ((x * y / 18446744073709551616:Nat):Int),.int .u64 ((x * y % 18446744073709551616:Nat):Int)],[],[]):=by
  rintro a b rfl rfl; rfl
 rw [Jc (fn:=a91) rfl]
 simp only [a91,Z0,quiet,cF,↓pF,reduceCtorEq,Qb,Qp,Yq,Xv,↓Zo,↓Zn,↓Zw,↓Zz,↓Zx,↓Zy,cL,Qo,Qn,Qx,Qw,Qu,Ql,Qk,Qv,Qd,Qz,Q0,Qq,Qf,Qh,Qg,Qt,Qs,Qr,Qm,Qe,cU]
 apply key
 ·have e:x * y = (x / 4294967296 * (y / 4294967296)) * 18446744073709551616 + (x / 4294967296 * (y % 4294967296) + x % 4294967296 * (y / 4294967296)) * 4294967296 + x % 4294967296 * (y % 4294967296):=by
   conv => lhs; rw [← Vr x 4294967296,← Vr y 4294967296]
   generalize x / 4294967296 = x1
   generalize x % 4294967296 = x0
   generalize y / 4294967296 = y1
   generalize y % 4294967296 = y0
   grind
  have b1:x / 4294967296 ≤ 4294967295:=by omega
  have b2:x % 4294967296 ≤ 4294967295:=by omega
  have b3:y / 4294967296 ≤ 4294967295:=by omega
  have b4:y % 4294967296 ≤ 4294967295:=by omega
  have c1:=Wg b1 b3
  have c2:=Wg b1 b4
  have c3:=Wg b2 b3
  have c4:=Wg b2 b4
  rw [e]
  clear e
  generalize x / 4294967296 * (y / 4294967296) = p11 at *
  generalize x / 4294967296 * (y % 4294967296) = p10 at *
  generalize x % 4294967296 * (y / 4294967296) = p01 at *
  generalize x % 4294967296 * (y % 4294967296) = p00 at *
  omega
 ·rfl
def wV (n:Nat):Value := .agg #[.int .u64 ((n / 18446744073709551616:Nat):Int),.int .u64 ((n % 18446744073709551616:Nat):Int)]
theorem rf_wV (n:Nat):rf (wV n) = true:=rfl
theorem Qhx {x y c:Nat} (hc:c ≤ 1):V6 T 102 [.int .u64 x,.int .u64 y,.int .u64 c] [] = some (.tuple #[.int .u64 ((x + y + c) % 18446744073709551616:Nat),.int .u64 ((x + y + c) / 18446744073709551616:Nat)],[],[]):=by
 rw [V6.eq_def]
 have h1:T.fn 102 = none:=rfl
 have h2:([.int .u64 (x:Int),.int .u64 (y:Int),.int .u64 (c:Int)]:List Value).all rf = true:=rfl
 have h3:T.ext 102 [.int .u64 x,.int .u64 y,.int .u64 c] = some (.tuple #[.int .u64 ((x + y + c) % 18446744073709551616:Nat),.int .u64 ((x + y + c) / 18446744073709551616:Nat)]):=by
  have h4:(c:Int).toNat ≤ 1:=by omega
  simp [T,Q1w,hc]
 rw [h1]
 simp only [h2,if_true,h3,Q4]
theorem Qsb {x y:Nat} (hx:x < 18446744073709551616) (hy:y < 18446744073709551616):∃ l,V6 T 80 [.int .u64 x,.int .u64 y] [] = some (wV (x * y),l,[]):=by
 have h:=Qnk hx hy
 have hf:∀ a b:Int,fillL [Value.int .u64 0,Value.int .u64 0] [(0,1,.int .u64 a),(1,1,.int .u64 b)] = some [.int .u64 a,.int .u64 b]:=fun _ _ => rfl
 apply Zt
 rw [Jc (fn:=a77) rfl]
 simp only [a77,Z0,quiet,cF,↓pF,reduceCtorEq,Qb,Qp,Yq,Xv,↓Zo,↓Zn,↓Zw,↓Zz,↓Zx,↓Zy,cL,Qo,Qn,Qx,Qw,Qu,Ql,Qk,Qv,Qd,Qz,Q0,Qq,Qf,Qh,Qg,Qt,Qs,Qr,Qm,Qe,cJ,Ka,h,hf]
 rfl
theorem Qum {n x y:Nat} (hx:x < 18446744073709551616) (hy:y < 18446744073709551616) (hn:n + x * y < 340282366920938463463374607431768211456):∃ l,V6 T 81 [wV n,.int .u64 x,.int .u64 y] [] = some (wV (n + x * y),l,[]):=by
 have h:=Qnk hx hy
 have hf:∀ a b:Int,fillL [Value.int .u64 0,Value.int .u64 0] [(0,1,.int .u64 a),(1,1,.int .u64 b)] = some [.int .u64 a,.int .u64 b]:=fun _ _ => rfl
 have a1:=Qhx (x:=n % 18446744073709551616) (y:=x * y % 18446744073709551616) (c:=0) (by decide)
 have a2:=Qhx (x:=n / 18446744073709551616) (y:=x * y / 18446744073709551616) (c:=(n % 18446744073709551616 + x * y % 18446744073709551616) / 18446744073709551616) (by omega)
 simp only [Xu,Jr] at a1
 have key:∀ (a b:Nat) (l:List Ob),a = (n + x * y) / 18446744073709551616 → b = (n + x * y) % 18446744073709551616 → (some (.agg #[.int .u64 (a:Int),.int .u64 (b:Int)],l,[]):Option (Value × List Ob × List Nat)) = some (wV (n + x * y),l,[]):=by
  rintro a b l rfl rfl; rfl
 apply Zt
 rw [Jc (fn:=a78) rfl]
 simp only [wV,a78,Z0,quiet,cF,↓pF,reduceCtorEq,Qb,Qp,Yq,Xv,↓Zo,↓Zn,↓Zw,↓Zz,↓Zx,↓Zy,cL,Qo,Qn,Qx,Qw,Qu,Ql,Qk,Qv,Qd,Qz,Q0,Qq,Qf,Qh,Qg,Qt,Qs,Qr,Qm,Qe,cJ,Ka,h,hf,a1,a2]
 apply key
 ·generalize x * y = p at *
  omega
 ·generalize x * y = p at *
  omega
theorem Qu9 {n:Nat} (hn:n < 41538374868278621028243970633760768):∃ l,V6 T 82 [wV n] [] = some (.tuple #[.int .u64 ((n / 2251799813685248:Nat):Int),.int .u64 ((n % 2251799813685248:Nat):Int)],l,[]):=by
 have key:∀ (a b:Nat) (l:List Ob),a = n / 2251799813685248 → b = n % 2251799813685248 → (some (.tuple #[.int .u64 (a:Int),.int .u64 (b:Int)],l,[]):Option (Value × List Ob × List Nat)) = some (.tuple #[.int .u64 ((n / 2251799813685248:Nat):Int),.int .u64 ((n % 2251799813685248:Nat):Int)],l,[]):=by
  rintro a b l rfl rfl; rfl
 have hor:=fun a b:Nat => n_or .u64 rfl a b
 apply Zt
 rw [Jc (fn:=a79) rfl]
 simp only [wV,a79,Z0,quiet,cF,↓pF,reduceCtorEq,Qb,Qp,Yq,Xv,↓Zo,↓Zn,↓Zw,↓Zz,↓Zx,↓Zy,cL,Qo,Qn,Qx,Qw,Qu,Ql,Qk,Qv,Qd,Qz,Q0,Qq,Qf,Qh,Qg,Qt,Qs,Qr,Qm,Qe,cJ,Ka,cU,hor]
 apply key
 ·have h1:n / 18446744073709551616 < 2251799813685248:=by omega
  have e1:n / 18446744073709551616 * 8192 % 18446744073709551616 % 2 ^ IntKind.u64.bits = n / 18446744073709551616 * 2 ^ 13:=by
   rw [show (2:Nat) ^ IntKind.u64.bits = 18446744073709551616 from rfl]; omega
  have e2:n % 18446744073709551616 / 2251799813685248 % 2 ^ IntKind.u64.bits = n % 18446744073709551616 / 2251799813685248:=by
   rw [show (2:Nat) ^ IntKind.u64.bits = 18446744073709551616 from rfl]; omega
  rw [e1,e2,Qaa (by omega)]
  omega
 ·omega
theorem Q06 {n x:Nat} (hn:n + x < 340282366920938463463374607431768211456) (hx:x < 18446744073709551616):∃ l,V6 T 83 [wV n,.int .u64 x] [] = some (wV (n + x),l,[]):=by
 have hf:∀ a b:Int,fillL [Value.int .u64 0,Value.int .u64 0] [(0,1,.int .u64 a),(1,1,.int .u64 b)] = some [.int .u64 a,.int .u64 b]:=fun _ _ => rfl
 have a1:=Qhx (x:=n % 18446744073709551616) (y:=x) (c:=0) (by decide)
 simp only [Xu,Jr] at a1
 have key:∀ (a b:Nat) (l:List Ob),a = (n + x) / 18446744073709551616 → b = (n + x) % 18446744073709551616 → (some (.agg #[.int .u64 (a:Int),.int .u64 (b:Int)],l,[]):Option (Value × List Ob × List Nat)) = some (wV (n + x),l,[]):=by
  rintro a b l rfl rfl; rfl
 apply Zt
 rw [Jc (fn:=a80) rfl]
 simp only [wV,a80,Z0,quiet,cF,↓pF,reduceCtorEq,Qb,Qp,Yq,Xv,↓Zo,↓Zn,↓Zw,↓Zz,↓Zx,↓Zy,cL,Qo,Qn,Qx,Qw,Qu,Ql,Qk,Qv,Qd,Qz,Q0,Qq,Qf,Qh,Qg,Qt,Qs,Qr,Qm,Qe,cJ,Ka,cU,hf,a1]
 apply key
 ·omega
 ·omega
def eV (l:List Nat):Value := .agg (ns .u64 l).toArray
theorem Vl (l:List Nat):rf (eV l) = true:=by
 show (ns .u64 l).toArray.toList.all Vq = true
 rw [show (ns .u64 l).toArray.toList = ns .u64 l from rfl]
 simp [ns,Vq]
theorem Qrc (k:IntKind) (l:List Nat):rf (.agg (ns k l).toArray) = true:=by
 show (ns k l).toArray.toList.all Vq = true
 rw [show (ns k l).toArray.toList = ns k l from rfl]
 simp [ns,Vq]
structure El (l:List Nat) (b:Nat):Prop where
 len:l.length = 5
 lt:∀ x ∈ l,x < b
theorem El.five {l:List Nat} {b:Nat} (h:El l b):∃ x0 x1 x2 x3 x4,l = [x0,x1,x2,x3,x4] ∧ x0 < b ∧ x1 < b ∧ x2 < b ∧ x3 < b ∧ x4 < b:=by
 obtain ⟨h1,h2⟩:=h
 match l,h1 with
 | [x0,x1,x2,x3,x4],_ => exact ⟨x0,x1,x2,x3,x4,rfl,h2 _ (by simp),h2 _ (by simp),h2 _ (by simp),h2 _ (by simp),h2 _ (by simp)⟩
theorem El.mk5 {x0 x1 x2 x3 x4 b:Nat} (h0:x0 < b) (h1:x1 < b) (h2:x2 < b) (h3:x3 < b) (h4:x4 < b):El [x0,x1,x2,x3,x4] b:=⟨rfl,by simp; exact ⟨h0,h1,h2,h3,h4⟩⟩
def v51 (l:List Nat):Nat:=num 2251799813685248 l
def fe (l:List Nat):Go.Fp.Fe:=Go.Fp.fp (v51 l)
def Mo (x0 x1 x2 x3 x4:Nat):List Nat :=
 let c0:=x0 / 2251799813685248
 let c1:=(x1 + c0) / 2251799813685248
 let c2:=(x2 + c1) / 2251799813685248
 let c3:=(x3 + c2) / 2251799813685248
 let c4:=(x4 + c3) / 2251799813685248
 [x0 % 2251799813685248 + 19 * c4,(x1 + c0) % 2251799813685248,(x2 + c1) % 2251799813685248,(x3 + c2) % 2251799813685248,(x4 + c3) % 2251799813685248]
theorem Qdh {x0 x1 x2 x3 x4:Nat}:∃ k,v51 (Mo x0 x1 x2 x3 x4) + k * Go.Fp.P = v51 [x0,x1,x2,x3,x4]:=by
 refine ⟨(x4 + (x3 + (x2 + (x1 + x0 / 2251799813685248) / 2251799813685248) / 2251799813685248) / 2251799813685248) / 2251799813685248,?_⟩
 simp only [v51,Mo,num,Go.Fp.Qar]
 omega
theorem Q3x {a b k:Nat} (h:a + k * Go.Fp.P = b):Go.Fp.fp a = Go.Fp.fp b:=by
 rw [← h,Go.Fp.Gg,Go.Fp.Qrx]; grobner
theorem Qqo {x0 x1 x2 x3 x4:Nat} (h0:x0 < 9223372036854775808) (h1:x1 < 9223372036854775808) (h2:x2 < 9223372036854775808) (h3:x3 < 9223372036854775808) (h4:x4 < 9223372036854775808) :
  ∃ l,V6 T 84 [eV [x0,x1,x2,x3,x4]] [] = some (eV (Mo x0 x1 x2 x3 x4),l,[]):=by
 have key:∀ (a b c d e:Nat) (l:List Ob),[a,b,c,d,e] = Mo x0 x1 x2 x3 x4 → (some (.agg [.int .u64 (a:Int),.int .u64 (b:Int),.int .u64 (c:Int),.int .u64 (d:Int),.int .u64 (e:Int)].toArray,l,[]):Option (Value × List Ob × List Nat)) = some (eV (Mo x0 x1 x2 x3 x4),l,[]):=by
  intro a b c d e l h
  rw [← h]; rfl
 have hz:Qa 5 (Value.int .u64 0) = [.int .u64 0,.int .u64 0,.int .u64 0,.int .u64 0,.int .u64 0]:=rfl
 apply Zt
 rw [Jc (fn:=a81) rfl]
 simp only [eV,Dg,Qac,a81,Z0,quiet,cF,↓pF,reduceCtorEq,Qb,Qp,Yq,Xv,↓Zo,↓Zn,↓Zw,↓Zz,↓Zx,↓Zy,cL,Qo,Qn,Qx,Qw,Qu,Ql,Qk,Qv,Qd,Qz,Q0,Qq,Qf,Qh,Qg,Qt,Qs,Qr,Qm,Qe,cJ,Ka,cU,hz,Jq,Yy,Qy0]
 apply key
 simp only [Mo,R6,and_true]
 rw [show x0 % 18446744073709551616 = x0 by omega]
 have b0:x0 / 2251799813685248 < 8192:=by omega
 have hx0:x0 % 2251799813685248 < 2251799813685248:=by omega
 generalize x0 / 2251799813685248 = c0 at *
 generalize x0 % 2251799813685248 = r0 at *
 rw [show (x1 + c0) % 18446744073709551616 = x1 + c0 by omega]
 have b1:(x1 + c0) / 2251799813685248 < 8192:=by omega
 generalize (x1 + c0) / 2251799813685248 = c1 at *
 rw [show (x2 + c1) % 18446744073709551616 = x2 + c1 by omega]
 have b2:(x2 + c1) / 2251799813685248 < 8192:=by omega
 generalize (x2 + c1) / 2251799813685248 = c2 at *
 rw [show (x3 + c2) % 18446744073709551616 = x3 + c2 by omega]
 have b3:(x3 + c2) / 2251799813685248 < 8192:=by omega
 generalize (x3 + c2) / 2251799813685248 = c3 at *
 rw [show (x4 + c3) % 18446744073709551616 = x4 + c3 by omega]
 have b4:(x4 + c3) / 2251799813685248 < 8192:=by omega
 generalize (x4 + c3) / 2251799813685248 = c4 at *
 refine ⟨by omega,rfl,rfl,rfl,rfl⟩
theorem Q04 (B P x0 x1 x2 x3 x4 y0 y1 y2 y3 y4:Nat) (h:B * B * B * B * B = P + 19) :
  (x0 + B * (x1 + B * (x2 + B * (x3 + B * (x4 + B * 0))))) * (y0 + B * (y1 + B * (y2 + B * (y3 + B * (y4 + B * 0))))) =
   (x0 * y0 + 19 * x1 * y4 + 19 * x2 * y3 + 19 * x3 * y2 + 19 * x4 * y1) + B * ((x0 * y1 + x1 * y0 + 19 * x2 * y4 + 19 * x3 * y3 + 19 * x4 * y2) + B * ((x0 * y2 + x1 * y1 + x2 * y0 + 19 * x3 * y4 + 19 * x4 * y3) + B * ((x0 * y3 + x1 * y2 + x2 * y1 + x3 * y0 + 19 * x4 * y4) + B * (x0 * y4 + x1 * y3 + x2 * y2 + x3 * y1 + x4 * y0)))) +
   (x1 * y4 + x2 * y3 + x3 * y2 + x4 * y1 + B * (x2 * y4 + x3 * y3 + x4 * y2 + B * (x3 * y4 + x4 * y3 + B * (x4 * y4)))) * P:=by grind
theorem Qaw {x y:Nat} (hx:x < 18446744073709551616) (hy:y < 18446744073709551616):Vd T 80 [.int .u64 x,.int .u64 y] = some (wV (x * y)):=Xg (Qsb hx hy)
theorem Uy {n x y:Nat} (hx:x < 18446744073709551616) (hy:y < 18446744073709551616) (hn:n + x * y < 340282366920938463463374607431768211456):Vd T 81 [wV n,.int .u64 x,.int .u64 y] = some (wV (n + x * y)):=Xg (Qum hx hy hn)
theorem Qay {n:Nat} (hn:n < 41538374868278621028243970633760768):Vd T 82 [wV n] = some (.tuple #[.int .u64 ((n / 2251799813685248:Nat):Int),.int .u64 ((n % 2251799813685248:Nat):Int)]):=Xg (Qu9 hn)
theorem Q52 {n x:Nat} (hn:n + x < 340282366920938463463374607431768211456) (hx:x < 18446744073709551616):Vd T 83 [wV n,.int .u64 x] = some (wV (n + x)):=Xg (Q06 hn hx)
theorem R3 {x0 x1 x2 x3 x4:Nat} (h0:x0 < 9223372036854775808) (h1:x1 < 9223372036854775808) (h2:x2 < 9223372036854775808) (h3:x3 < 9223372036854775808) (h4:x4 < 9223372036854775808):Vd T 84 [eV [x0,x1,x2,x3,x4]] = some (eV (Mo x0 x1 x2 x3 x4)):=Xg (Qqo h0 h1 h2 h3 h4)
theorem Mm {a b c d e:Nat} (ha:a < 2 ^ 109) (hb:b < 2 ^ 109) (hc:c < 2 ^ 109) (hd:d < 2 ^ 109) (he:e < 2 ^ 109):a + b + c + d + e < 2 ^ 112:=by omega
theorem Yx {x y:Nat} (hx:x < 2 ^ 57) (hy:y < 2 ^ 52):x * y < 2 ^ 109:=by
 rw [show (2:Nat) ^ 109 = 2 ^ 57 * 2 ^ 52 from rfl]
 exact Qoq hx hy
theorem Q03 {s0 s1 s2 s3 s4:Nat} (h0:s0 < 2 ^ 112) (h1:s1 < 2 ^ 112) (h2:s2 < 2 ^ 112) (h3:s3 < 2 ^ 112) (h4:s4 < 2 ^ 112):∃ r,El r (2 ^ 52) ∧ (∃ k,v51 r + k * Go.Fp.P = s0 + 2251799813685248 * (s1 + 2251799813685248 * (s2 + 2251799813685248 * (s3 + 2251799813685248 * s4)))) ∧
  r = Mo ((19 * (s4 / 2251799813685248) + s0 % 2251799813685248) % 2251799813685248) (s1 % 2251799813685248 + s0 / 2251799813685248 + (19 * (s4 / 2251799813685248) + s0 % 2251799813685248) / 2251799813685248) (s2 % 2251799813685248 + s1 / 2251799813685248) (s3 % 2251799813685248 + s2 / 2251799813685248) (s4 % 2251799813685248 + s3 / 2251799813685248):=by
 refine ⟨_,?_,?_,rfl⟩
 ·simp only [Mo]
  apply El.mk5 <;> omega
 ·obtain ⟨k,hk⟩:=Qdh (x0:=(19 * (s4 / 2251799813685248) + s0 % 2251799813685248) % 2251799813685248) (x1:=s1 % 2251799813685248 + s0 / 2251799813685248 + (19 * (s4 / 2251799813685248) + s0 % 2251799813685248) / 2251799813685248) (x2:=s2 % 2251799813685248 + s1 / 2251799813685248) (x3:=s3 % 2251799813685248 + s2 / 2251799813685248) (x4:=s4 % 2251799813685248 + s3 / 2251799813685248)
  refine ⟨k + s4 / 2251799813685248,?_⟩
  rw [Kt,← Ka,hk]
  simp only [v51,num,Go.Fp.Qar]
  omega
theorem Ur {x y:List Nat} (hx:El x (2 ^ 52)) (hy:El y (2 ^ 52)):∃ r,Vd T 39 [eV x,eV y] = some (eV r) ∧ El r (2 ^ 52) ∧ fe r = fe x * fe y:=by
 obtain ⟨x0,x1,x2,x3,x4,rfl,a0,a1,a2,a3,a4⟩:=hx.five
 obtain ⟨y0,y1,y2,y3,y4,rfl,b0,b1,b2,b3,b4⟩:=hy.five
 have m1:19 * x1 % 18446744073709551616 = 19 * x1:=by omega
 have m2:19 * x2 % 18446744073709551616 = 19 * x2:=by omega
 have m3:19 * x3 % 18446744073709551616 = 19 * x3:=by omega
 have m4:19 * x4 % 18446744073709551616 = 19 * x4:=by omega
 have t00:=Qaw (x:=x0) (y:=y0) (by omega) (by omega)
 have p00:x0 * y0 < 2 ^ 109:=Yx (by omega) (by omega)
 have p01:19 * x1 * y4 < 2 ^ 109:=Yx (by omega) (by omega)
 have p02:19 * x2 * y3 < 2 ^ 109:=Yx (by omega) (by omega)
 have p03:19 * x3 * y2 < 2 ^ 109:=Yx (by omega) (by omega)
 have p04:19 * x4 * y1 < 2 ^ 109:=Yx (by omega) (by omega)
 have t01:=Uy (n:=x0 * y0) (x:=19 * x1) (y:=y4) (by omega) (by omega) (by omega)
 have t02:=Uy (n:=x0 * y0 + 19 * x1 * y4) (x:=19 * x2) (y:=y3) (by omega) (by omega) (by omega)
 have t03:=Uy (n:=x0 * y0 + 19 * x1 * y4 + 19 * x2 * y3) (x:=19 * x3) (y:=y2) (by omega) (by omega) (by omega)
 have t04:=Uy (n:=x0 * y0 + 19 * x1 * y4 + 19 * x2 * y3 + 19 * x3 * y2) (x:=19 * x4) (y:=y1) (by omega) (by omega) (by omega)
 have q0:=Mm p00 p01 p02 p03 p04
 have t10:=Qaw (x:=x0) (y:=y1) (by omega) (by omega)
 have p10:x0 * y1 < 2 ^ 109:=Yx (by omega) (by omega)
 have p11:x1 * y0 < 2 ^ 109:=Yx (by omega) (by omega)
 have p12:19 * x2 * y4 < 2 ^ 109:=Yx (by omega) (by omega)
 have p13:19 * x3 * y3 < 2 ^ 109:=Yx (by omega) (by omega)
 have p14:19 * x4 * y2 < 2 ^ 109:=Yx (by omega) (by omega)
 have t11:=Uy (n:=x0 * y1) (x:=x1) (y:=y0) (by omega) (by omega) (by omega)
 have t12:=Uy (n:=x0 * y1 + x1 * y0) (x:=19 * x2) (y:=y4) (by omega) (by omega) (by omega)
 have t13:=Uy (n:=x0 * y1 + x1 * y0 + 19 * x2 * y4) (x:=19 * x3) (y:=y3) (by omega) (by omega) (by omega)
 have t14:=Uy (n:=x0 * y1 + x1 * y0 + 19 * x2 * y4 + 19 * x3 * y3) (x:=19 * x4) (y:=y2) (by omega) (by omega) (by omega)
 have q1:=Mm p10 p11 p12 p13 p14
 have t20:=Qaw (x:=x0) (y:=y2) (by omega) (by omega)
 have p20:x0 * y2 < 2 ^ 109:=Yx (by omega) (by omega)
 have p21:x1 * y1 < 2 ^ 109:=Yx (by omega) (by omega)
 have p22:x2 * y0 < 2 ^ 109:=Yx (by omega) (by omega)
 have p23:19 * x3 * y4 < 2 ^ 109:=Yx (by omega) (by omega)
 have p24:19 * x4 * y3 < 2 ^ 109:=Yx (by omega) (by omega)
 have t21:=Uy (n:=x0 * y2) (x:=x1) (y:=y1) (by omega) (by omega) (by omega)
 have t22:=Uy (n:=x0 * y2 + x1 * y1) (x:=x2) (y:=y0) (by omega) (by omega) (by omega)
 have t23:=Uy (n:=x0 * y2 + x1 * y1 + x2 * y0) (x:=19 * x3) (y:=y4) (by omega) (by omega) (by omega)
 have t24:=Uy (n:=x0 * y2 + x1 * y1 + x2 * y0 + 19 * x3 * y4) (x:=19 * x4) (y:=y3) (by omega) (by omega) (by omega)
 have q2:=Mm p20 p21 p22 p23 p24
 have t30:=Qaw (x:=x0) (y:=y3) (by omega) (by omega)
 have p30:x0 * y3 < 2 ^ 109:=Yx (by omega) (by omega)
 have p31:x1 * y2 < 2 ^ 109:=Yx (by omega) (by omega)
 have p32:x2 * y1 < 2 ^ 109:=Yx (by omega) (by omega)
 have p33:x3 * y0 < 2 ^ 109:=Yx (by omega) (by omega)
 have p34:19 * x4 * y4 < 2 ^ 109:=Yx (by omega) (by omega)
 have t31:=Uy (n:=x0 * y3) (x:=x1) (y:=y2) (by omega) (by omega) (by omega)
 have t32:=Uy (n:=x0 * y3 + x1 * y2) (x:=x2) (y:=y1) (by omega) (by omega) (by omega)
 have t33:=Uy (n:=x0 * y3 + x1 * y2 + x2 * y1) (x:=x3) (y:=y0) (by omega) (by omega) (by omega)
 have t34:=Uy (n:=x0 * y3 + x1 * y2 + x2 * y1 + x3 * y0) (x:=19 * x4) (y:=y4) (by omega) (by omega) (by omega)
 have q3:=Mm p30 p31 p32 p33 p34
 have t40:=Qaw (x:=x0) (y:=y4) (by omega) (by omega)
 have p40:x0 * y4 < 2 ^ 109:=Yx (by omega) (by omega)
 have p41:x1 * y3 < 2 ^ 109:=Yx (by omega) (by omega)
 have p42:x2 * y2 < 2 ^ 109:=Yx (by omega) (by omega)
 have p43:x3 * y1 < 2 ^ 109:=Yx (by omega) (by omega)
 have p44:x4 * y0 < 2 ^ 109:=Yx (by omega) (by omega)
 have t41:=Uy (n:=x0 * y4) (x:=x1) (y:=y3) (by omega) (by omega) (by omega)
 have t42:=Uy (n:=x0 * y4 + x1 * y3) (x:=x2) (y:=y2) (by omega) (by omega) (by omega)
 have t43:=Uy (n:=x0 * y4 + x1 * y3 + x2 * y2) (x:=x3) (y:=y1) (by omega) (by omega) (by omega)
 have t44:=Uy (n:=x0 * y4 + x1 * y3 + x2 * y2 + x3 * y1) (x:=x4) (y:=y0) (by omega) (by omega) (by omega)
 have q4:=Mm p40 p41 p42 p43 p44
 obtain ⟨r,hr1,⟨k,hr2⟩,hr3⟩:=Q03 q0 q1 q2 q3 q4
 have d0:=Qay (n:=x0 * y0 + 19 * x1 * y4 + 19 * x2 * y3 + 19 * x3 * y2 + 19 * x4 * y1) (by omega)
 have d1:=Qay (n:=x0 * y1 + x1 * y0 + 19 * x2 * y4 + 19 * x3 * y3 + 19 * x4 * y2) (by omega)
 have d2:=Qay (n:=x0 * y2 + x1 * y1 + x2 * y0 + 19 * x3 * y4 + 19 * x4 * y3) (by omega)
 have d3:=Qay (n:=x0 * y3 + x1 * y2 + x2 * y1 + x3 * y0 + 19 * x4 * y4) (by omega)
 have d4:=Qay (n:=x0 * y4 + x1 * y3 + x2 * y2 + x3 * y1 + x4 * y0) (by omega)
 refine ⟨r,?_,hr1,?_⟩
 ·rw [hr3]
  clear hr2 hr3
  generalize x0 * y0 + 19 * x1 * y4 + 19 * x2 * y3 + 19 * x3 * y2 + 19 * x4 * y1 = s0 at *
  generalize x0 * y1 + x1 * y0 + 19 * x2 * y4 + 19 * x3 * y3 + 19 * x4 * y2 = s1 at *
  generalize x0 * y2 + x1 * y1 + x2 * y0 + 19 * x3 * y4 + 19 * x4 * y3 = s2 at *
  generalize x0 * y3 + x1 * y2 + x2 * y1 + x3 * y0 + 19 * x4 * y4 = s3 at *
  generalize x0 * y4 + x1 * y3 + x2 * y2 + x3 * y1 + x4 * y0 = s4 at *
  have u1:=Qaw (x:=19) (y:=s4 / 2251799813685248) (by omega) (by omega)
  have u2:=Q52 (n:=19 * (s4 / 2251799813685248)) (x:=s0 % 2251799813685248) (by omega) (by omega)
  have u3:=Qay (n:=19 * (s4 / 2251799813685248) + s0 % 2251799813685248) (by omega)
  have w1:(s1 % 2251799813685248 + s0 / 2251799813685248) % 18446744073709551616 = s1 % 2251799813685248 + s0 / 2251799813685248:=by omega
  have w2:(s1 % 2251799813685248 + s0 / 2251799813685248 + (19 * (s4 / 2251799813685248) + s0 % 2251799813685248) / 2251799813685248) % 18446744073709551616 = s1 % 2251799813685248 + s0 / 2251799813685248 + (19 * (s4 / 2251799813685248) + s0 % 2251799813685248) / 2251799813685248:=by omega
  have w3:(s2 % 2251799813685248 + s1 / 2251799813685248) % 18446744073709551616 = s2 % 2251799813685248 + s1 / 2251799813685248:=by omega
  have w4:(s3 % 2251799813685248 + s2 / 2251799813685248) % 18446744073709551616 = s3 % 2251799813685248 + s2 / 2251799813685248:=by omega
  have w5:(s4 % 2251799813685248 + s3 / 2251799813685248) % 18446744073709551616 = s4 % 2251799813685248 + s3 / 2251799813685248:=by omega
  have v1:=R3 (x0:=(19 * (s4 / 2251799813685248) + s0 % 2251799813685248) % 2251799813685248) (x1:=s1 % 2251799813685248 + s0 / 2251799813685248 + (19 * (s4 / 2251799813685248) + s0 % 2251799813685248) / 2251799813685248) (x2:=s2 % 2251799813685248 + s1 / 2251799813685248) (x3:=s3 % 2251799813685248 + s2 / 2251799813685248) (x4:=s4 % 2251799813685248 + s3 / 2251799813685248) (by omega) (by omega) (by omega) (by omega) (by omega)
  simp only [Ww] at u1
  have hz:Qa 5 (Value.int .u64 0) = [.int .u64 0,.int .u64 0,.int .u64 0,.int .u64 0,.int .u64 0]:=rfl
  have hf:∀ a b c d e:Int,fillL [Value.int .u64 0,.int .u64 0,.int .u64 0,.int .u64 0,.int .u64 0] [(0,1,.int .u64 a),(1,1,.int .u64 b),(2,1,.int .u64 c),(3,1,.int .u64 d),(4,1,.int .u64 e)] = some [.int .u64 a,.int .u64 b,.int .u64 c,.int .u64 d,.int .u64 e]:=fun _ _ _ _ _ => rfl
  have hf5:∀ a b c d e:Int,fillL [Value.int .u64 0,.int .u64 0,.int .u64 0,.int .u64 0,.int .u64 0] [(0,5,.agg [.int .u64 a,.int .u64 b,.int .u64 c,.int .u64 d,.int .u64 e].toArray)] = some [.int .u64 a,.int .u64 b,.int .u64 c,.int .u64 d,.int .u64 e]:=fun _ _ _ _ _ => rfl
  have hr5:∀ a b c d e:Int,rf (.agg [.int .u64 a,.int .u64 b,.int .u64 c,.int .u64 d,.int .u64 e].toArray) = true:=fun _ _ _ _ _ => rfl
  have hw:∀ n,(wV n).cells.size = 2:=fun _ => rfl
  have hw2:∀ n,(wV n).cells.toList = [.int .u64 ((n / 18446744073709551616:Nat):Int),.int .u64 ((n % 18446744073709551616:Nat):Int)]:=fun _ => rfl
  have hw3:∀ n,Yk (wV n) = true:=fun _ => rfl
  have hw4:∀ n,Value.agg [.int .u64 ((n / 18446744073709551616:Nat):Int),.int .u64 ((n % 18446744073709551616:Nat):Int)].toArray = wV n:=fun _ => rfl
  simp only [eV,Dg,Qac] at v1 ⊢
  generalize hc:ns .u64 (Mo ((19 * (s4 / 2251799813685248) + s0 % 2251799813685248) % 2251799813685248) (s1 % 2251799813685248 + s0 / 2251799813685248 + (19 * (s4 / 2251799813685248) + s0 % 2251799813685248) / 2251799813685248) (s2 % 2251799813685248 + s1 / 2251799813685248) (s3 % 2251799813685248 + s2 / 2251799813685248) (s4 % 2251799813685248 + s3 / 2251799813685248)) = C at *
  have hC:C.length = 5:=by rw [← hc]; rfl
  have hCr:rf (.agg C.toArray) = true:=by rw [← hc]; exact Qrc _ _
  apply Xg
  apply Zt
  rw [Jc (fn:=a51) rfl]
  simp only [a51,Z0,quiet,cF,↓pF,reduceCtorEq,Qb,Qp,Zi,Xv,↓Zo,↓Zn,↓Zw,↓Zz,↓Zx,↓Zy,cL,Qo,Qn,Qx,Qw,Qu,Ql,Qk,Qv,Qd,Qz,Q0,Qq,Qf,Qh,Qg,Qt,Qs,Qr,Qm,Qe,cJ,cU,hz,m1,m2,m3,m4,t00,t01,t02,t03,t04,t10,t11,t12,t13,t14,t20,t21,t22,t23,t24,t30,t31,t32,t33,t34,t40,t41,t42,t43,t44,d0,d1,d2,d3,d4,u1,u2,u3,w1,w2,w3,w4,w5,hf,hf5,hr5,v1,rf_wV,hw,hw2,hw3,hw4,hC,hCr]
  rfl
 ·unfold fe
  rw [← Go.Fp.U1]
  have h:=Q04 2251799813685248 Go.Fp.P x0 x1 x2 x3 x4 y0 y1 y2 y3 y4 (by rw [Go.Fp.Qar])
  have e:v51 [x0,x1,x2,x3,x4] * v51 [y0,y1,y2,y3,y4] = v51 r + (k + (x1 * y4 + x2 * y3 + x3 * y2 + x4 * y1 + 2251799813685248 * (x2 * y4 + x3 * y3 + x4 * y2 + 2251799813685248 * (x3 * y4 + x4 * y3 + 2251799813685248 * (x4 * y4))))) * Go.Fp.P:=by
   simp only [v51,num] at hr2 h ⊢
   rw [h,← hr2,Ka,← Kt]
  exact Q3x e.symm
theorem Qkk {V w q s:Nat} (hs:s < w):V / (2 ^ w) ^ q % 2 ^ w / 2 ^ s % 2 = V / 2 ^ (w * q + s) % 2:=by
 have h1:(2:Nat) ^ w = 2 ^ s * 2 ^ (w - s):=by rw [← Wl]; congr 1; omega
 conv => lhs; rw [show V / (2 ^ w) ^ q % 2 ^ w = V / (2 ^ w) ^ q % (2 ^ s * 2 ^ (w - s)) from by rw [← h1]]
 have h2:(2:Nat) ∣ 2 ^ (w - s):=by
  obtain ⟨m,hm⟩:∃ m,w - s = m + 1:=⟨w - s - 1,by omega⟩
  rw [hm,Kq]
  exact Qor 2 _
 rw [Ts,Dq _ h2,X9,← Yp,← Wl]
theorem Qog (V i:Nat):V % 2 ^ i + V / 2 ^ i % 2 * 2 ^ i = V % 2 ^ (i + 1):=by
 rw [Nat.mod_pow_succ,K7 (2 ^ i)]
theorem Qao (V i:Nat):V / 2 ^ i % 2 < 2:=Jk _ (by decide)
theorem Te {n b:Nat} (h:n ≤ b):(2:Int) ^ min n b = ((2 ^ n:Nat):Int):=by rw [V8 h]; simp
theorem Qf1 {n:Nat} (hn:n < 4294967296):Vd T 38 [.int .u32 n] = some (eV [n,0,0,0,0]):=by
 have hz:Qa 5 (Value.int .u64 0) = [.int .u64 0,.int .u64 0,.int .u64 0,.int .u64 0,.int .u64 0]:=rfl
 have hf:∀ a:Int,fillL [Value.int .u64 0,.int .u64 0,.int .u64 0,.int .u64 0,.int .u64 0] [(0,1,.int .u64 a)] = some [.int .u64 a,.int .u64 0,.int .u64 0,.int .u64 0,.int .u64 0]:=fun _ => rfl
 have hf5:∀ a b c d e:Int,fillL [Value.int .u64 0,.int .u64 0,.int .u64 0,.int .u64 0,.int .u64 0] [(0,5,.agg [.int .u64 a,.int .u64 b,.int .u64 c,.int .u64 d,.int .u64 e].toArray)] = some [.int .u64 a,.int .u64 b,.int .u64 c,.int .u64 d,.int .u64 e]:=fun _ _ _ _ _ => rfl
 have hm:n % 18446744073709551616 = n:=by omega
 apply Xg
 apply Zt
 rw [Jc (fn:=a50) rfl]
 simp only [a50,Z0,quiet,cF,↓pF,reduceCtorEq,Qb,Qp,Zi,Xv,↓Zo,↓Zn,↓Zw,↓Zz,↓Zx,↓Zy,cL,Qo,Qn,Qx,Qw,Qu,Ql,Qk,Qv,Qd,Qz,Q0,Qq,Qf,Qh,Qg,Qt,Qs,Qr,Qm,Qe,cJ,cU,hz,hf,hf5,hm,eV,Dg,Qac]
 rfl
theorem Qct {n:Nat} (hn:n < 2 ^ 52):El [n,0,0,0,0] (2 ^ 52):=El.mk5 hn (by decide) (by decide) (by decide) (by decide)
theorem Qcs (n:Nat):fe [n,0,0,0,0] = Go.Fp.fp n:=by simp [fe,v51,num]
def ofX (V i:Nat):List Nat:=dig (2 ^ 51) 5 (V % 2 ^ i)
def Qnf (k x:List Nat) (i:Nat) (ex:Env):St:=⟨[(1,.pointer (some ⟨0,0,none⟩)),(2,.pointer (some ⟨1,0,none⟩)),(3,.pointer (some ⟨2,0,none⟩)),(5,.int .i64 i)] ++ ex,[⟨u8s k,true,true,true,1⟩,⟨ns .u64 [0,0,0,0,0],true,true,true,1⟩,⟨ns .u64 x,true,true,true,1⟩],[]⟩
theorem Qwx {k:List Nat} (lk:k.length = 32) (xk:∀ x ∈ k,x < 256) {i:Nat} (hi:i < 255) :
  Jl T 0 Qik (Qnf k (ofX (num 256 k) i) i []) = some (.normal,Qnf k (ofX (num 256 k) (i + 1)) (i + 1) []):=by
 obtain ⟨b,hb⟩:∃ b,k[i / 8]? = some b:=⟨_,Q1 (by omega)⟩
 have hbv:=Bv (B:=256) (by decide) xk hb
 have hbc:=Wo hb
 have hlen:(ofX (num 256 k) i).length = 5:=Kc _ _ _
 obtain ⟨y,hy⟩:∃ b,(ofX (num 256 k) i)[i / 51]? = some b:=⟨_,Q1 (by omega)⟩
 have hyc:=Yo (k := .u64) hy
 have hy':y < 2 ^ 51:=Gs (by decide) (Zk hy)
 have hbit:b / 2 ^ (i % 8) % 2 = num 256 k / 2 ^ i % 2:=by
  rw [← hbv,show (256:Nat) = 2 ^ 8 from rfl,Qkk (Jk _ (by decide)),Vr]
 have hput:=Qf6 (w:=51) (m:=5) (q:=i / 51) (s:=i % 51) (y:=num 256 k / 2 ^ i % 2) (M:=num 256 k % 2 ^ i) (by omega) (Jk _ (by decide)) (by rw [Vr]; exact Jk _ (Ws (by decide))) (by
  have h1:=Qao (num 256 k) i
  have h2:(2:Nat) ^ (i % 51) ≤ 2 ^ 50:=Vf (by decide) (by have:=Jk i (by decide:0 < 51); omega)
  have h3:num 256 k / 2 ^ i % 2 * 2 ^ (i % 51) ≤ 1 * 2 ^ 50:=Wg (by omega) h2
  omega)
 rw [Vr,Qog] at hput
 have hgd:(dig (2 ^ 51) 5 (num 256 k % 2 ^ i)).getD (i / 51) 0 = y:=by rw [Xh]; unfold ofX at hy; rw [hy]; rfl
 rw [hgd] at hput
 have hset:=Ux .u64 (ofX (num 256 k) i) (i / 51) (y ||| num 256 k / 2 ^ i % 2 * 2 ^ (i % 51))
 rw [show (ofX (num 256 k) i).set (i / 51) (y ||| num 256 k / 2 ^ i % 2 * 2 ^ (i % 51)) = ofX (num 256 k) (i + 1) from hput] at hset
 have hbl:=Qao (num 256 k) i
 have h50:(2:Nat) ^ (i % 51) ≤ 2 ^ 50:=Vf (by decide) (by have:=Jk i (by decide:0 < 51); omega)
 have hprod:num 256 k / 2 ^ i % 2 * 2 ^ (i % 51) ≤ 1 * 2 ^ 50:=Wg (by omega) h50
 have s1:(2:Int) ^ min (i % 8) IntKind.u8.bits = ((2 ^ (i % 8):Nat):Int):=Te (Wh (Jk _ (by decide)))
 have s2:(2:Int) ^ min (i % 51) IntKind.u64.bits = ((2 ^ (i % 51):Nat):Int):=Te (by have:=Jk i (by decide:0 < 51); exact Un (Wh this) (by decide))
 have o1:Vz .or .u64 (y:Int) ((num 256 k / 2 ^ i % 2 * 2 ^ (i % 51):Nat):Int) = ((y ||| num 256 k / 2 ^ i % 2 * 2 ^ (i % 51):Nat):Int):=Gk rfl (by show _ < 18446744073709551616; omega) (by show _ < 18446744073709551616; omega)
 have n1:(num 256 k / 2 ^ i % 2 * 2 ^ (i % 51)) % 18446744073709551616 = num 256 k / 2 ^ i % 2 * 2 ^ (i % 51):=by omega
 have n2:(num 256 k / 2 ^ i % 2) % 18446744073709551616 = num 256 k / 2 ^ i % 2:=by omega
 have w1:IntKind.i64.wrap ((i / 51:Nat):Int) = ((i / 51:Nat):Int):=Vn (by omega)
 have w2:IntKind.i64.wrap ((i / 8:Nat):Int) = ((i / 8:Nat):Int):=Vn (by omega)
 have w3:IntKind.i64.wrap ((i + 1:Nat):Int) = ((i + 1:Nat):Int):=Vn (by omega)
 have e1:((i:Int) < 255) = True:=eq_true (by omega)
 have e2:(((i / 51:Nat):Int) < 5) = True:=eq_true (by omega)
 have e3:(((i / 8:Nat):Int) < 32) = True:=eq_true (by omega)
 have e4:(((i % 8:Nat):Int) < 0) = False:=eq_false (by omega)
 have e5:(((i % 51:Nat):Int) < 0) = False:=eq_false (by omega)
 have e6:i / 51 + 1 ≤ 5:=by omega
 simp only [Qnf,Qik,Z0,quiet,cF,↓pF,reduceCtorEq,Qb,Qp,Zi,Xv,↓Zo,↓Zn,↓Zw,↓Zz,↓Zx,↓Zy,cL,Qo,Qn,Qx,Qw,Qu,Ql,Qk,Qv,Qd,Qz,Q0,Qq,Qf,Qh,Qg,Qt,Qs,Qr,Qm,Qe,cJ,cU,hbc,hyc,hbit,s1,s2,o1,n1,n2,w1,w2,w3,e1,e2,e3,e4,e5,e6,hset,J2,hlen]
theorem Qwy {k:List Nat} (lk:k.length = 32) (xk:∀ x ∈ k,x < 256):Vd T 37 [.agg (u8s k).toArray] = some (eV (dig (2 ^ 51) 5 (num 256 k % 2 ^ 255))):=by
 have hz:Qa 5 (Value.int .u64 0) = ns .u64 [0,0,0,0,0]:=rfl
 have hb:=Wb (T:=T) (base:=0) (id:=0) (body:=Qik) (fun i => Qnf k (ofX (num 256 k) i) i []) (s':=Qnf k (ofX (num 256 k) 255) 255 [(6,.bool false)]) 255 (fun i hi => Qwx lk xk hi) (by
  simp only [Qnf,Qik,Z0,quiet,cF,↓pF,reduceCtorEq,Qb,Qp,Zi,Xv,↓Zo,↓Zn,↓Zw,↓Zz,↓Zx,↓Zy,cL,Qo,Qn,Qx,Qw,Qu,Ql,Qk,Qv,Qd,Qz,Q0,Qq,Qf,Qh,Qg,Qt,Qs,Qr,Qm,Qe])
 have h0:ofX (num 256 k) 0 = [0,0,0,0,0]:=by unfold ofX; rw [Ya,Qos]; decide
 rw [h0] at hb
 have hlen:(ofX (num 256 k) 255).length = 5:=Kc _ _ _
 rw [show dig (2 ^ 51) 5 (num 256 k % 2 ^ 255) = ofX (num 256 k) 255 from rfl]
 generalize ofX (num 256 k) 255 = X at *
 simp only [Qnf,Zb,Za,Xu] at hb
 apply Xg
 apply Zt
 rw [Jc (fn:=a49) rfl]
 have hl5:(ns .u64 [0,0,0,0,0]).length = 5:=rfl
 simp only [a49,Z0,quiet,cF,↓pF,reduceCtorEq,Qb,Qp,Zi,Xv,↓Zo,↓Zn,↓Zw,↓Zz,↓Zx,↓Zy,cL,Qo,Qn,Qx,Qw,Qu,Ql,Qk,Qv,Qd,Qz,Q0,Qq,Qf,Qh,Qg,Qt,Qs,Qr,Qm,Qe,cJ,hz,hb,Qnf,eV,hl5,J2,hlen]
 rfl
theorem Qng {V:Nat}:El (dig (2 ^ 51) 5 V) (2 ^ 52):=⟨Kc _ _ _,fun x hx => by have:=Gs (by decide) hx; omega⟩
theorem Qg9 {V:Nat}:v51 (dig (2 ^ 51) 5 (V % 2 ^ 255)) = V % 2 ^ 255:=by
 have h:=U5 (B:=2 ^ 51) (by decide) 5 (V % 2 ^ 255)
 rw [show ((2:Nat) ^ 51) ^ 5 = 2 ^ 255 from by rw [← Yp],Hh] at h
 exact h
theorem dm (a b:Nat):∃ r,a = b * (a / b) + r ∧ a % b = r ∧ (0 < b → r < b):=⟨a % b,(Vr a b).symm,rfl,fun h => Jk _ h⟩
theorem Qt9 {x0 x1 x2 x3 x4:Nat} (h0:x0 < 9223372036854775808) (h1:x1 < 9223372036854775808) (h2:x2 < 9223372036854775808) (h3:x3 < 9223372036854775808) (h4:x4 < 9223372036854775808) :
  ∃ y0 y1 y2 y3 y4 z0 z1 z2 z3 z4,Mo x0 x1 x2 x3 x4 = [y0,y1,y2,y3,y4] ∧ y0 < 9223372036854775808 ∧ y1 < 9223372036854775808 ∧ y2 < 9223372036854775808 ∧ y3 < 9223372036854775808 ∧ y4 < 9223372036854775808 ∧
   Mo y0 y1 y2 y3 y4 = [z0,z1,z2,z3,z4] ∧ z0 < 2251799813685248 + 19 ∧ z1 < 2251799813685248 ∧ z2 < 2251799813685248 ∧ z3 < 2251799813685248 ∧ z4 < 2251799813685248 ∧ (∃ k,v51 [z0,z1,z2,z3,z4] + k * Go.Fp.P = v51 [x0,x1,x2,x3,x4]):=by
 have key:∀ y0 y1 y2 y3 y4:Nat,y0 < 2251799813685248 + 19 * 8192 → y1 < 2251799813685248 → y2 < 2251799813685248 → y3 < 2251799813685248 → y4 < 2251799813685248 → Mo x0 x1 x2 x3 x4 = [y0,y1,y2,y3,y4] →
   ∃ z0 z1 z2 z3 z4,Mo y0 y1 y2 y3 y4 = [z0,z1,z2,z3,z4] ∧ z0 < 2251799813685248 + 19 ∧ z1 < 2251799813685248 ∧ z2 < 2251799813685248 ∧ z3 < 2251799813685248 ∧ z4 < 2251799813685248 ∧ (∃ k,v51 [z0,z1,z2,z3,z4] + k * Go.Fp.P = v51 [x0,x1,x2,x3,x4]):=by
  intro y0 y1 y2 y3 y4 b0 b1 b2 b3 b4 hy
  refine ⟨_,_,_,_,_,rfl,?_,Jk _ (by decide),Jk _ (by decide),Jk _ (by decide),Jk _ (by decide),?_⟩
  ·have c0:y0 / 2251799813685248 ≤ 1:=by omega
   have c1:(y1 + y0 / 2251799813685248) / 2251799813685248 ≤ 1:=by omega
   have c2:(y2 + (y1 + y0 / 2251799813685248) / 2251799813685248) / 2251799813685248 ≤ 1:=by omega
   have c3:(y3 + (y2 + (y1 + y0 / 2251799813685248) / 2251799813685248) / 2251799813685248) / 2251799813685248 ≤ 1:=by omega
   generalize (y3 + (y2 + (y1 + y0 / 2251799813685248) / 2251799813685248) / 2251799813685248) / 2251799813685248 = c at *
   rcases V5 y0 2251799813685248 with h | h
   ·
    have d0:y0 / 2251799813685248 = 0:=by omega
    have c4:(y4 + c) / 2251799813685248 ≤ 1:=by omega
    have:=Jk y0 (by decide:0 < 2251799813685248)
    omega
   ·have c4:(y4 + c) / 2251799813685248 ≤ 1:=by omega
    have:=Jk y0 (by decide:0 < 2251799813685248)
    omega
  ·obtain ⟨k1,e1⟩:=Qdh (x0:=y0) (x1:=y1) (x2:=y2) (x3:=y3) (x4:=y4)
   obtain ⟨k2,e2⟩:=Qdh (x0:=x0) (x1:=x1) (x2:=x2) (x3:=x3) (x4:=x4)
   rw [hy] at e2
   refine ⟨k1 + k2,?_⟩
   rw [Kt,← Ka,← e2,← e1]
   rfl
 have c0:x0 / 2251799813685248 < 8192:=by omega
 have c1:(x1 + x0 / 2251799813685248) / 2251799813685248 < 8192:=by omega
 have c2:(x2 + (x1 + x0 / 2251799813685248) / 2251799813685248) / 2251799813685248 < 8192:=by omega
 have c3:(x3 + (x2 + (x1 + x0 / 2251799813685248) / 2251799813685248) / 2251799813685248) / 2251799813685248 < 8192:=by omega
 have c4:(x4 + (x3 + (x2 + (x1 + x0 / 2251799813685248) / 2251799813685248) / 2251799813685248) / 2251799813685248) / 2251799813685248 < 8192:=by omega
 have m0:=Jk x0 (by decide:0 < 2251799813685248)
 have m1:=Jk (x1 + x0 / 2251799813685248) (by decide:0 < 2251799813685248)
 have m2:=Jk (x2 + (x1 + x0 / 2251799813685248) / 2251799813685248) (by decide:0 < 2251799813685248)
 have m3:=Jk (x3 + (x2 + (x1 + x0 / 2251799813685248) / 2251799813685248) / 2251799813685248) (by decide:0 < 2251799813685248)
 have m4:=Jk (x4 + (x3 + (x2 + (x1 + x0 / 2251799813685248) / 2251799813685248) / 2251799813685248) / 2251799813685248) (by decide:0 < 2251799813685248)
 obtain ⟨z0,z1,z2,z3,z4,g1,g2⟩:=key _ _ _ _ _ (by
  generalize (x4 + (x3 + (x2 + (x1 + x0 / 2251799813685248) / 2251799813685248) / 2251799813685248) / 2251799813685248) / 2251799813685248 = c at *
  generalize x0 % 2251799813685248 = r at *
  show r + 19 * c < _
  omega) m1 m2 m3 m4 rfl
 refine ⟨_,_,_,_,_,z0,z1,z2,z3,z4,rfl,?_,Uc m1 (by decide),Uc m2 (by decide),Uc m3 (by decide),Uc m4 (by decide),g1,g2⟩
 generalize (x4 + (x3 + (x2 + (x1 + x0 / 2251799813685248) / 2251799813685248) / 2251799813685248) / 2251799813685248) / 2251799813685248 = c at *
 generalize x0 % 2251799813685248 = r at *
 show r + 19 * c < _
 omega
def Qkr (z0 z1 z2 z3 z4:Nat):Nat:=(z4 + (z3 + (z2 + (z1 + (z0 + 19) / 2251799813685248) / 2251799813685248) / 2251799813685248) / 2251799813685248) / 2251799813685248
def Qtx (z0 z1 z2 z3 z4:Nat):List Nat :=
 let u0:=z0 / 2251799813685248
 let u1:=(z1 + u0) / 2251799813685248
 let u2:=(z2 + u1) / 2251799813685248
 let u3:=(z3 + u2) / 2251799813685248
 [z0 % 2251799813685248,(z1 + u0) % 2251799813685248,(z2 + u1) % 2251799813685248,(z3 + u2) % 2251799813685248,(z4 + u3) % 2251799813685248]
theorem Q1r {z0 z1 z2 z3 z4:Nat} (h0:z0 < 2251799813685248 + 19) (h1:z1 < 2251799813685248) (h2:z2 < 2251799813685248) (h3:z3 < 2251799813685248) (h4:z4 < 2251799813685248) :
  Qkr z0 z1 z2 z3 z4 ≤ 1 ∧ Qtx (z0 + 19 * Qkr z0 z1 z2 z3 z4) z1 z2 z3 z4 = dig (2 ^ 51) 5 (v51 [z0,z1,z2,z3,z4] % Go.Fp.P):=by
 have hc:Qkr z0 z1 z2 z3 z4 ≤ 1 ∧ ((Qkr z0 z1 z2 z3 z4 = 0 ∧ v51 [z0,z1,z2,z3,z4] < Go.Fp.P) ∨ (Qkr z0 z1 z2 z3 z4 = 1 ∧ Go.Fp.P ≤ v51 [z0,z1,z2,z3,z4])):=by
  simp only [Qkr,v51,num,Go.Fp.Qar]
  obtain ⟨r0,e0,-,l0⟩:=dm (z0 + 19) 2251799813685248
  generalize (z0 + 19) / 2251799813685248 = t0 at *
  obtain ⟨r1,e1,-,l1⟩:=dm (z1 + t0) 2251799813685248
  generalize (z1 + t0) / 2251799813685248 = t1 at *
  obtain ⟨r2,e2,-,l2⟩:=dm (z2 + t1) 2251799813685248
  generalize (z2 + t1) / 2251799813685248 = t2 at *
  obtain ⟨r3,e3,-,l3⟩:=dm (z3 + t2) 2251799813685248
  generalize (z3 + t2) / 2251799813685248 = t3 at *
  obtain ⟨r4,e4,-,l4⟩:=dm (z4 + t3) 2251799813685248
  generalize (z4 + t3) / 2251799813685248 = t4 at *
  have l0:=l0 (by decide)
  have l1:=l1 (by decide)
  have l2:=l2 (by decide)
  have l3:=l3 (by decide)
  have l4:=l4 (by decide)
  omega
 have hP:=Go.Fp.Qar
 obtain ⟨hc1,hc2⟩:=hc
 refine ⟨hc1,?_⟩
 generalize Qkr z0 z1 z2 z3 z4 = c at *
 have hlt:∀ x ∈ Qtx (z0 + 19 * c) z1 z2 z3 z4,x < 2251799813685248:=by
  intro x hx
  simp only [Qtx,W0,Us,or_false] at hx
  rcases hx with h | h | h | h | h <;> (rw [h]; exact Jk _ (by decide))
 have hnum:num 2251799813685248 (Qtx (z0 + 19 * c) z1 z2 z3 z4) = v51 [z0,z1,z2,z3,z4] % Go.Fp.P:=by
  have hV:v51 [z0,z1,z2,z3,z4] % Go.Fp.P = v51 [z0,z1,z2,z3,z4] - c * Go.Fp.P:=by
   rcases hc2 with ⟨g1,g2⟩ | ⟨g1,g2⟩
   ·rw [Z3 g2,g1]; omega
   ·have g3:v51 [z0,z1,z2,z3,z4] < Go.Fp.P + Go.Fp.P:=by
     simp only [v51,num,Go.Fp.Qar] at *
     omega
    rw [g1,Wm,Nat.mod_eq_sub_mod g2,Z3 (by omega)]
  rw [hV]
  simp only [Qtx,v51,num,Go.Fp.Qar] at hc2 ⊢
  obtain ⟨r0,e0,f0,l0⟩:=dm (z0 + 19 * c) 2251799813685248
  rw [f0]
  generalize (z0 + 19 * c) / 2251799813685248 = t0 at *
  obtain ⟨r1,e1,f1,l1⟩:=dm (z1 + t0) 2251799813685248
  rw [f1]
  generalize (z1 + t0) / 2251799813685248 = t1 at *
  obtain ⟨r2,e2,f2,l2⟩:=dm (z2 + t1) 2251799813685248
  rw [f2]
  generalize (z2 + t1) / 2251799813685248 = t2 at *
  obtain ⟨r3,e3,f3,l3⟩:=dm (z3 + t2) 2251799813685248
  rw [f3]
  generalize (z3 + t2) / 2251799813685248 = t3 at *
  obtain ⟨r4,e4,f4,l4⟩:=dm (z4 + t3) 2251799813685248
  rw [f4]
  generalize (z4 + t3) / 2251799813685248 = t4 at *
  have l0:=l0 (by decide)
  have l1:=l1 (by decide)
  have l2:=l2 (by decide)
  have l3:=l3 (by decide)
  have l4:=l4 (by decide)
  rcases hc2 with ⟨g1,g2⟩ | ⟨g1,g2⟩ <;> subst g1 <;> omega
 have h5:=D1 (B:=2251799813685248) (by decide) hlt
 rw [hnum] at h5
 exact h5.symm
def byX (V i:Nat):List Nat:=dig (2 ^ 8) 32 (V % 2 ^ i)
def Qlt (x k:List Nat) (R:Ob) (i:Nat) (ex:Env):St:=⟨[(1,.pointer (some ⟨0,0,none⟩)),(2,.pointer (some ⟨1,0,none⟩)),(6,.pointer (some ⟨2,0,none⟩)),(54,.int .i64 i)] ++ ex,[⟨ns .u64 x,true,true,true,1⟩,R,⟨u8s k,true,true,true,1⟩],[]⟩
theorem Qyq {V:Nat} {R:Ob} {i:Nat} (hi:i < 255) :
  Jl T 0 Qe5 (Qlt (dig (2 ^ 51) 5 V) (byX V i) R i []) = some (.normal,Qlt (dig (2 ^ 51) 5 V) (byX V (i + 1)) R (i + 1) []):=by
 obtain ⟨b,hb⟩:∃ b,(dig (2 ^ 51) 5 V)[i / 51]? = some b:=⟨_,Q1 (by rw [Kc]; omega)⟩
 have hbv:V / (2 ^ 51) ^ (i / 51) % 2 ^ 51 = b:=by rw [Uz (by omega)] at hb; exact G0 hb
 have hbc:=Yo (k := .u64) hb
 have hlen:(byX V i).length = 32:=Kc _ _ _
 obtain ⟨y,hy⟩:∃ b,(byX V i)[i / 8]? = some b:=⟨_,Q1 (by omega)⟩
 have hyc:=Wo hy
 have hy':y < 2 ^ 8:=Gs (by decide) (Zk hy)
 have hbit:b / 2 ^ (i % 51) % 2 = V / 2 ^ i % 2:=by
  rw [← hbv,Qkk (Jk _ (by decide)),Vr]
 have hsm:(2:Nat) ^ (i % 8) ≤ 2 ^ 7:=Vf (by decide) (by have:=Jk i (by decide:0 < 8); omega)
 have hbl:=Qao V i
 have hprod:V / 2 ^ i % 2 * 2 ^ (i % 8) ≤ 1 * 2 ^ 7:=Wg (by omega) hsm
 have hput:=Qf6 (w:=8) (m:=32) (q:=i / 8) (s:=i % 8) (y:=V / 2 ^ i % 2) (M:=V % 2 ^ i) (by omega) (Jk _ (by decide)) (by rw [Vr]; exact Jk _ (Ws (by decide))) (by omega)
 rw [Vr,Qog] at hput
 have hgd:(dig (2 ^ 8) 32 (V % 2 ^ i)).getD (i / 8) 0 = y:=by rw [Xh]; unfold byX at hy; rw [hy]; rfl
 rw [hgd] at hput
 have hset:=U3 (byX V i) (i / 8) (y ||| V / 2 ^ i % 2 * 2 ^ (i % 8))
 rw [show (byX V i).set (i / 8) (y ||| V / 2 ^ i % 2 * 2 ^ (i % 8)) = byX V (i + 1) from hput] at hset
 have s1:(2:Int) ^ min (i % 8) IntKind.u8.bits = ((2 ^ (i % 8):Nat):Int):=Te (Wh (Jk _ (by decide)))
 have s2:(2:Int) ^ min (i % 51) IntKind.u64.bits = ((2 ^ (i % 51):Nat):Int):=Te (by have:=Jk i (by decide:0 < 51); exact Un (Wh this) (by decide))
 have o1:Vz .or .u8 (y:Int) ((V / 2 ^ i % 2 * 2 ^ (i % 8):Nat):Int) = ((y ||| V / 2 ^ i % 2 * 2 ^ (i % 8):Nat):Int):=Gk rfl (by show _ < 256; omega) (by show _ < 256; omega)
 have n1:(V / 2 ^ i % 2 * 2 ^ (i % 8)) % 256 = V / 2 ^ i % 2 * 2 ^ (i % 8):=by omega
 have n2:(V / 2 ^ i % 2) % 256 = V / 2 ^ i % 2:=by omega
 have w1:IntKind.i64.wrap ((i / 51:Nat):Int) = ((i / 51:Nat):Int):=Vn (by omega)
 have w2:IntKind.i64.wrap ((i / 8:Nat):Int) = ((i / 8:Nat):Int):=Vn (by omega)
 have w3:IntKind.i64.wrap ((i + 1:Nat):Int) = ((i + 1:Nat):Int):=Vn (by omega)
 have e1:((i:Int) < 255) = True:=eq_true (by omega)
 have e2:(((i / 51:Nat):Int) < 5) = True:=eq_true (by omega)
 have e3:(((i / 8:Nat):Int) < 32) = True:=eq_true (by omega)
 have e4:(((i % 8:Nat):Int) < 0) = False:=eq_false (by omega)
 have e5:(((i % 51:Nat):Int) < 0) = False:=eq_false (by omega)
 have e6:i / 8 + 1 ≤ 32:=by omega
 simp only [Qlt,Qe5,Z0,quiet,cF,↓pF,reduceCtorEq,Qb,Qp,Zi,Xv,↓Zo,↓Zn,↓Zw,↓Zz,↓Zx,↓Zy,cL,Qo,Qn,Qx,Qw,Qu,Ql,Qk,Qv,Qd,Qz,Q0,Qq,Qf,Qh,Qg,Qt,Qs,Qr,Qm,Qe,cJ,cU,hbc,hyc,hbit,s1,s2,o1,n1,n2,w1,w2,w3,e1,e2,e3,e4,e5,e6,hset,X2,hlen]
theorem Qub {V:Nat} {R:Ob} (hV:V < 2 ^ 255):Jl T 0 (.block 4 (.loop Qe5)) (Qlt (dig (2 ^ 51) 5 V) (dig 256 32 0) R 0 []) = some (.normal,Qlt (dig (2 ^ 51) 5 V) (dig 256 32 V) R 255 [(55,.bool false)]):=by
 have hb:=Wb (T:=T) (base:=0) (id:=4) (body:=Qe5) (fun i => Qlt (dig (2 ^ 51) 5 V) (byX V i) R i []) (s':=Qlt (dig (2 ^ 51) 5 V) (byX V 255) R 255 [(55,.bool false)]) 255 (fun i hi => Qyq hi) (by
  simp only [Qlt,Qe5,Z0,quiet,cF,↓pF,reduceCtorEq,Qb,Qp,Zi,Xv,↓Zo,↓Zn,↓Zw,↓Zz,↓Zx,↓Zy,cL,Qo,Qn,Qx,Qw,Qu,Ql,Qk,Qv,Qd,Qz,Q0,Qq,Qf,Qh,Qg,Qt,Qs,Qr,Qm,Qe])
 rw [show byX V 0 = dig 256 32 0 from by unfold byX; rw [Ya,Qos],show byX V 255 = dig 256 32 V from by unfold byX; rw [Z3 hV]] at hb
 exact hb
theorem Qua {x0 x1 x2 x3 x4:Nat} (h0:x0 < 9223372036854775808) (h1:x1 < 9223372036854775808) (h2:x2 < 9223372036854775808) (h3:x3 < 9223372036854775808) (h4:x4 < 9223372036854775808) :
  Vd T 45 [eV [x0,x1,x2,x3,x4]] = some (.agg (u8s (dig 256 32 (v51 [x0,x1,x2,x3,x4] % Go.Fp.P))).toArray):=by
 obtain ⟨y0,y1,y2,y3,y4,z0,z1,z2,z3,z4,hy,a0,a1,a2,a3,a4,hz,b0,b1,b2,b3,b4,⟨kk,hk⟩⟩:=Qt9 h0 h1 h2 h3 h4
 have hV:v51 [x0,x1,x2,x3,x4] % Go.Fp.P = v51 [z0,z1,z2,z3,z4] % Go.Fp.P:=by rw [← hk,Bt]
 obtain ⟨hc,hfin⟩:=Q1r b0 b1 b2 b3 b4
 have c1:=R3 h0 h1 h2 h3 h4
 have c2:=R3 a0 a1 a2 a3 a4
 rw [hy] at c1
 rw [hz] at c2
 have hN:v51 [z0,z1,z2,z3,z4] % Go.Fp.P < 2 ^ 255:=Uc (Jk _ (by decide)) (by rw [Go.Fp.Qar]; decide)
 have hb:=Qub (R:=⟨u8s (dig 256 32 0),true,true,true,1⟩) hN
 rw [hV]
 generalize v51 [z0,z1,z2,z3,z4] % Go.Fp.P = N at *
 have hz5:Qa 5 (Value.int .u64 0) = [.int .u64 0,.int .u64 0,.int .u64 0,.int .u64 0,.int .u64 0]:=rfl
 have hz32:Qa 32 (Value.int .u8 0) = u8s (dig 256 32 0):=rfl
 have hr5:∀ a b c d e:Int,rf (.agg [.int .u64 a,.int .u64 b,.int .u64 c,.int .u64 d,.int .u64 e].toArray) = true:=fun _ _ _ _ _ => rfl
 have hlk:(dig 256 32 N).length = 32:=Kc _ _ _
 have hl0:(dig 256 32 0).length = 32:=rfl
 have f0:(z0 + 19) % 18446744073709551616 = z0 + 19:=by omega
 have f1:(z1 + (z0 + 19) / 2251799813685248) % 18446744073709551616 = z1 + (z0 + 19) / 2251799813685248:=by omega
 have f2:(z2 + (z1 + (z0 + 19) / 2251799813685248) / 2251799813685248) % 18446744073709551616 = z2 + (z1 + (z0 + 19) / 2251799813685248) / 2251799813685248:=by
  generalize (z1 + (z0 + 19) / 2251799813685248) = t at *; omega
 have f3:(z3 + (z2 + (z1 + (z0 + 19) / 2251799813685248) / 2251799813685248) / 2251799813685248) % 18446744073709551616 = z3 + (z2 + (z1 + (z0 + 19) / 2251799813685248) / 2251799813685248) / 2251799813685248:=by
  have:(z2 + (z1 + (z0 + 19) / 2251799813685248) / 2251799813685248) / 2251799813685248 < 2251799813685248:=by omega
  generalize (z2 + (z1 + (z0 + 19) / 2251799813685248) / 2251799813685248) / 2251799813685248 = t at *; omega
 have f4:(z4 + (z3 + (z2 + (z1 + (z0 + 19) / 2251799813685248) / 2251799813685248) / 2251799813685248) / 2251799813685248) % 18446744073709551616 = z4 + (z3 + (z2 + (z1 + (z0 + 19) / 2251799813685248) / 2251799813685248) / 2251799813685248) / 2251799813685248:=by
  have:(z2 + (z1 + (z0 + 19) / 2251799813685248) / 2251799813685248) / 2251799813685248 < 2251799813685248:=by omega
  generalize (z2 + (z1 + (z0 + 19) / 2251799813685248) / 2251799813685248) / 2251799813685248 = t at *; omega
 have ft:(z4 + (z3 + (z2 + (z1 + (z0 + 19) / 2251799813685248) / 2251799813685248) / 2251799813685248) / 2251799813685248) / 2251799813685248 = Qkr z0 z1 z2 z3 z4:=rfl
 generalize Qkr z0 z1 z2 z3 z4 = c at *
 have g0:19 * c % 18446744073709551616 = 19 * c:=by omega
 have g1:(z0 + 19 * c) % 18446744073709551616 = z0 + 19 * c:=by omega
 have g2:(z0 + 19 * c + 0) % 18446744073709551616 = z0 + 19 * c:=by omega
 have k0:(z0 + 19 * c) / 2251799813685248 < 8:=by omega
 have g3:(z1 + (z0 + 19 * c) / 2251799813685248) % 18446744073709551616 = z1 + (z0 + 19 * c) / 2251799813685248:=by omega
 have k1:(z1 + (z0 + 19 * c) / 2251799813685248) / 2251799813685248 < 8:=by omega
 have g4:(z2 + (z1 + (z0 + 19 * c) / 2251799813685248) / 2251799813685248) % 18446744073709551616 = z2 + (z1 + (z0 + 19 * c) / 2251799813685248) / 2251799813685248:=by
  generalize (z1 + (z0 + 19 * c) / 2251799813685248) / 2251799813685248 = t at *; omega
 have k2:(z2 + (z1 + (z0 + 19 * c) / 2251799813685248) / 2251799813685248) / 2251799813685248 < 8:=by
  generalize (z1 + (z0 + 19 * c) / 2251799813685248) / 2251799813685248 = t at *; omega
 have g5:(z3 + (z2 + (z1 + (z0 + 19 * c) / 2251799813685248) / 2251799813685248) / 2251799813685248) % 18446744073709551616 = z3 + (z2 + (z1 + (z0 + 19 * c) / 2251799813685248) / 2251799813685248) / 2251799813685248:=by
  generalize (z2 + (z1 + (z0 + 19 * c) / 2251799813685248) / 2251799813685248) / 2251799813685248 = t at *; omega
 have k3:(z3 + (z2 + (z1 + (z0 + 19 * c) / 2251799813685248) / 2251799813685248) / 2251799813685248) / 2251799813685248 < 8:=by
  generalize (z2 + (z1 + (z0 + 19 * c) / 2251799813685248) / 2251799813685248) / 2251799813685248 = t at *; omega
 have g6:(z4 + (z3 + (z2 + (z1 + (z0 + 19 * c) / 2251799813685248) / 2251799813685248) / 2251799813685248) / 2251799813685248) % 18446744073709551616 = z4 + (z3 + (z2 + (z1 + (z0 + 19 * c) / 2251799813685248) / 2251799813685248) / 2251799813685248) / 2251799813685248:=by
  generalize (z3 + (z2 + (z1 + (z0 + 19 * c) / 2251799813685248) / 2251799813685248) / 2251799813685248) / 2251799813685248 = t at *; omega
 rw [← hfin] at hb
 simp only [eV,Dg,Qac] at c1 c2 ⊢
 simp only [Qlt,Qtx,Dg,Qac,Zb,Za,Xu] at hb
 apply Xg
 apply Zt
 rw [Jc (fn:=a57) rfl]
 have u0:=fun s => @Yy T 0 Qii s
 have u1:=fun s => @Yy T 0 Qij s
 have v0:=fun s => @Jq T 0 0 (.loop Qii) s
 have v1:=fun s => @Jq T 0 2 (.loop Qij) s
 have d0:∀ s,Jl T 0 Qii s = Jl T 0 _ s:=fun s => congrArg (fun c => Jl T 0 c s) Qii.eq_1
 have d1:∀ s,Jl T 0 Qij s = Jl T 0 _ s:=fun s => congrArg (fun c => Jl T 0 c s) Qij.eq_1
 simp only [a57,Z0,quiet,cF,↓pF,reduceCtorEq,Qb,Qp,Zi,Xv,↓Zo,↓Zn,↓Zw,↓Zz,↓Zx,↓Zy,cL,Qo,Qn,Qx,Qw,Qu,Ql,Qk,Qv,Qd,Qz,Q0,Qq,Qf,Qh,Qg,Qt,Qs,Qr,Qm,Qe,cJ,cU,hz5,hz32,c1,c2,hr5,u0,u1,v0,v1,d0,d1,f0,f1,f2,f3,f4,ft,g0,g1,g2,g3,g4,g5,g6,hb,X2,hlk,hl0]
 rfl
theorem key_inj {a b:Nat} (ha:a < 256 ^ 32) (hb:b < 256 ^ 32):(dig 256 32 a == dig 256 32 b) = decide (a = b):=by
 by_cases h:a = b
 ·subst h; simp
 ·have:¬ dig 256 32 a = dig 256 32 b:=fun he => h (by
   have h1:=congrArg (num 256) he
   rwa [U5 (by decide),U5 (by decide),Z3 ha,Z3 hb] at h1)
  rw [decide_eq_false h,beq_eq_false_iff_ne.2 this]
theorem P_lt:Go.Fp.P < 256 ^ 32:=by rw [Go.Fp.Qar]; decide
theorem Q6g (l:List Nat):(fe l).val = v51 l % Go.Fp.P:=rfl
theorem Qbb {l:List Nat} (h:El l (2 ^ 52)):Vd T 45 [eV l] = some (.agg (u8s (dig 256 32 (fe l).val)).toArray):=by
 obtain ⟨x0,x1,x2,x3,x4,rfl,a0,a1,a2,a3,a4⟩:=h.five
 exact Qua (by omega) (by omega) (by omega) (by omega) (by omega)
theorem Q3y (a:Go.Fp.Fe):a.val < 256 ^ 32:=Uc a.isLt P_lt
theorem Qya (a b:Go.Fp.Fe):(dig 256 32 a.val == dig 256 32 b.val) = decide (a = b):=by
 rw [key_inj (Q3y a) (Q3y b)]
 by_cases h:a = b
 ·subst h; simp
 ·have:¬ a.val = b.val:=fun he => h (Fin.ext he)
  rw [decide_eq_false h,decide_eq_false this]
theorem Jy (l:List Nat):(eV l).cells.toList = ns .u64 l:=rfl
theorem Xs (l:List Nat):(eV l).cells.size = l.length:=J2 _ _
theorem Vm (l:List Nat):Yk (eV l) = true:=rfl
theorem Xt (l:List Nat):Value.agg (ns .u64 l).toArray = eV l:=rfl
theorem Q1y {x y:List Nat} (hx:El x (2 ^ 52)) (hy:El y (2 ^ 52)):Vd T 96 [eV x,eV y] = some (.bool (decide (fe x = fe y))):=by
 have h1:=Qbb hx
 have h2:=Qbb hy
 have l1:=hx.len
 have l2:=hy.len
 apply Xg
 apply Zt
 rw [Jc (fn:=a55) rfl]
 simp only [a55,Z0,quiet,cF,↓pF,reduceCtorEq,Qb,Qp,Zi,Xv,↓Zo,↓Zn,↓Zw,↓Zz,↓Zx,↓Zy,cL,Qo,Qn,Qx,Qw,Qu,Ql,Qk,Qv,Qd,Qz,Q0,Qq,Qf,Qh,Qg,Qt,Qs,Qr,Qm,Qe,cJ,Jy,Xs,Vm,Xt,J2,l1,l2,h1,h2,Ga,Kc,Qya,Vl]
 rfl
theorem Qxg {x:List Nat} (hx:El x (2 ^ 52)):Vd T 65 [eV x] = some (.bool (decide (fe x = 0))):=by
 have h1:=Qbb hx
 have l1:=hx.len
 have f0:fillL (Qa 32 (Value.int .u8 0)) [] = some (u8s (dig 256 32 (0:Go.Fp.Fe).val)):=rfl
 apply Xg
 apply Zt
 rw [Jc (fn:=a63) rfl]
 simp only [a63,Z0,quiet,cF,↓pF,reduceCtorEq,Qb,Qp,Zi,Xv,↓Zo,↓Zn,↓Zw,↓Zz,↓Zx,↓Zy,cL,Qo,Qn,Qx,Qw,Qu,Ql,Qk,Qv,Qd,Qz,Q0,Qq,Qf,Qh,Qg,Qt,Qs,Qr,Qm,Qe,cJ,Jy,Xs,Vm,Xt,J2,l1,h1,f0,Ga,Kc,Qya,Vl]
 rfl
theorem Qwz {x:List Nat} (hx:El x (2 ^ 52)):Vd T 46 [eV x] = some (.bool (decide ((fe x).val % 2 = 1))):=by
 have h1:=Qbb hx
 have l1:=hx.len
 have h0:(u8s (dig 256 32 (fe x).val))[0]? = some (.int .u8 (((fe x).val % 256:Nat):Int)):=by
  apply Wo
  rw [Uz (by decide),Ya,Wi]
 have hm:(fe x).val % 256 % 2 = (fe x).val % 2:=by omega
 have hd:((((fe x).val % 2:Nat):Int) == 1) = decide ((fe x).val % 2 = 1):=by
  by_cases h:(fe x).val % 2 = 1
  ·rw [h]; rfl
  ·have:¬ ((((fe x).val % 2:Nat):Int) = 1):=by omega
   rw [decide_eq_false h,beq_eq_false_iff_ne.2 this]
 apply Xg
 apply Zt
 rw [Jc (fn:=a58) rfl]
 simp only [a58,Z0,quiet,cF,↓pF,reduceCtorEq,Qb,Qp,Zi,Xv,↓Zo,↓Zn,↓Zw,↓Zz,↓Zx,↓Zy,cL,Qo,Qn,Qx,Qw,Qu,Ql,Qk,Qv,Qd,Qz,Q0,Qq,Qf,Qh,Qg,Qt,Qs,Qr,Qm,Qe,cJ,cU,Jy,Xs,Vm,Xt,J2,l1,h1,h0,hm,hd,X2,Kc,Vl]
 rfl
theorem Qob {k:List Nat} (lk:k.length = 32) (xk:∀ x ∈ k,x < 256):Vd T 61 [.agg (u8s k).toArray] = some (.bool (decide (num 256 k < Go.Fp.P))):=by
 have h0:=Qwy lk xk
 have hel:=Qng (V:=num 256 k % 2 ^ 255)
 have h1:=Qbb hel
 rw [Q6g,Qg9] at h1
 have hb:(dig 256 32 (num 256 k % 2 ^ 255 % Go.Fp.P) == k) = decide (num 256 k < Go.Fp.P):=by
  have hk:=D1 (B:=256) (by decide) xk
  rw [lk] at hk
  have hkl:=num_lt xk
  rw [lk] at hkl
  rw [show (dig 256 32 (num 256 k % 2 ^ 255 % Go.Fp.P) == k) = (dig 256 32 (num 256 k % 2 ^ 255 % Go.Fp.P) == dig 256 32 (num 256 k)) from by rw [hk]]
  have hP:=Go.Fp.Qar
  rw [key_inj (Uc (Jk _ (by rw [hP]; decide)) P_lt) hkl]
  by_cases h:num 256 k < Go.Fp.P
  ·rw [decide_eq_true h,Z3 (a:=num 256 k) (by rw [hP] at h; omega),Z3 h]; simp
  ·rw [decide_eq_false h,decide_eq_false]
   have:=Jk (num 256 k % 2 ^ 255) (show 0 < Go.Fp.P by rw [hP]; decide)
   omega
 apply Xg
 apply Zt
 rw [Jc (fn:=a59) rfl]
 simp only [a59,Z0,quiet,cF,↓pF,reduceCtorEq,Qb,Qp,Zi,Xv,↓Zo,↓Zn,↓Zw,↓Zz,↓Zx,↓Zy,cL,Qo,Qn,Qx,Qw,Qu,Ql,Qk,Qv,Qd,Qz,Q0,Qq,Qf,Qh,Qg,Qt,Qs,Qr,Qm,Qe,cJ,Jy,Xs,Vm,Xt,J2,X2,lk,h0,h1,Ga,Kc,hb,Vl]
 rfl
end Go.Ev.YtgacigcbglflkaaGreat
set_option linter.unusedSimpArgs false
set_option linter.unusedVariables false
namespace Go.Ev.YtgacigcbglflkaaGreat
open Go Go.Ev
attribute [local congr] W7 Ul W6 Um Wv
set_option maxRecDepth 100000
theorem Qr4 {x0 x1 x2 x3 x4:Nat} (h0:x0 < 2 ^ 60) (h1:x1 < 2 ^ 60) (h2:x2 < 2 ^ 60) (h3:x3 < 2 ^ 60) (h4:x4 < 2 ^ 60):El (Mo x0 x1 x2 x3 x4) (2 ^ 52):=by
 simp only [Mo]
 have c0:x0 / 2251799813685248 < 1024:=by omega
 have c1:(x1 + x0 / 2251799813685248) / 2251799813685248 < 1024:=by omega
 have c2:(x2 + (x1 + x0 / 2251799813685248) / 2251799813685248) / 2251799813685248 < 1024:=by omega
 have c3:(x3 + (x2 + (x1 + x0 / 2251799813685248) / 2251799813685248) / 2251799813685248) / 2251799813685248 < 1024:=by omega
 have c4:(x4 + (x3 + (x2 + (x1 + x0 / 2251799813685248) / 2251799813685248) / 2251799813685248) / 2251799813685248) / 2251799813685248 < 1024:=by omega
 have m0:=Jk x0 (by decide:0 < 2251799813685248)
 apply El.mk5
 ·generalize (x4 + (x3 + (x2 + (x1 + x0 / 2251799813685248) / 2251799813685248) / 2251799813685248) / 2251799813685248) / 2251799813685248 = c at *
  omega
 all_goals exact Uc (Jk _ (by decide)) (by decide)
theorem Qr3 {x0 x1 x2 x3 x4:Nat}:fe (Mo x0 x1 x2 x3 x4) = fe [x0,x1,x2,x3,x4]:=by
 obtain ⟨k,hk⟩:=Qdh (x0:=x0) (x1:=x1) (x2:=x2) (x3:=x3) (x4:=x4)
 exact Q3x hk
theorem Qfb {x y:List Nat} (hx:El x (2 ^ 52)) (hy:El y (2 ^ 52)):∃ r,Vd T 63 [eV x,eV y] = some (eV r) ∧ El r (2 ^ 52) ∧ fe r = fe x - fe y:=by
 obtain ⟨x0,x1,x2,x3,x4,rfl,a0,a1,a2,a3,a4⟩:=hx.five
 obtain ⟨y0,y1,y2,y3,y4,rfl,b0,b1,b2,b3,b4⟩:=hy.five
 refine ⟨Mo (x0 + (9007199254740988 - y0) - 72) (x1 + (9007199254740988 - y1)) (x2 + (9007199254740988 - y2)) (x3 + (9007199254740988 - y3)) (x4 + (9007199254740988 - y4)),?_,Qr4 (by omega) (by omega) (by omega) (by omega) (by omega),?_⟩
 ·have s0:(9007199254740988 + (18446744073709551616 - y0 % 18446744073709551616)) % 18446744073709551616 = 9007199254740988 - y0:=by omega
  have s1:(9007199254740988 + (18446744073709551616 - y1 % 18446744073709551616)) % 18446744073709551616 = 9007199254740988 - y1:=by omega
  have s2:(9007199254740988 + (18446744073709551616 - y2 % 18446744073709551616)) % 18446744073709551616 = 9007199254740988 - y2:=by omega
  have s3:(9007199254740988 + (18446744073709551616 - y3 % 18446744073709551616)) % 18446744073709551616 = 9007199254740988 - y3:=by omega
  have s4:(9007199254740988 + (18446744073709551616 - y4 % 18446744073709551616)) % 18446744073709551616 = 9007199254740988 - y4:=by omega
  have t0:(x0 + (9007199254740988 - y0)) % 18446744073709551616 = x0 + (9007199254740988 - y0):=by omega
  have t1:(x1 + (9007199254740988 - y1)) % 18446744073709551616 = x1 + (9007199254740988 - y1):=by omega
  have t2:(x2 + (9007199254740988 - y2)) % 18446744073709551616 = x2 + (9007199254740988 - y2):=by omega
  have t3:(x3 + (9007199254740988 - y3)) % 18446744073709551616 = x3 + (9007199254740988 - y3):=by omega
  have t4:(x4 + (9007199254740988 - y4)) % 18446744073709551616 = x4 + (9007199254740988 - y4):=by omega
  have r0:(x0 + (9007199254740988 - y0) + 18446744073709551544) % 18446744073709551616 = x0 + (9007199254740988 - y0) - 72:=by omega
  have c1:=R3 (x0:=x0 + (9007199254740988 - y0) - 72) (x1:=x1 + (9007199254740988 - y1)) (x2:=x2 + (9007199254740988 - y2)) (x3:=x3 + (9007199254740988 - y3)) (x4:=x4 + (9007199254740988 - y4)) (by omega) (by omega) (by omega) (by omega) (by omega)
  have hl:(Mo (x0 + (9007199254740988 - y0) - 72) (x1 + (9007199254740988 - y1)) (x2 + (9007199254740988 - y2)) (x3 + (9007199254740988 - y3)) (x4 + (9007199254740988 - y4))).length = 5:=rfl
  generalize Mo (x0 + (9007199254740988 - y0) - 72) (x1 + (9007199254740988 - y1)) (x2 + (9007199254740988 - y2)) (x3 + (9007199254740988 - y3)) (x4 + (9007199254740988 - y4)) = C at *
  have hz5:Qa 5 (Value.int .u64 0) = [.int .u64 0,.int .u64 0,.int .u64 0,.int .u64 0,.int .u64 0]:=rfl
  have hr5:∀ a b c d e:Int,rf (.agg [.int .u64 a,.int .u64 b,.int .u64 c,.int .u64 d,.int .u64 e].toArray) = true:=fun _ _ _ _ _ => rfl
  have u0:=fun s => @Yy T 0 Qih s
  have v0:=fun s => @Jq T 0 0 (.loop Qih) s
  have d0:∀ s,Jl T 0 Qih s = Jl T 0 _ s:=fun s => congrArg (fun c => Jl T 0 c s) Qih.eq_1
  have hrC:rf (.agg (ns .u64 C).toArray) = true:=Qrc _ _
  simp only [eV,Dg,Qac] at c1 ⊢
  apply Xg
  apply Zt
  rw [Jc (fn:=a61) rfl]
  simp only [a61,Z0,quiet,cF,↓pF,reduceCtorEq,Qb,Qp,Zi,Xv,↓Zo,↓Zn,↓Zw,↓Zz,↓Zx,↓Zy,cL,Qo,Qn,Qx,Qw,Qu,Ql,Qk,Qv,Qd,Qz,Q0,Qq,Qf,Qh,Qg,Qt,Qs,Qr,Qm,Qe,cJ,cU,hz5,c1,hr5,u0,v0,d0,s0,s1,s2,s3,s4,t0,t1,t2,t3,t4,r0,J2,hl,hrC]
  rfl
 ·rw [Qr3]
  have e:v51 [x0 + (9007199254740988 - y0) - 72,x1 + (9007199254740988 - y1),x2 + (9007199254740988 - y2),x3 + (9007199254740988 - y3),x4 + (9007199254740988 - y4)] + v51 [y0,y1,y2,y3,y4] = v51 [x0,x1,x2,x3,x4] + 4 * Go.Fp.P:=by
   simp only [v51,num,Go.Fp.Qar]
   omega
  have h:=congrArg Go.Fp.fp e
  rw [Go.Fp.Gg,Go.Fp.Gg,Go.Fp.Qrx] at h
  unfold fe
  grobner
theorem Qj5 {x:List Nat} (hx:El x (2 ^ 52)):∃ r,Vd T 66 [eV x] = some (eV r) ∧ El r (2 ^ 52) ∧ fe r = -fe x:=by
 have hz:=Qct (n:=0) (by decide)
 obtain ⟨r,h1,h2,h3⟩:=Qfb hz hx
 refine ⟨r,?_,h2,?_⟩
 ·have f0:fillL (ns .u64 [0,0,0,0,0]) [] = some (ns .u64 [0,0,0,0,0]):=rfl
  have hz5:Qa 5 (Value.int .u64 0) = ns .u64 [0,0,0,0,0]:=rfl
  have l1:=hx.len
  have l2:=h2.len
  have l0:(ns .u64 [0,0,0,0,0]).length = 5:=rfl
  apply Xg
  apply Zt
  rw [Jc (fn:=a64) rfl]
  simp only [a64,Z0,quiet,cF,↓pF,reduceCtorEq,Qb,Qp,Zi,Xv,↓Zo,↓Zn,↓Zw,↓Zz,↓Zx,↓Zy,cL,Qo,Qn,Qx,Qw,Qu,Ql,Qk,Qv,Qd,Qz,Q0,Qq,Qf,Qh,Qg,Qt,Qs,Qr,Qm,Qe,cJ,f0,hz5,h1,Jy,Xs,Vm,Xt,J2,l0,l1,l2,Vl]
  rfl
 ·rw [h3,Qcs,Go.Fp.Qrw]; grobner
def Qo1 (x y:List Nat):Ob:=⟨ns .u64 (x ++ y),true,true,true,1⟩
set_option maxHeartbeats 2000000 in
theorem Rb {H:List Ob} {id:Nat} {x y:List Nat} (hx:El x (2 ^ 52)) (hy:El y (2 ^ 52)) (h:H[id]? = some (Qo1 x y)):∃ r s,V6 T 64 [.slice (some ⟨id,0,none⟩) 2 2] H = some (eV r,H ++ [⟨ns .u64 r,true,true,true,1⟩,⟨ns .u64 s,true,true,true,1⟩,⟨ns .u64 x,true,true,true,1⟩,⟨ns .u64 y,true,true,true,1⟩],[]) ∧ El r (2 ^ 52) ∧ fe r = fe x + fe y:=by
 have hid:id < H.length:=(Q8.1 h).1
 have hA:∀ l,(H ++ l)[id]? = some (Qo1 x y):=fun l => by rw [Qy hid]; exact h
 obtain ⟨x0,x1,x2,x3,x4,rfl,a0,a1,a2,a3,a4⟩:=hx.five
 obtain ⟨y0,y1,y2,y3,y4,rfl,b0,b1,b2,b3,b4⟩:=hy.five
 refine ⟨Mo (x0 + y0) (x1 + y1) (x2 + y2) (x3 + y3) (x4 + y4),[x0 + y0,x1 + y1,x2 + y2,x3 + y3,x4 + y4],?_,Qr4 (by omega) (by omega) (by omega) (by omega) (by omega),?_⟩
 ·have s0:(0 + x0) % 18446744073709551616 = x0:=by omega
  have s1:(0 + x1) % 18446744073709551616 = x1:=by omega
  have s2:(0 + x2) % 18446744073709551616 = x2:=by omega
  have s3:(0 + x3) % 18446744073709551616 = x3:=by omega
  have s4:(0 + x4) % 18446744073709551616 = x4:=by omega
  have q0:x0 % 18446744073709551616 = x0:=by omega
  have q1:x1 % 18446744073709551616 = x1:=by omega
  have q2:x2 % 18446744073709551616 = x2:=by omega
  have q3:x3 % 18446744073709551616 = x3:=by omega
  have q4:x4 % 18446744073709551616 = x4:=by omega
  have t0:(x0 + y0) % 18446744073709551616 = x0 + y0:=by omega
  have t1:(x1 + y1) % 18446744073709551616 = x1 + y1:=by omega
  have t2:(x2 + y2) % 18446744073709551616 = x2 + y2:=by omega
  have t3:(x3 + y3) % 18446744073709551616 = x3 + y3:=by omega
  have t4:(x4 + y4) % 18446744073709551616 = x4 + y4:=by omega
  have c1:=R3 (x0:=x0 + y0) (x1:=x1 + y1) (x2:=x2 + y2) (x3:=x3 + y3) (x4:=x4 + y4) (by omega) (by omega) (by omega) (by omega) (by omega)
  have hl:(Mo (x0 + y0) (x1 + y1) (x2 + y2) (x3 + y3) (x4 + y4)).length = 5:=rfl
  generalize Mo (x0 + y0) (x1 + y1) (x2 + y2) (x3 + y3) (x4 + y4) = C at *
  have hz5:Qa 5 (Value.int .u64 0) = [.int .u64 0,.int .u64 0,.int .u64 0,.int .u64 0,.int .u64 0]:=rfl
  have hr5:∀ a b c d e:Int,rf (.agg [.int .u64 a,.int .u64 b,.int .u64 c,.int .u64 d,.int .u64 e].toArray) = true:=fun _ _ _ _ _ => rfl
  have u0:=fun s => @Yy T H.length Qig s
  have v0:=fun s => @Jq T H.length 2 (.loop Qig) s
  have d0:∀ s,Jl T H.length Qig s = Jl T H.length _ s:=fun s => congrArg (fun c => Jl T H.length c s) Qig.eq_1
  have u1:=fun s => @Yy T H.length Qif s
  have v1:=fun s => @Jq T H.length 0 (.loop Qif) s
  have d1:∀ s,Jl T H.length Qif s = Jl T H.length _ s:=fun s => congrArg (fun c => Jl T H.length c s) Qif.eq_1
  have hrC:rf (.agg (ns .u64 C).toArray) = true:=Qrc _ _
  have p1:∀ a b c d e f g i j k:Value,We 5 (Bs 0 [a,b,c,d,e,f,g,i,j,k]) = [a,b,c,d,e]:=fun _ _ _ _ _ _ _ _ _ _ => rfl
  have p2:∀ a b c d e f g i j k:Value,We 5 (Bs 5 [a,b,c,d,e,f,g,i,j,k]) = [f,g,i,j,k]:=fun _ _ _ _ _ _ _ _ _ _ => rfl
  simp only [eV,Dg,Qac] at c1 ⊢
  simp only [Qo1,Zb,Za,Dg,Qac] at hA h
  rw [Jc (fn:=a62) rfl]
  simp only [a62,Q6,Q5,Z0,quiet,cF,↓pF,reduceCtorEq,Qb,Qp,Zi,Xv,↓Zo,↓Zn,↓Zw,↓Zz,↓Zx,↓Zy,cL,Qo,Qn,Qx,Qw,Qu,Ql,Qk,Qv,Qd,Qz,Q0,Qq,Qf,Qh,Qg,Qt,Qs,Qr,Qm,Qe,cJ,cU,h,hA,hz5,c1,hr5,u0,v0,d0,u1,v1,d1,p1,p2,s0,s1,s2,s3,s4,q0,q1,q2,q3,q4,t0,t1,t2,t3,t4,J2,hl,hrC]
 ·rw [Qr3]
  have e:v51 [x0 + y0,x1 + y1,x2 + y2,x3 + y3,x4 + y4] = v51 [x0,x1,x2,x3,x4] + v51 [y0,y1,y2,y3,y4]:=by
   simp only [v51,num]
   omega
  unfold fe
  rw [e,Go.Fp.Gg]
theorem part5 {a b c:List Nat} {n:Nat} (hb:b.length = 5) (ha:a.length = n):We 5 (Bs n (ns .u64 (a ++ (b ++ c)))) = ns .u64 b:=by
 simp only [Qa4]
 rw [Uj (by rw [J2]; omega),Yb (by rw [J2]; omega),Za,Wt (by rw [J2]; omega),Zl (by rw [J2]; omega)]
theorem Qss {H:List Ob} {l:List Ob} {id n i:Nat} {o x r R:List Nat} {cs:List Value} {g:List Ob} (hi:i < n) (hn:n < 100) (hx:El x (2 ^ 52)) (ho:El o (2 ^ 52)) (hm:Vd T 39 [eV o,eV x] = some (eV r)) (hr:El r (2 ^ 52))
  (hA:∀ l,(H ++ l)[id]? = some ⟨cs,true,true,true,1⟩) (hcs:(cs.drop (i * 5)).take 5 = ns .u64 x) (hlen:i * 5 + 5 ≤ cs.length) :
  Jl T H.length Qh7 ⟨[(2,.pointer (some ⟨H.length,0,none⟩)),(3,.pointer (some ⟨H.length + 1,0,none⟩)),(7,.slice (some ⟨id,0,none⟩) n n),(8,.int .i64 n),(9,.int .i64 i)],H ++ (⟨ns .u64 R,true,true,true,1⟩ :: ⟨ns .u64 o,true,true,true,1⟩ :: g),[]⟩ =
   some (.normal,⟨[(2,.pointer (some ⟨H.length,0,none⟩)),(3,.pointer (some ⟨H.length + 1,0,none⟩)),(7,.slice (some ⟨id,0,none⟩) n n),(8,.int .i64 n),(9,.int .i64 ((i + 1:Nat):Int))],H ++ (⟨ns .u64 R,true,true,true,1⟩ :: ⟨ns .u64 r,true,true,true,1⟩ :: (g ++ [⟨ns .u64 x,true,true,true,1⟩])),[]⟩):=by
 have hz5:Qa 5 (Value.int .u64 0) = ns .u64 [0,0,0,0,0]:=rfl
 have l0:(ns .u64 [0,0,0,0,0]).length = 5:=rfl
 have l1:=hx.len
 have l2:=ho.len
 have l3:=hr.len
 have e1:((i:Int) < (n:Int)) = True:=eq_true (by omega)
 have w3:IntKind.i64.wrap ((i:Int) + 1) = ((i + 1:Nat):Int):=Vn (n:=i + 1) (by omega)
 simp only [Qh7,Z0,quiet,cF,↓pF,reduceCtorEq,Qb,Qp,Zi,Xv,↓Zo,↓Zn,↓Zw,↓Zz,↓Zx,↓Zy,cL,Qo,Qn,Qx,Qw,Qu,Ql,Qk,Qv,Qd,Qz,Q0,Qq,Qf,Qh,Qg,Qt,Qs,Qr,Qm,Qe,cJ,Ka,hz5,hA,hcs,hlen,hm,Jy,Xs,Vm,Xt,J2,l0,l1,l2,l3,Vl,e1,w3]
theorem Qer:fe [1,0,0,0,0] = 1:=by rw [Qcs]; rfl
theorem Qes:El [1,0,0,0,0] (2 ^ 52):=Qct (by decide)
theorem Td {H:List Ob} {id n:Nat} {xs:List (List Nat)} (hn:xs.length = n) (hN:n < 100) (hx:∀ x ∈ xs,El x (2 ^ 52)) (h:H[id]? = some ⟨ns .u64 xs.flatten,true,true,true,1⟩) :
  ∃ r,V6 T 85 [.slice (some ⟨id,0,none⟩) n n] H = some (eV r,H ++ (⟨ns .u64 r,true,true,true,1⟩ :: ⟨ns .u64 r,true,true,true,1⟩ :: xs.map fun x => (⟨ns .u64 x,true,true,true,1⟩:Ob)),[]) ∧ El r (2 ^ 52) ∧ fe r = (xs.map fe).foldl (· * ·) 1:=by
 have hid:id < H.length:=(Q8.1 h).1
 have hA:∀ l,(H ++ l)[id]? = some ⟨ns .u64 xs.flatten,true,true,true,1⟩:=fun l => by rw [Qy hid]; exact h
 have hfl:∀ (ys:List (List Nat)),(∀ x ∈ ys,El x (2 ^ 52)) → ys.flatten.length = ys.length * 5:=by
  intro ys hy
  induction ys with
  | nil => rfl
  | cons y ys ih =>
   rw [Vj,Z4,ih (fun x hx => hy x (by simp [hx])),(hy y (by simp)).len,Ja]; omega
 obtain ⟨st,hb,r,rfl,hr1,hr2⟩:=Vi (T:=T) (base:=H.length) (id:=0) (body:=Qh7)
  (fun i st => ∃ r:List Nat,st = ⟨[(2,.pointer (some ⟨H.length,0,none⟩)),(3,.pointer (some ⟨H.length + 1,0,none⟩)),(7,.slice (some ⟨id,0,none⟩) n n),(8,.int .i64 n),(9,.int .i64 (i:Nat))],H ++ (⟨ns .u64 [0,0,0,0,0],true,true,true,1⟩ :: ⟨ns .u64 r,true,true,true,1⟩ :: ((xs.take i).map fun x => (⟨ns .u64 x,true,true,true,1⟩:Ob))),[]⟩ ∧ El r (2 ^ 52) ∧ fe r = ((xs.take i).map fe).foldl (· * ·) 1)
  (Q:=fun st => ∃ r:List Nat,st = ⟨[(2,.pointer (some ⟨H.length,0,none⟩)),(3,.pointer (some ⟨H.length + 1,0,none⟩)),(7,.slice (some ⟨id,0,none⟩) n n),(8,.int .i64 n),(9,.int .i64 n),(10,.bool false)],H ++ (⟨ns .u64 [0,0,0,0,0],true,true,true,1⟩ :: ⟨ns .u64 r,true,true,true,1⟩ :: (xs.map fun x => (⟨ns .u64 x,true,true,true,1⟩:Ob))),[]⟩ ∧ El r (2 ^ 52) ∧ fe r = (xs.map fe).foldl (· * ·) 1)
  n (s:=⟨[(2,.pointer (some ⟨H.length,0,none⟩)),(3,.pointer (some ⟨H.length + 1,0,none⟩)),(7,.slice (some ⟨id,0,none⟩) n n),(8,.int .i64 n),(9,.int .i64 0)],H ++ [⟨ns .u64 [0,0,0,0,0],true,true,true,1⟩,⟨ns .u64 [1,0,0,0,0],true,true,true,1⟩],[]⟩) ⟨[1,0,0,0,0],rfl,Qes,Qer⟩
  (fun i st hi hs => by
   obtain ⟨r,rfl,hr1,hr2⟩:=hs
   obtain ⟨x,hxi⟩:∃ y,xs[i]? = some y:=⟨_,Q1 (by omega)⟩
   have hxe:=hx x (Zk hxi)
   obtain ⟨r',hm,g1,g2⟩:=Ur hr1 hxe
   have hsplit:xs = xs.take i ++ x :: xs.drop (i + 1):=by
    have h1:=Q8.1 hxi
    conv => lhs; rw [← W1 i xs,U0 h1.1,h1.2]
   have htl:(xs.take i).flatten.length = i * 5:=by
    rw [hfl _ (fun y hy => hx y (Kp hy)),Js,V8 (by omega)]
   have hcs:((ns .u64 xs.flatten).drop (i * 5)).take 5 = ns .u64 x:=by
    conv => lhs; rw [hsplit,Wa,Vj]
    exact part5 hxe.len htl
   have hb:=Qss (R:=[0,0,0,0,0]) (g:=(xs.take i).map fun x => (⟨ns .u64 x,true,true,true,1⟩:Ob)) (l:=[]) hi hN hxe hr1 hm g1 hA hcs (by rw [J2,hfl xs hx,hn]; omega)
   have htk:xs.take (i + 1) = xs.take i ++ [x]:=by rw [Yf,hxi]; rfl
   refine ⟨_,hb,r',?_,g1,?_⟩
   ·rw [htk,G6]; rfl
   ·rw [htk,G6,List.foldl_append,← hr2,g2]; rfl)
  (fun st hs => by
   obtain ⟨r,rfl,hr1,hr2⟩:=hs
   have e1:((n:Int) < (n:Int)) = False:=eq_false (by omega)
   have ht:xs.take n = xs:=Zl (by omega)
   rw [ht] at hr2 ⊢
   refine ⟨_,?_,r,rfl,hr1,hr2⟩
   simp only [Qh7,Z0,quiet,cF,↓pF,reduceCtorEq,Qb,Qp,Zi,Xv,↓Zo,↓Zn,↓Zw,↓Zz,↓Zx,↓Zy,cL,Qo,Qn,Qx,Qw,Qu,Ql,Qk,Qv,Qd,Qz,Q0,Qq,Qf,Qh,Qg,Qt,Qs,Qr,Qm,Qe,e1])
 refine ⟨r,?_,hr1,hr2⟩
 have hz5:Qa 5 (Value.int .u64 0) = ns .u64 [0,0,0,0,0]:=rfl
 have l0:(ns .u64 [0,0,0,0,0]).length = 5:=rfl
 have l1:=hr1.len
 have hs:=Qf1 (n:=1) (by decide)
 have l2:([1,0,0,0,0]:List Nat).length = 5:=rfl
 simp only [B0] at hs
 rw [Jc (fn:=a82) rfl]
 simp only [a82,Z0,quiet,cF,↓pF,reduceCtorEq,Qb,Qp,Zi,Xv,↓Zo,↓Zn,↓Zw,↓Zz,↓Zx,↓Zy,cL,Qo,Qn,Qx,Qw,Qu,Ql,Qk,Qv,Qd,Qz,Q0,Qq,Qf,Qh,Qg,Qt,Qs,Qr,Qm,Qe,cJ,Ka,hz5,hs,hb,Jy,Xs,Vm,Xt,J2,l0,l1,l2,Vl]
def pwI (x k o:List Nat) (i:Int) (ex:Env):St:=⟨[(2,.pointer (some ⟨0,0,none⟩)),(3,.pointer (some ⟨1,0,none⟩)),(4,.pointer (some ⟨2,0,none⟩)),(5,.pointer (some ⟨3,0,none⟩)),(6,.int .i64 i)] ++ ex,[⟨ns .u64 x,true,true,true,1⟩,⟨u8s k,true,true,true,1⟩,⟨ns .u64 [0,0,0,0,0],true,true,true,1⟩,⟨ns .u64 o,true,true,true,1⟩],[]⟩
theorem Qm1 (a:Go.Fp.Fe) (m b:Nat) (hb:b < 2):Go.Fp.pow a (2 * m + b) = if b = 1 then Go.Fp.pow a m * Go.Fp.pow a m * a else Go.Fp.pow a m * Go.Fp.pow a m:=by
 have h1:Go.Fp.pow a (2 * m) = Go.Fp.pow a m * Go.Fp.pow a m:=by rw [show 2 * m = m + m by omega,Go.Fp.pow_add]
 by_cases h:b = 1
 ·subst h
  rw [if_pos rfl,Go.Fp.pow,h1]
 ·have:b = 0:=by omega
  subst this
  rw [if_neg (by decide),Jr,h1]
theorem Qz8 {x k o:List Nat} {i:Nat} {ex:Env} (hx:El x (2 ^ 52)) (lk:k.length = 32) (xk:∀ x ∈ k,x < 256) (hi:i < 256) (ho:El o (2 ^ 52)) (hp:fe o = Go.Fp.pow (fe x) (num 256 k / 2 ^ (i + 1))) :
  ∃ r,Jl T 0 Qe4 (pwI x k o i ex) = some (.normal,pwI x k r ((i:Int) - 1) []) ∧ El r (2 ^ 52) ∧ fe r = Go.Fp.pow (fe x) (num 256 k / 2 ^ i):=by
 obtain ⟨b,hb⟩:∃ b,k[i / 8]? = some b:=⟨_,Q1 (by omega)⟩
 have hbv:=Bv (B:=256) (by decide) xk hb
 have hbc:=Wo hb
 have hbit:b / 2 ^ (i % 8) % 2 = num 256 k / 2 ^ i % 2:=by
  rw [← hbv,show (256:Nat) = 2 ^ 8 from rfl,Qkk (Jk _ (by decide)),Vr]
 obtain ⟨r1,m1,g1,g2⟩:=Ur ho ho
 obtain ⟨r2,m2,g3,g4⟩:=Ur g1 hx
 have hlt:=Qao (num 256 k) i
 have hnum:num 256 k / 2 ^ i = 2 * (num 256 k / 2 ^ (i + 1)) + num 256 k / 2 ^ i % 2:=by
  rw [Kq,← X9]
  omega
 have hstep:=Qm1 (fe x) (num 256 k / 2 ^ (i + 1)) (num 256 k / 2 ^ i % 2) hlt
 rw [← hnum,← hp] at hstep
 have s1:(2:Int) ^ min (i % 8) IntKind.u8.bits = ((2 ^ (i % 8):Nat):Int):=Te (Wh (Jk _ (by decide)))
 have w2:IntKind.i64.wrap ((i / 8:Nat):Int) = ((i / 8:Nat):Int):=Vn (by omega)
 have w3:IntKind.i64.wrap ((i:Int) - 1) = (i:Int) - 1:=K9 (by omega) (by omega)
 have e1:((0:Int) ≤ (i:Int)) = True:=eq_true (by omega)
 have e3:(((i / 8:Nat):Int) < 32) = True:=eq_true (by omega)
 have e4:(((i % 8:Nat):Int) < 0) = False:=eq_false (by omega)
 have l1:=hx.len
 have l2:=ho.len
 have l3:=g1.len
 have l4:=g3.len
 have l0:([0,0,0,0,0]:List Nat).length = 5:=rfl
 generalize hB:num 256 k / 2 ^ i % 2 = B at *
 by_cases hB1:B = 1
 ·have hbq:((B:Int) == 1) = true:=by rw [hB1]; rfl
  rw [if_pos hB1] at hstep
  refine ⟨r2,?_,g3,by rw [hstep,g4,g2]⟩
  simp only [pwI,Qe4,Z0,quiet,cF,↓pF,reduceCtorEq,Qb,Qp,Zi,Xv,↓Zo,↓Zn,↓Zw,↓Zz,↓Zx,↓Zy,cL,Qo,Qn,Qx,Qw,Qu,Ql,Qk,Qv,Qd,Qz,Q0,Qq,Qf,Qh,Qg,Qt,Qs,Qr,Qm,Qe,cJ,cU,hbc,hbit,s1,w2,w3,e1,e3,e4,m1,m2,hbq,Jy,Xs,Vm,Xt,J2,l1,l2,l3,l4,Vl]
 ·have hbq:((B:Int) == 1) = false:=by
   have:B = 0:=by omega
   rw [this]; rfl
  rw [if_neg hB1] at hstep
  refine ⟨r1,?_,g1,by rw [hstep,g2]⟩
  simp only [pwI,Qe4,Z0,quiet,cF,↓pF,reduceCtorEq,Qb,Qp,Zi,Xv,↓Zo,↓Zn,↓Zw,↓Zz,↓Zx,↓Zy,cL,Qo,Qn,Qx,Qw,Qu,Ql,Qk,Qv,Qd,Qz,Q0,Qq,Qf,Qh,Qg,Qt,Qs,Qr,Qm,Qe,cJ,cU,hbc,hbit,s1,w2,w3,e1,e3,e4,m1,m2,hbq,Jy,Xs,Vm,Xt,J2,l1,l2,l3,l4,Vl]
theorem Qz9 {x k:List Nat} (hx:El x (2 ^ 52)) (lk:k.length = 32) (xk:∀ x ∈ k,x < 256):∃ r,Vd T 86 [eV x,.agg (u8s k).toArray] = some (eV r) ∧ El r (2 ^ 52) ∧ fe r = Go.Fp.pow (fe x) (num 256 k):=by
 have hK:=num_lt xk
 rw [lk,show (256:Nat) ^ 32 = 2 ^ 256 from by rw [show (256:Nat) = 2 ^ 8 from rfl,← Yp]] at hK
 obtain ⟨st,hb,r,rfl,hr1,hr2⟩:=Vi (T:=T) (base:=0) (id:=0) (body:=Qe4)
  (fun j st => ∃ r:List Nat,st = pwI x k r ((255:Int) - j) [] ∧ El r (2 ^ 52) ∧ fe r = Go.Fp.pow (fe x) (num 256 k / 2 ^ (256 - j)))
  (Q:=fun st => ∃ r:List Nat,st = pwI x k r (-1) [(9,.bool false)] ∧ El r (2 ^ 52) ∧ fe r = Go.Fp.pow (fe x) (num 256 k))
  256 (s:=pwI x k [1,0,0,0,0] 255 []) ⟨_,rfl,Qes,by rw [Qer,Xw,Wz hK]; rfl⟩
  (fun j st hj hs => by
   obtain ⟨r,rfl,h1,h2⟩:=hs
   obtain ⟨i,hi⟩:∃ i,256 - j = i + 1:=⟨255 - j,by omega⟩
   rw [hi] at h2
   obtain ⟨r',g1,g2,g3⟩:=Qz8 (ex:=[]) hx lk xk (i:=i) (by omega) h1 h2
   rw [show (255:Int) - j = (i:Int) by omega]
   refine ⟨_,g1,r',?_,g2,?_⟩
   ·rw [show (255:Int) - ((j + 1:Nat):Int) = (i:Int) - 1 by omega]
   ·rw [show 256 - (j + 1) = i by omega]; exact g3)
  (fun st hs => by
   obtain ⟨r,rfl,h1,h2⟩:=hs
   rw [Kv,Ya,Wi] at h2
   have e:((0:Int) ≤ -1) = False:=by decide
   refine ⟨_,?_,r,rfl,h1,h2⟩
   rw [show (255:Int) - ((256:Nat):Int) = -1 by omega]
   simp only [pwI,Qe4,Z0,quiet,cF,↓pF,reduceCtorEq,Qb,Qp,Zi,Xv,↓Zo,↓Zn,↓Zw,↓Zz,↓Zx,↓Zy,cL,Qo,Qn,Qx,Qw,Qu,Ql,Qk,Qv,Qd,Qz,Q0,Qq,Qf,Qh,Qg,Qt,Qs,Qr,Qm,Qe,e])
 refine ⟨r,?_,hr1,hr2⟩
 have hz5:Qa 5 (Value.int .u64 0) = ns .u64 [0,0,0,0,0]:=rfl
 have hs:=Qf1 (n:=1) (by decide)
 have l2:([1,0,0,0,0]:List Nat).length = 5:=rfl
 have l0:([0,0,0,0,0]:List Nat).length = 5:=rfl
 have l1:=hx.len
 have l3:=hr1.len
 simp only [B0] at hs
 simp only [pwI,Zb,Za] at hb
 apply Xg
 apply Zt
 rw [Jc (fn:=a83) rfl]
 simp only [a83,Z0,quiet,cF,↓pF,reduceCtorEq,Qb,Qp,Zi,Xv,↓Zo,↓Zn,↓Zw,↓Zz,↓Zx,↓Zy,cL,Qo,Qn,Qx,Qw,Qu,Ql,Qk,Qv,Qd,Qz,Q0,Qq,Qf,Qh,Qg,Qt,Qs,Qr,Qm,Qe,cJ,hz5,hs,hb,pwI,Jy,Xs,Vm,Xt,J2,l0,l1,l2,l3,Vl]
 rfl
def onX (i:Nat):List Nat:=dig (2 ^ 8) 32 (2 ^ i - 1)
def onI (less:Value) (n:Int) (k:List Nat) (i:Nat) (ex:Env):St:=⟨[(1,less),(4,.pointer (some ⟨0,0,none⟩)),(5,.pointer (some ⟨1,0,none⟩)),(7,.int .i64 n),(8,.int .i64 i)] ++ ex,[⟨u8s (dig 256 32 0),true,true,true,1⟩,⟨u8s k,true,true,true,1⟩],[]⟩
theorem Q0p {less:Value} {n i:Nat} (hn:n ≤ 256) (hi:i < n):Jl T 0 Qh6 (onI less n (onX i) i []) = some (.normal,onI less n (onX (i + 1)) (i + 1) []):=by
 have hlen:(onX i).length = 32:=Kc _ _ _
 obtain ⟨y,hy⟩:∃ b,(onX i)[i / 8]? = some b:=⟨_,Q1 (by omega)⟩
 have hyc:=Wo hy
 have hy':y < 2 ^ 8:=Gs (by decide) (Zk hy)
 have hsm:(2:Nat) ^ (i % 8) ≤ 2 ^ 7:=Vf (by decide) (by have:=Jk i (by decide:0 < 8); omega)
 have hp:0 < (2:Nat) ^ i:=Ws (by decide)
 have hput:=Qf6 (w:=8) (m:=32) (q:=i / 8) (s:=i % 8) (y:=1) (M:=2 ^ i - 1) (by omega) (Jk _ (by decide)) (by rw [Vr]; omega) (by omega)
 rw [Vr,show 2 ^ i - 1 + 1 * 2 ^ i = 2 ^ (i + 1) - 1 by rw [Kq]; omega] at hput
 have hgd:(dig (2 ^ 8) 32 (2 ^ i - 1)).getD (i / 8) 0 = y:=by rw [Xh]; unfold onX at hy; rw [hy]; rfl
 rw [hgd,Wm] at hput
 have hset:=U3 (onX i) (i / 8) (y ||| 2 ^ (i % 8))
 rw [show (onX i).set (i / 8) (y ||| 2 ^ (i % 8)) = onX (i + 1) from hput] at hset
 have s1:(2:Int) ^ min (i % 8) IntKind.u8.bits = ((2 ^ (i % 8):Nat):Int):=Te (Wh (Jk _ (by decide)))
 have o1:Vz .or .u8 (y:Int) ((2 ^ (i % 8):Nat):Int) = ((y ||| 2 ^ (i % 8):Nat):Int):=Gk rfl (by show _ < 256; omega) (by show _ < 256; omega)
 have n1:(2 ^ (i % 8)) % 256 = 2 ^ (i % 8):=Z3 (Wk hsm (by decide))
 have w2:IntKind.i64.wrap ((i / 8:Nat):Int) = ((i / 8:Nat):Int):=Vn (by omega)
 have w3:IntKind.i64.wrap ((i + 1:Nat):Int) = ((i + 1:Nat):Int):=Vn (by omega)
 have e1:((i:Int) < (n:Int)) = True:=eq_true (by omega)
 have e3:(((i / 8:Nat):Int) < 32) = True:=eq_true (by omega)
 have e4:(((i % 8:Nat):Int) < 0) = False:=eq_false (by omega)
 have e6:i / 8 + 1 ≤ 32:=by omega
 have p1:1 * 2 ^ (i % 8) = 2 ^ (i % 8):=Wm _
 simp only [onI,Qh6,Z0,quiet,cF,↓pF,reduceCtorEq,Qb,Qp,Zi,Xv,↓Zo,↓Zn,↓Zw,↓Zz,↓Zx,↓Zy,cL,Qo,Qn,Qx,Qw,Qu,Ql,Qk,Qv,Qd,Qz,Q0,Qq,Qf,Qh,Qg,Qt,Qs,Qr,Qm,Qe,cJ,cU,hyc,s1,o1,n1,w2,w3,e1,e3,e4,e6,p1,hset,X2,hlen]
theorem Qpw {n less:Nat} (hn:n ≤ 256) (h8:8 ≤ n) (hl:less < 256):Vd T 87 [.int .i64 n,.int .u8 less] = some (.agg (u8s (dig 256 32 (2 ^ n - 1 - less))).toArray):=by
 have hb:=Wb (T:=T) (base:=0) (id:=0) (body:=Qh6) (fun i => onI (.int .u8 less) n (onX i) i []) (s':=onI (.int .u8 less) n (onX n) n [(9,.bool false)]) n (fun i hi => Q0p hn hi) (by
  have e1:((n:Int) < (n:Int)) = False:=eq_false (by omega)
  simp only [onI,Qh6,Z0,quiet,cF,↓pF,reduceCtorEq,Qb,Qp,Zi,Xv,↓Zo,↓Zn,↓Zw,↓Zz,↓Zx,↓Zy,cL,Qo,Qn,Qx,Qw,Qu,Ql,Qk,Qv,Qd,Qz,Q0,Qq,Qf,Qh,Qg,Qt,Qs,Qr,Qm,Qe,e1])
 rw [show onX 0 = dig 256 32 0 from rfl] at hb
 have hp8:(256:Nat) ≤ 2 ^ n:=by
  have:=Vf (n:=2) (by decide) h8
  exact this
 have hmod:2 ^ n % 256 = 0:=by
  rw [show n = 8 + (n - 8) by omega,Wl]; exact Nat.mul_mod_right _ _
 have h0:(onX n)[0]? = some 255:=by
  unfold onX
  rw [Uz (by decide),Ya,Wi]
  congr 1
  omega
 have h0c:=Wo h0
 have w0:IntKind.u8.wrap (255 - (less:Int)) = ((255 - less:Nat):Int):=by rw [wrap_u8]; omega
 have hset:=U3 (onX n) 0 (255 - less)
 have hfin:(onX n).set 0 (255 - less) = dig 256 32 (2 ^ n - 1 - less):=by
  apply Qa8 (by rw [Xe]; exact Kc _ _ _)
  intro t ht
  by_cases h0t:t = 0
  ·subst h0t
   rw [Xp (by rw [show (onX n).length = 32 from Kc _ _ _]; decide),Ya,Wi]
   congr 1
   omega
  ·rw [Jj (Ne.symm h0t)]
   unfold onX
   rw [Uz ht]
   congr 2
   obtain ⟨m,rfl⟩:∃ m,t = m + 1:=⟨t - 1,by omega⟩
   rw [show (2:Nat) ^ 8 = 256 from rfl,Kq,K7,← X9,← X9]
   congr 1
   omega
 rw [hfin] at hset
 simp only [Ww] at h0c
 have l1:(dig 256 32 (2 ^ n - 1 - less)).length = 32:=Kc _ _ _
 have l2:(onX n).length = 32:=Kc _ _ _
 have l3:(dig 256 32 0).length = 32:=rfl
 have hz32:Qa 32 (Value.int .u8 0) = u8s (dig 256 32 0):=rfl
 simp only [onI,Zb,Za,Xu] at hb
 apply Xg
 apply Zt
 rw [Jc (fn:=a84) rfl]
 simp only [a84,Z0,quiet,cF,↓pF,reduceCtorEq,Qb,Qp,Zi,Xv,↓Zo,↓Zn,↓Zw,↓Zz,↓Zx,↓Zy,cL,Qo,Qn,Qx,Qw,Qu,Ql,Qk,Qv,Qd,Qz,Q0,Qq,Qf,Qh,Qg,Qt,Qs,Qr,Qm,Qe,cJ,hz32,hb,onI,h0c,w0,hset,X2,l1,l2,l3]
 rfl
theorem Qah {v:Nat}:∀ x ∈ dig 256 32 v,x < 256:=fun _ h => Gs (by decide) h
theorem Qb6 {x:List Nat} {n less:Nat} (hx:El x (2 ^ 52)) (hn:n ≤ 256) (h8:8 ≤ n) (hl:less < 256):∃ r,Vd T 86 [eV x,.agg (u8s (dig 256 32 (2 ^ n - 1 - less))).toArray] = some (eV r) ∧ El r (2 ^ 52) ∧ fe r = Go.Fp.pow (fe x) (2 ^ n - 1 - less):=by
 obtain ⟨r,h1,h2,h3⟩:=Qz9 (k:=dig 256 32 (2 ^ n - 1 - less)) hx (Kc _ _ _) Qah
 refine ⟨r,h1,h2,?_⟩
 rw [h3,U5 (by decide),Z3]
 have h4:(2:Nat) ^ n ≤ 256 ^ 32:=by
  rw [show (256:Nat) ^ 32 = 2 ^ 256 from by rw [show (256:Nat) = 2 ^ 8 from rfl,← Yp]]
  exact Vf (by decide) hn
 have:0 < (2:Nat) ^ n:=Ws (by decide)
 omega
theorem Qxh {x:List Nat} (hx:El x (2 ^ 52)):∃ r,Vd T 44 [eV x] = some (eV r) ∧ El r (2 ^ 52) ∧ fe r = Go.Fp.iv (fe x):=by
 have h1:=Qpw (n:=255) (less:=20) (by decide) (by decide) (by decide)
 obtain ⟨r,h2,h3,h4⟩:=Qb6 (n:=255) (less:=20) hx (by decide) (by decide) (by decide)
 refine ⟨r,?_,h3,?_⟩
 ·have hz5:Qa 5 (Value.int .u64 0) = ns .u64 [0,0,0,0,0]:=rfl
  have l0:([0,0,0,0,0]:List Nat).length = 5:=rfl
  have l1:=hx.len
  have l2:=h3.len
  simp only [Ww] at h1
  generalize dig 256 32 (2 ^ 255 - 1 - 20) = K at *
  apply Xg
  apply Zt
  rw [Jc (fn:=a56) rfl]
  simp only [a56,Z0,quiet,cF,↓pF,reduceCtorEq,Qb,Qp,Zi,Xv,↓Zo,↓Zn,↓Zw,↓Zz,↓Zx,↓Zy,cL,Qo,Qn,Qx,Qw,Qu,Ql,Qk,Qv,Qd,Qz,Q0,Qq,Qf,Qh,Qg,Qt,Qs,Qr,Qm,Qe,cJ,hz5,h1,h2,Jy,Xs,Vm,Xt,J2,l0,l1,l2,Vl]
  rfl
 ·rw [h4]
  unfold Go.Fp.iv
  rw [Go.Fp.Qar]
end Go.Ev.YtgacigcbglflkaaGreat
set_option linter.unusedSimpArgs false
set_option linter.unusedVariables false
namespace Go.Ev
section
variable {T:Tab} {b:Nat}
theorem Tj:∀ (o1 o2:List AOper) (s:St) (recs:List Rec),evOps T b (o1 ++ o2) s recs = (evOps T b o1 s recs).bind fun r => evOps T b o2 r.1 r.2
 | [],o2,s,recs => by rw [Vc]; rfl
 | o :: o1,o2,s,recs => by
  rw [Zb,Kr,Kr]
  cases hg:guardOf s.env o.guard with
  | none => rfl
  | some g =>
   cases g with
   | false => exact Tj o1 o2 _ _
   | true =>
    cases hx:Yt T o.op s.env s.h with
    | none => simp [hx]
    | some x =>
     simp only [hx,Q4]
     exact Tj o1 o2 _ _
theorem Qcb:∀ (ops:List AOper) (s:St) (recs:List Rec) (s':St),steps T b false ops s = some s' → ∃ m,evOps T b ops s recs = some (s',recs ++ m)
 | [],s,recs,s',h => by
  simp only [steps,Q7] at h
  subst h
  exact ⟨[],by rw [Vc,Kw]⟩
 | o :: r,s,recs,s',h => by
  rw [Kr]
  unfold steps at h
  cases hg:guardOf s.env o.guard with
  | none => simp only [hg] at h; cases h
  | some g =>
   simp only [hg] at h
   cases g with
   | false =>
    obtain ⟨m,h1⟩:=Qcb r _ (recs ++ [(some [],[])]) s' h
    exact ⟨(some [],[]) :: m,by rw [h1]; simp⟩
   | true =>
    cases hx:Yt T o.op s.env s.h with
    | none => simp [hx] at h
    | some x =>
     simp only [hx,Q4,Qfx,Zv,if_false] at h
     obtain ⟨m,h1⟩:=Qcb r _ (recs ++ [(x.2.2.1,x.2.2.2)]) s' h
     exact ⟨(x.2.2.1,x.2.2.2) :: m,by simp only [hx,Q4]; rw [h1]; simp⟩
theorem Qfg {r1 r2:List Rec}:∀ {pairs:List (Nat × Nat)},(pairs.all fun p => decide (p.1 < r1.length) && decide (p.2 < r1.length)) = true → Vu r1 pairs = true → Vu (r1 ++ r2) pairs = true
 | [],_,_ => rfl
 | (i,j) :: ps,h,k => by
  simp only [J4,Vw,decide_eq_true_eq] at h
  simp only [Vu,J4,Vw] at k ⊢
  have ih:=Qfg (r1:=r1) (r2:=r2) (pairs:=ps) h.2 k.2
  simp only [Vu] at ih
  refine ⟨?_,ih⟩
  rw [Qy h.1.1,Qy h.1.2]
  exact k.1
def Gq:List (Nat × Nat) → Nat
 | [] => 0
 | (_,j) :: r => if j + 1 ≤ Gq r then Gq r else j + 1
theorem Ze:Gq [] = 0:=rfl
theorem Zc {i j:Nat} {r:List (Nat × Nat)}:Gq ((i,j) :: r) = if j + 1 ≤ Gq r then Gq r else j + 1:=rfl
def Qk4 (T:Tab) (b:Nat) (ops:List AOper) (pairs:List (Nat × Nat)) (s:St):Option St :=
 gate ((pairs.all fun p => decide (p.1 < Gq pairs) && decide (p.2 < Gq pairs)) = true ∧ Gq pairs ≤ ops.length)
  ((steps T b true (ops.take (Gq pairs)) s).bind fun s1 => steps T b false (ops.drop (Gq pairs)) s1)
theorem Zg {ops:List AOper} {pairs:List (Nat × Nat)} {s:St}:Qk4 T b ops pairs s = gate ((pairs.all fun p => decide (p.1 < Gq pairs) && decide (p.2 < Gq pairs)) = true ∧ Gq pairs ≤ ops.length)
  ((steps T b true (ops.take (Gq pairs)) s).bind fun s1 => steps T b false (ops.drop (Gq pairs)) s1):=Eq.trans rfl rfl
theorem Zf {ops:List AOper} {keep:Option (List Nat)} {p:Nat × Nat} {ps:List (Nat × Nat)} {s:St}:Jl T b (.region ops keep (p :: ps)) s = Qff ((Qk4 T b ops (p :: ps) s).bind fun s' => some (.normal,s'.after keep)) (Qxi T b (.region ops keep (p :: ps)) s):=by
 cases hq:Qk4 T b ops (p :: ps) s with
 | none => rfl
 | some s' =>
  simp only [Q4,Qff]
  unfold Qk4 gate at hq
  split at hq
  ·rename_i hp
   simp only [Qc] at hq
   obtain ⟨s1,k1,k2⟩:=hq
   obtain ⟨recs,h1,h2,h3⟩:=M7 _ s [] s1 k1 (by simp)
   obtain ⟨m,h4⟩:=Qcb _ s1 recs s' k2
   simp only [Jf,Z1,Js,V8 hp.2] at h3
   rw [Xf]
   conv => lhs; rw [← W1 (Gq (p :: ps)) ops]
   rw [Tj,h1]
   simp only [Q4,h4]
   have hpk:=hp.1
   rw [← h3] at hpk
   rw [if_pos (Qfg hpk (Ri h2 hpk))]
  ·cases hq
end
end Go.Ev
set_option linter.unusedSimpArgs false
set_option linter.unusedVariables false
namespace Go.Ev.YtgacigcbglflkaaGreat
open Go Go.Ev
attribute [local congr] W7 Ul W6 Um Wv
set_option maxRecDepth 100000
theorem Xd {cs:List Value} {n:Nat} (h:cs.length = n):cs.take n = cs:=Zl (by omega)
def pL (x y z t:List Nat):List Nat:=x ++ (y ++ (z ++ t))
def pV (x y z t:List Nat):Value := .agg (ns .u64 (pL x y z t)).toArray
theorem Q3r (x y z t:List Nat):rf (pV x y z t) = true:=Qrc _ _
theorem Qm2 (x y z t:List Nat):(pV x y z t).cells.toList = ns .u64 (pL x y z t):=rfl
theorem Qri (x y z t:List Nat):(pV x y z t).cells.size = (pL x y z t).length:=J2 _ _
theorem Q3u (x y z t:List Nat):Yk (pV x y z t) = true:=rfl
theorem Qrj (x y z t:List Nat):Value.agg (ns .u64 (pL x y z t)).toArray = pV x y z t:=rfl
theorem Hq {x y z t:List Nat} {b:Nat} (hx:El x b) (hy:El y b) (hz:El z b) (ht:El t b):(pL x y z t).length = 20:=by
 simp [pL,hx.len,hy.len,hz.len,ht.len]
theorem Qpl {x y z t:List Nat} {b:Nat} (hx:El x b) (hy:El y b) (hz:El z b) (ht:El t b) :
  We 5 (ns .u64 (pL x y z t)) = ns .u64 x ∧ We 5 (Bs 5 (ns .u64 (pL x y z t))) = ns .u64 y ∧ We 5 (Bs 10 (ns .u64 (pL x y z t))) = ns .u64 z ∧ We 5 (Bs 15 (ns .u64 (pL x y z t))) = ns .u64 t:=by
 obtain ⟨a0,a1,a2,a3,a4,rfl,-⟩:=hx.five
 obtain ⟨b0,b1,b2,b3,b4,rfl,-⟩:=hy.five
 obtain ⟨c0,c1,c2,c3,c4,rfl,-⟩:=hz.five
 obtain ⟨d0,d1,d2,d3,d4,rfl,-⟩:=ht.five
 exact ⟨rfl,rfl,rfl,rfl⟩
theorem Qfm {a b:List Nat} {k:Nat} (ha:El a k) (hb:El b k):fillL (Qa 10 (Value.int .u64 0)) [(0,5,eV a),(5,5,eV b)] = some (ns .u64 (a ++ b)):=by
 obtain ⟨a0,a1,a2,a3,a4,rfl,-⟩:=ha.five
 obtain ⟨b0,b1,b2,b3,b4,rfl,-⟩:=hb.five
 rfl
theorem Qn1 {a b c:List Nat} {k:Nat} (ha:El a k) (hb:El b k) (hc:El c k):fillL (Qa 15 (Value.int .u64 0)) [(0,5,eV a),(5,5,eV b),(10,5,eV c)] = some (ns .u64 [a,b,c].flatten):=by
 obtain ⟨a0,a1,a2,a3,a4,rfl,-⟩:=ha.five
 obtain ⟨b0,b1,b2,b3,b4,rfl,-⟩:=hb.five
 obtain ⟨c0,c1,c2,c3,c4,rfl,-⟩:=hc.five
 rfl
theorem Qfl {a b c d:List Nat} {k:Nat} (ha:El a k) (hb:El b k) (hc:El c k) (hd:El d k):fillL (Qa 20 (Value.int .u64 0)) [(0,5,eV a),(5,5,eV b),(10,5,eV c),(15,5,eV d)] = some (ns .u64 (pL a b c d)):=by
 obtain ⟨a0,a1,a2,a3,a4,rfl,-⟩:=ha.five
 obtain ⟨b0,b1,b2,b3,b4,rfl,-⟩:=hb.five
 obtain ⟨c0,c1,c2,c3,c4,rfl,-⟩:=hc.five
 obtain ⟨d0,d1,d2,d3,d4,rfl,-⟩:=hd.five
 rfl
theorem Qrk (a b c d:List Nat):pL a b c d = [a,b,c,d].flatten:=by simp [pL]
theorem Qu2:El [2,0,0,0,0] (2 ^ 52):=Qct (by decide)
theorem Qu0:Vd T 38 [.int .u32 2] = some (eV [2,0,0,0,0]):=Qf1 (n:=2) (by decide)
theorem Qo0:fe [2,0,0,0,0] = 2:=by rw [Qcs]; rfl
theorem Q5i {x1 y1 z1 t1 x2 y2 z2 t2 d:List Nat} (Ex1:El x1 (2 ^ 52)) (Ey1:El y1 (2 ^ 52)) (Ez1:El z1 (2 ^ 52)) (Et1:El t1 (2 ^ 52)) (Ex2:El x2 (2 ^ 52)) (Ey2:El y2 (2 ^ 52)) (Ez2:El z2 (2 ^ 52)) (Et2:El t2 (2 ^ 52)) (Ed:El d (2 ^ 52)) :
  ∃ x y z t,Vd T 43 [pV x1 y1 z1 t1,pV x2 y2 z2 t2,eV d] = some (pV x y z t) ∧ El x (2 ^ 52) ∧ El y (2 ^ 52) ∧ El z (2 ^ 52) ∧ El t (2 ^ 52) ∧
   ∃ a b c e:Go.Fp.Fe,a = (fe y1 - fe x1) * (fe y2 - fe x2) ∧ b = (fe y1 + fe x1) * (fe y2 + fe x2) ∧ c = 1 * 2 * fe d * fe t1 * fe t2 ∧ e = 1 * 2 * fe z1 * fe z2 ∧
    fe x = (b - a) * (e - c) ∧ fe y = (e + c) * (b + a) ∧ fe z = (e - c) * (e + c) ∧ fe t = (b - a) * (b + a):=by
 obtain ⟨two,htwo⟩:∃ two:List Nat,two = [2,0,0,0,0]:=⟨_,rfl⟩
 have Etwo:El two (2 ^ 52):=by rw [htwo]; exact Qu2
 have vtwo:Vd T 38 [.int .u32 2] = some (eV two):=by rw [htwo]; exact Qu0
 have ftwo:fe two = 2:=by rw [htwo]; exact Qo0
 clear htwo
 obtain ⟨r1,hr1,Er1,fr1⟩:=Qfb Ey1 Ex1
 obtain ⟨r2,hr2,Er2,fr2⟩:=Qfb Ey2 Ex2
 obtain ⟨r3,hr3,Er3,fr3⟩:=Ur Er1 Er2
 obtain ⟨r4,sr4,hr4,Er4,fr4⟩:=Rb (H:=[⟨ns .u64 (pL x1 y1 z1 t1),true,true,true,1⟩,⟨ns .u64 (pL x2 y2 z2 t2),true,true,true,1⟩,⟨ns .u64 d,true,true,true,1⟩,⟨Qa 20 (.int .u64 0),true,true,true,1⟩,⟨ns .u64 r3,true,true,true,1⟩,⟨ns .u64 (y1 ++ x1),true,true,true,1⟩]) (id:=5) Ey1 Ex1 rfl
 simp only [Zb,Za] at hr4
 obtain ⟨r5,sr5,hr5,Er5,fr5⟩:=Rb (H:=[⟨ns .u64 (pL x1 y1 z1 t1),true,true,true,1⟩,⟨ns .u64 (pL x2 y2 z2 t2),true,true,true,1⟩,⟨ns .u64 d,true,true,true,1⟩,⟨Qa 20 (.int .u64 0),true,true,true,1⟩,⟨ns .u64 r3,true,true,true,1⟩,⟨ns .u64 (y1 ++ x1),true,true,true,1⟩,⟨ns .u64 r4,true,true,true,1⟩,⟨ns .u64 sr4,true,true,true,1⟩,⟨ns .u64 y1,true,true,true,1⟩,⟨ns .u64 x1,true,true,true,1⟩,⟨ns .u64 (y2 ++ x2),true,true,true,1⟩]) (id:=10) Ey2 Ex2 rfl
 simp only [Zb,Za] at hr5
 obtain ⟨r6,hr6,Er6,fr6⟩:=Ur Er4 Er5
 obtain ⟨r7,hr7,Er7,fr7⟩:=Td (H:=[⟨ns .u64 (pL x1 y1 z1 t1),true,true,true,1⟩,⟨ns .u64 (pL x2 y2 z2 t2),true,true,true,1⟩,⟨ns .u64 d,true,true,true,1⟩,⟨Qa 20 (.int .u64 0),true,true,true,1⟩,⟨ns .u64 r3,true,true,true,1⟩,⟨ns .u64 (y1 ++ x1),true,true,true,1⟩,⟨ns .u64 r4,true,true,true,1⟩,⟨ns .u64 sr4,true,true,true,1⟩,⟨ns .u64 y1,true,true,true,1⟩,⟨ns .u64 x1,true,true,true,1⟩,⟨ns .u64 (y2 ++ x2),true,true,true,1⟩,⟨ns .u64 r5,true,true,true,1⟩,⟨ns .u64 sr5,true,true,true,1⟩,⟨ns .u64 y2,true,true,true,1⟩,⟨ns .u64 x2,true,true,true,1⟩,⟨ns .u64 r6,true,true,true,1⟩,⟨ns .u64 [two,d,t1,t2].flatten,true,true,true,1⟩]) (id:=16) (n:=4) (xs:=[two,d,t1,t2]) rfl (by decide) (by intro w hw; simp only [W0,Us,or_false] at hw; rcases hw with rfl | rfl | rfl | rfl <;> assumption) rfl
 simp only [Zb,Za,Y9,Uo,Up,Hi] at hr7 fr7
 obtain ⟨r8,hr8,Er8,fr8⟩:=Td (H:=[⟨ns .u64 (pL x1 y1 z1 t1),true,true,true,1⟩,⟨ns .u64 (pL x2 y2 z2 t2),true,true,true,1⟩,⟨ns .u64 d,true,true,true,1⟩,⟨Qa 20 (.int .u64 0),true,true,true,1⟩,⟨ns .u64 r3,true,true,true,1⟩,⟨ns .u64 (y1 ++ x1),true,true,true,1⟩,⟨ns .u64 r4,true,true,true,1⟩,⟨ns .u64 sr4,true,true,true,1⟩,⟨ns .u64 y1,true,true,true,1⟩,⟨ns .u64 x1,true,true,true,1⟩,⟨ns .u64 (y2 ++ x2),true,true,true,1⟩,⟨ns .u64 r5,true,true,true,1⟩,⟨ns .u64 sr5,true,true,true,1⟩,⟨ns .u64 y2,true,true,true,1⟩,⟨ns .u64 x2,true,true,true,1⟩,⟨ns .u64 r6,true,true,true,1⟩,⟨ns .u64 [two,d,t1,t2].flatten,true,true,true,1⟩,⟨ns .u64 r7,true,true,true,1⟩,⟨ns .u64 r7,true,true,true,1⟩,⟨ns .u64 two,true,true,true,1⟩,⟨ns .u64 d,true,true,true,1⟩,⟨ns .u64 t1,true,true,true,1⟩,⟨ns .u64 t2,true,true,true,1⟩,⟨ns .u64 r7,true,true,true,1⟩,⟨ns .u64 [two,z1,z2].flatten,true,true,true,1⟩]) (id:=24) (n:=3) (xs:=[two,z1,z2]) rfl (by decide) (by intro w hw; simp only [W0,Us,or_false] at hw; rcases hw with rfl | rfl | rfl <;> assumption) rfl
 simp only [Zb,Za,Y9,Uo,Up,Hi] at hr8 fr8
 obtain ⟨r9,hr9,Er9,fr9⟩:=Qfb Er6 Er3
 obtain ⟨r10,hr10,Er10,fr10⟩:=Qfb Er8 Er7
 obtain ⟨r11,sr11,hr11,Er11,fr11⟩:=Rb (H:=[⟨ns .u64 (pL x1 y1 z1 t1),true,true,true,1⟩,⟨ns .u64 (pL x2 y2 z2 t2),true,true,true,1⟩,⟨ns .u64 d,true,true,true,1⟩,⟨Qa 20 (.int .u64 0),true,true,true,1⟩,⟨ns .u64 r3,true,true,true,1⟩,⟨ns .u64 (y1 ++ x1),true,true,true,1⟩,⟨ns .u64 r4,true,true,true,1⟩,⟨ns .u64 sr4,true,true,true,1⟩,⟨ns .u64 y1,true,true,true,1⟩,⟨ns .u64 x1,true,true,true,1⟩,⟨ns .u64 (y2 ++ x2),true,true,true,1⟩,⟨ns .u64 r5,true,true,true,1⟩,⟨ns .u64 sr5,true,true,true,1⟩,⟨ns .u64 y2,true,true,true,1⟩,⟨ns .u64 x2,true,true,true,1⟩,⟨ns .u64 r6,true,true,true,1⟩,⟨ns .u64 [two,d,t1,t2].flatten,true,true,true,1⟩,⟨ns .u64 r7,true,true,true,1⟩,⟨ns .u64 r7,true,true,true,1⟩,⟨ns .u64 two,true,true,true,1⟩,⟨ns .u64 d,true,true,true,1⟩,⟨ns .u64 t1,true,true,true,1⟩,⟨ns .u64 t2,true,true,true,1⟩,⟨ns .u64 r7,true,true,true,1⟩,⟨ns .u64 [two,z1,z2].flatten,true,true,true,1⟩,⟨ns .u64 r8,true,true,true,1⟩,⟨ns .u64 r8,true,true,true,1⟩,⟨ns .u64 two,true,true,true,1⟩,⟨ns .u64 z1,true,true,true,1⟩,⟨ns .u64 z2,true,true,true,1⟩,⟨ns .u64 r8,true,true,true,1⟩,⟨ns .u64 (r8 ++ r7),true,true,true,1⟩]) (id:=31) Er8 Er7 rfl
 simp only [Zb,Za] at hr11
 obtain ⟨r12,sr12,hr12,Er12,fr12⟩:=Rb (H:=[⟨ns .u64 (pL x1 y1 z1 t1),true,true,true,1⟩,⟨ns .u64 (pL x2 y2 z2 t2),true,true,true,1⟩,⟨ns .u64 d,true,true,true,1⟩,⟨Qa 20 (.int .u64 0),true,true,true,1⟩,⟨ns .u64 r3,true,true,true,1⟩,⟨ns .u64 (y1 ++ x1),true,true,true,1⟩,⟨ns .u64 r4,true,true,true,1⟩,⟨ns .u64 sr4,true,true,true,1⟩,⟨ns .u64 y1,true,true,true,1⟩,⟨ns .u64 x1,true,true,true,1⟩,⟨ns .u64 (y2 ++ x2),true,true,true,1⟩,⟨ns .u64 r5,true,true,true,1⟩,⟨ns .u64 sr5,true,true,true,1⟩,⟨ns .u64 y2,true,true,true,1⟩,⟨ns .u64 x2,true,true,true,1⟩,⟨ns .u64 r6,true,true,true,1⟩,⟨ns .u64 [two,d,t1,t2].flatten,true,true,true,1⟩,⟨ns .u64 r7,true,true,true,1⟩,⟨ns .u64 r7,true,true,true,1⟩,⟨ns .u64 two,true,true,true,1⟩,⟨ns .u64 d,true,true,true,1⟩,⟨ns .u64 t1,true,true,true,1⟩,⟨ns .u64 t2,true,true,true,1⟩,⟨ns .u64 r7,true,true,true,1⟩,⟨ns .u64 [two,z1,z2].flatten,true,true,true,1⟩,⟨ns .u64 r8,true,true,true,1⟩,⟨ns .u64 r8,true,true,true,1⟩,⟨ns .u64 two,true,true,true,1⟩,⟨ns .u64 z1,true,true,true,1⟩,⟨ns .u64 z2,true,true,true,1⟩,⟨ns .u64 r8,true,true,true,1⟩,⟨ns .u64 (r8 ++ r7),true,true,true,1⟩,⟨ns .u64 r11,true,true,true,1⟩,⟨ns .u64 sr11,true,true,true,1⟩,⟨ns .u64 r8,true,true,true,1⟩,⟨ns .u64 r7,true,true,true,1⟩,⟨ns .u64 (r6 ++ r3),true,true,true,1⟩]) (id:=36) Er6 Er3 rfl
 simp only [Zb,Za] at hr12
 obtain ⟨r13,hr13,Er13,fr13⟩:=Ur Er9 Er10
 obtain ⟨r14,hr14,Er14,fr14⟩:=Ur Er11 Er12
 obtain ⟨r15,hr15,Er15,fr15⟩:=Ur Er10 Er11
 obtain ⟨r16,hr16,Er16,fr16⟩:=Ur Er9 Er12
 refine ⟨r13,r14,r15,r16,?_,Er13,Er14,Er15,Er16,fe r3,fe r6,fe r7,fe r8,?_⟩
 ·obtain ⟨q10,q11,q12,q13⟩:=Qpl Ex1 Ey1 Ez1 Et1
  obtain ⟨q20,q21,q22,q23⟩:=Qpl Ex2 Ey2 Ez2 Et2
  have p1:=Hq Ex1 Ey1 Ez1 Et1
  have p2:=Hq Ex2 Ey2 Ez2 Et2
  have p3:=Hq Er13 Er14 Er15 Er16
  have k4:=Qfl Etwo Ed Et1 Et2
  rw [Qrk] at k4
  have k3:=Qn1 Etwo Ez1 Ez2
  have kp:=Qfl Er13 Er14 Er15 Er16
  have m1:=Qfm Ey1 Ex1
  have m2:=Qfm Ey2 Ex2
  have m3:=Qfm Er8 Er7
  have m4:=Qfm Er6 Er3
  have Lx1:=Ex1.len
  have Ly1:=Ey1.len
  have Lz1:=Ez1.len
  have Lt1:=Et1.len
  have Lx2:=Ex2.len
  have Ly2:=Ey2.len
  have Lz2:=Ez2.len
  have Lt2:=Et2.len
  have Ld:=Ed.len
  have Ltwo:=Etwo.len
  have Lr1:=Er1.len
  have Lr2:=Er2.len
  have Lr3:=Er3.len
  have Lr4:=Er4.len
  have Lr5:=Er5.len
  have Lr6:=Er6.len
  have Lr7:=Er7.len
  have Lr8:=Er8.len
  have Lr9:=Er9.len
  have Lr10:=Er10.len
  have Lr11:=Er11.len
  have Lr12:=Er12.len
  have Lr13:=Er13.len
  have Lr14:=Er14.len
  have Lr15:=Er15.len
  have Lr16:=Er16.len
  apply Xg
  apply Zt
  rw [Jc (fn:=a54) rfl]
  simp only [a54,Z0,quiet,cF,↓pF,reduceCtorEq,Qb,Qp,Zi,Zf,Zg,Ze,Zc,Qj,Q3,Qi,Q2,Q6,Q5,↓Zo,↓Zn,↓Zw,↓Zz,↓Zx,↓Zy,cL,Qo,Qn,Qx,Qw,Qu,Ql,Qk,Qv,Qd,Qz,Q0,Qq,Qf,Qh,Qg,Qt,Qs,Qr,Qm,Qe,cJ,Zd,Xd,Qm2,Qri,Q3u,Qrj,Q3r,Jy,Xs,Vm,Xt,Vl,J2,q10,q11,q12,q13,q20,q21,q22,q23,p1,p2,p3,k4,k3,kp,m1,m2,m3,m4,vtwo,hr1,hr2,hr3,hr4,hr5,hr6,hr7,hr8,hr9,hr10,hr11,hr12,hr13,hr14,hr15,hr16,Lx1,Ly1,Lz1,Lt1,Lx2,Ly2,Lz2,Lt2,Ld,Ltwo,Lr1,Lr2,Lr3,Lr4,Lr5,Lr6,Lr7,Lr8,Lr9,Lr10,Lr11,Lr12,Lr13,Lr14,Lr15,Lr16]
  rfl
 ·refine ⟨?_,?_,?_,?_,?_,?_,?_,?_⟩
  ·rw [fr3,fr1,fr2]
  ·rw [fr6,fr4,fr5]
  ·rw [fr7,ftwo]
  ·rw [fr8,ftwo]
  ·rw [fr13,fr9,fr10]
  ·rw [fr14,fr11,fr12]
  ·rw [fr15,fr10,fr11]
  ·rw [fr16,fr9,fr12]
theorem Qzh {x1 y1 z1 t1:List Nat} (Ex1:El x1 (2 ^ 52)) (Ey1:El y1 (2 ^ 52)) (Ez1:El z1 (2 ^ 52)) (Et1:El t1 (2 ^ 52)) :
  ∃ x y z t,Vd T 42 [pV x1 y1 z1 t1] = some (pV x y z t) ∧ El x (2 ^ 52) ∧ El y (2 ^ 52) ∧ El z (2 ^ 52) ∧ El t (2 ^ 52) ∧
   ∃ a b c h e g f:Go.Fp.Fe,a = fe x1 * fe x1 ∧ b = fe y1 * fe y1 ∧ c = 1 * 2 * fe z1 * fe z1 ∧ h = a + b ∧ e = h - (fe x1 + fe y1) * (fe x1 + fe y1) ∧ g = a - b ∧ f = c + g ∧
    fe x = e * f ∧ fe y = g * h ∧ fe z = f * g ∧ fe t = e * h:=by
 obtain ⟨two,htwo⟩:∃ two:List Nat,two = [2,0,0,0,0]:=⟨_,rfl⟩
 have Etwo:El two (2 ^ 52):=by rw [htwo]; exact Qu2
 have vtwo:Vd T 38 [.int .u32 2] = some (eV two):=by rw [htwo]; exact Qu0
 have ftwo:fe two = 2:=by rw [htwo]; exact Qo0
 clear htwo
 obtain ⟨r1,hr1,Er1,fr1⟩:=Ur Ex1 Ex1
 obtain ⟨r2,hr2,Er2,fr2⟩:=Ur Ey1 Ey1
 obtain ⟨r3,hr3,Er3,fr3⟩:=Td (H:=[⟨ns .u64 (pL x1 y1 z1 t1),true,true,true,1⟩,⟨Qa 20 (.int .u64 0),true,true,true,1⟩,⟨ns .u64 r1,true,true,true,1⟩,⟨ns .u64 r2,true,true,true,1⟩,⟨ns .u64 [two,z1,z1].flatten,true,true,true,1⟩]) (id:=4) (n:=3) (xs:=[two,z1,z1]) rfl (by decide) (by intro w hw; simp only [W0,Us,or_false] at hw; rcases hw with rfl | rfl | rfl <;> assumption) rfl
 simp only [Zb,Za,Y9,Uo,Up,Hi] at hr3 fr3
 obtain ⟨r4,sr4,hr4,Er4,fr4⟩:=Rb (H:=[⟨ns .u64 (pL x1 y1 z1 t1),true,true,true,1⟩,⟨Qa 20 (.int .u64 0),true,true,true,1⟩,⟨ns .u64 r1,true,true,true,1⟩,⟨ns .u64 r2,true,true,true,1⟩,⟨ns .u64 [two,z1,z1].flatten,true,true,true,1⟩,⟨ns .u64 r3,true,true,true,1⟩,⟨ns .u64 r3,true,true,true,1⟩,⟨ns .u64 two,true,true,true,1⟩,⟨ns .u64 z1,true,true,true,1⟩,⟨ns .u64 z1,true,true,true,1⟩,⟨ns .u64 r3,true,true,true,1⟩,⟨ns .u64 (r1 ++ r2),true,true,true,1⟩]) (id:=11) Er1 Er2 rfl
 simp only [Zb,Za] at hr4
 obtain ⟨r5,sr5,hr5,Er5,fr5⟩:=Rb (H:=[⟨ns .u64 (pL x1 y1 z1 t1),true,true,true,1⟩,⟨Qa 20 (.int .u64 0),true,true,true,1⟩,⟨ns .u64 r1,true,true,true,1⟩,⟨ns .u64 r2,true,true,true,1⟩,⟨ns .u64 [two,z1,z1].flatten,true,true,true,1⟩,⟨ns .u64 r3,true,true,true,1⟩,⟨ns .u64 r3,true,true,true,1⟩,⟨ns .u64 two,true,true,true,1⟩,⟨ns .u64 z1,true,true,true,1⟩,⟨ns .u64 z1,true,true,true,1⟩,⟨ns .u64 r3,true,true,true,1⟩,⟨ns .u64 (r1 ++ r2),true,true,true,1⟩,⟨ns .u64 r4,true,true,true,1⟩,⟨ns .u64 sr4,true,true,true,1⟩,⟨ns .u64 r1,true,true,true,1⟩,⟨ns .u64 r2,true,true,true,1⟩,⟨ns .u64 r4,true,true,true,1⟩,⟨ns .u64 (x1 ++ y1),true,true,true,1⟩]) (id:=17) Ex1 Ey1 rfl
 simp only [Zb,Za] at hr5
 obtain ⟨r6,hr6,Er6,fr6⟩:=Ur Er5 Er5
 obtain ⟨r7,hr7,Er7,fr7⟩:=Qfb Er4 Er6
 obtain ⟨r8,hr8,Er8,fr8⟩:=Qfb Er1 Er2
 obtain ⟨r9,sr9,hr9,Er9,fr9⟩:=Rb (H:=[⟨ns .u64 (pL x1 y1 z1 t1),true,true,true,1⟩,⟨Qa 20 (.int .u64 0),true,true,true,1⟩,⟨ns .u64 r1,true,true,true,1⟩,⟨ns .u64 r2,true,true,true,1⟩,⟨ns .u64 [two,z1,z1].flatten,true,true,true,1⟩,⟨ns .u64 r3,true,true,true,1⟩,⟨ns .u64 r3,true,true,true,1⟩,⟨ns .u64 two,true,true,true,1⟩,⟨ns .u64 z1,true,true,true,1⟩,⟨ns .u64 z1,true,true,true,1⟩,⟨ns .u64 r3,true,true,true,1⟩,⟨ns .u64 (r1 ++ r2),true,true,true,1⟩,⟨ns .u64 r4,true,true,true,1⟩,⟨ns .u64 sr4,true,true,true,1⟩,⟨ns .u64 r1,true,true,true,1⟩,⟨ns .u64 r2,true,true,true,1⟩,⟨ns .u64 r4,true,true,true,1⟩,⟨ns .u64 (x1 ++ y1),true,true,true,1⟩,⟨ns .u64 r5,true,true,true,1⟩,⟨ns .u64 sr5,true,true,true,1⟩,⟨ns .u64 x1,true,true,true,1⟩,⟨ns .u64 y1,true,true,true,1⟩,⟨ns .u64 r5,true,true,true,1⟩,⟨ns .u64 r7,true,true,true,1⟩,⟨ns .u64 r8,true,true,true,1⟩,⟨ns .u64 (r3 ++ r8),true,true,true,1⟩]) (id:=25) Er3 Er8 rfl
 simp only [Zb,Za] at hr9
 obtain ⟨r10,hr10,Er10,fr10⟩:=Ur Er7 Er9
 obtain ⟨r11,hr11,Er11,fr11⟩:=Ur Er8 Er4
 obtain ⟨r12,hr12,Er12,fr12⟩:=Ur Er9 Er8
 obtain ⟨r13,hr13,Er13,fr13⟩:=Ur Er7 Er4
 refine ⟨r10,r11,r12,r13,?_,Er10,Er11,Er12,Er13,fe r1,fe r2,fe r3,fe r4,fe r7,fe r8,fe r9,?_⟩
 ·obtain ⟨q10,q11,q12,q13⟩:=Qpl Ex1 Ey1 Ez1 Et1
  have p1:=Hq Ex1 Ey1 Ez1 Et1
  have p3:=Hq Er10 Er11 Er12 Er13
  have k3:=Qn1 Etwo Ez1 Ez1
  have kp:=Qfl Er10 Er11 Er12 Er13
  have m1:=Qfm Er1 Er2
  have m2:=Qfm Ex1 Ey1
  have m3:=Qfm Er3 Er8
  have Lx1:=Ex1.len
  have Ly1:=Ey1.len
  have Lz1:=Ez1.len
  have Lt1:=Et1.len
  have Ltwo:=Etwo.len
  have Lr1:=Er1.len
  have Lr2:=Er2.len
  have Lr3:=Er3.len
  have Lr4:=Er4.len
  have Lr5:=Er5.len
  have Lr6:=Er6.len
  have Lr7:=Er7.len
  have Lr8:=Er8.len
  have Lr9:=Er9.len
  have Lr10:=Er10.len
  have Lr11:=Er11.len
  have Lr12:=Er12.len
  have Lr13:=Er13.len
  apply Xg
  apply Zt
  rw [Jc (fn:=a53) rfl]
  simp only [a53,Z0,quiet,cF,↓pF,reduceCtorEq,Qb,Qp,Zi,Zf,Zg,Ze,Zc,Qj,Q3,Qi,Q2,Q6,Q5,↓Zo,↓Zn,↓Zw,↓Zz,↓Zx,↓Zy,cL,Qo,Qn,Qx,Qw,Qu,Ql,Qk,Qv,Qd,Qz,Q0,Qq,Qf,Qh,Qg,Qt,Qs,Qr,Qm,Qe,cJ,Zd,Xd,Qm2,Qri,Q3u,Qrj,Q3r,Jy,Xs,Vm,Xt,Vl,J2,q10,q11,q12,q13,p1,p3,k3,kp,m1,m2,m3,vtwo,hr1,hr2,hr3,hr4,hr5,hr6,hr7,hr8,hr9,hr10,hr11,hr12,hr13,Lx1,Ly1,Lz1,Lt1,Ltwo,Lr1,Lr2,Lr3,Lr4,Lr5,Lr6,Lr7,Lr8,Lr9,Lr10,Lr11,Lr12,Lr13]
  rfl
 ·refine ⟨fr1,fr2,by rw [fr3,ftwo],fr4,by rw [fr7,fr6,fr5],fr8,fr9,?_,?_,?_,?_⟩
  ·rw [fr10]
  ·rw [fr11]
  ·rw [fr12]
  ·rw [fr13]
structure Rep (x y z t:List Nat) (p:Go.Cv.Pt Go.Fp.P Go.Fp.d):Prop where
 ex:El x (2 ^ 52)
 ey:El y (2 ^ 52)
 ez:El z (2 ^ 52)
 et:El t (2 ^ 52)
 nz:fe z ≠ 0
 x:fe x = p.x * fe z
 y:fe y = p.y * fe z
 t:fe t = p.x * p.y * fe z
abbrev W3 (p q:Go.Cv.Pt Go.Fp.P Go.Fp.d):Go.Cv.Pt Go.Fp.P Go.Fp.d:=Go.Cv.Pt.add Go.Fp.fld p q
abbrev V9 (k:Nat) (p:Go.Cv.Pt Go.Fp.P Go.Fp.d):Go.Cv.Pt Go.Fp.P Go.Fp.d:=Go.Cv.Pt.mul Go.Fp.fld k p
abbrev U2:Go.Cv.Pt Go.Fp.P Go.Fp.d:=Go.Cv.Pt.zero
theorem Qjx {x1 y1 z1 t1 x2 y2 z2 t2 dd a b c e x y z t px py qx qy rx ry:Go.Fp.Fe} (hx1:x1 = px * z1) (hy1:y1 = py * z1) (ht1:t1 = px * py * z1) (hx2:x2 = qx * z2) (hy2:y2 = qy * z2) (ht2:t2 = qx * qy * z2)
  (ha:a = (y1 - x1) * (y2 - x2)) (hb:b = (y1 + x1) * (y2 + x2)) (hc:c = 1 * 2 * dd * t1 * t2) (he:e = 1 * 2 * z1 * z2) (hx:x = (b - a) * (e - c)) (hy:y = (e + c) * (b + a)) (hz:z = (e - c) * (e + c)) (ht:t = (b - a) * (b + a))
  (hrx:rx * (1 + dd * px * qx * py * qy) = px * qy + qx * py) (hry:ry * (1 - dd * px * qx * py * qy) = py * qy + px * qx) :
  x = rx * z ∧ y = ry * z ∧ t = rx * ry * z ∧ z = (2 * z1 * z2) * (2 * z1 * z2) * ((1 - dd * px * qx * py * qy) * (1 + dd * px * qx * py * qy)):=by
 have e1:b - a = (2 * z1 * z2) * (px * qy + qx * py):=by rw [hb,ha,hx1,hy1,hx2,hy2]; grobner
 have e2:b + a = (2 * z1 * z2) * (py * qy + px * qx):=by rw [hb,ha,hx1,hy1,hx2,hy2]; grobner
 have e3:e - c = (2 * z1 * z2) * (1 - dd * px * qx * py * qy):=by rw [he,hc,ht1,ht2]; grobner
 have e4:e + c = (2 * z1 * z2) * (1 + dd * px * qx * py * qy):=by rw [he,hc,ht1,ht2]; grobner
 rw [e1,← hrx,e3] at hx
 rw [e4,e2,← hry] at hy
 rw [e3,e4] at hz
 rw [e1,e2,← hrx,← hry] at ht
 clear hx1 hy1 ht1 hx2 hy2 ht2 ha hb hc he hrx hry e1 e2 e3 e4
 generalize 1 + dd * px * qx * py * qy = k at *
 generalize 1 - dd * px * qx * py * qy = m at *
 generalize 2 * z1 * z2 = w at *
 subst hx hy hz ht
 refine ⟨?_,?_,?_,?_⟩ <;> grobner
theorem Rep.plus {x1 y1 z1 t1 x2 y2 z2 t2 d:List Nat} {p q:Go.Cv.Pt Go.Fp.P Go.Fp.d} (h1:Rep x1 y1 z1 t1 p) (h2:Rep x2 y2 z2 t2 q) (Ed:El d (2 ^ 52)) (hd:fe d = Go.Fp.d) :
  ∃ x y z t,Vd T 43 [pV x1 y1 z1 t1,pV x2 y2 z2 t2,eV d] = some (pV x y z t) ∧ Rep x y z t (W3 p q):=by
 obtain ⟨x,y,z,t,hv,Ex,Ey,Ez,Et,a,b,c,e,ha,hb,hc,he,hx,hy,hz,ht⟩:=Q5i h1.ex h1.ey h1.ez h1.et h2.ex h2.ey h2.ez h2.et Ed
 rw [hd] at hc
 obtain ⟨g1,g2,g3,g4⟩:=Qjx h1.x h1.y h1.t h2.x h2.y h2.t ha hb hc he hx hy hz ht (Go.Cv.Qbx Go.Fp.fld p q) (Go.Cv.Qbw Go.Fp.fld p q)
 refine ⟨x,y,z,t,hv,Ex,Ey,Ez,Et,?_,g1,g2,g3⟩
 rw [g4]
 have F:=Go.Fp.fld
 have w:=F.mul_ne (F.mul_ne F.two h1.nz) h2.nz
 exact F.mul_ne (F.mul_ne w w) (F.mul_ne (F.denM p.on q.on) (F.denP p.on q.on))
theorem Qo2 {x1 y1 z1 dd a b c h e g f x y z t px py rx ry:Go.Fp.Fe} (hx1:x1 = px * z1) (hy1:y1 = py * z1) (on : -(px * px) + py * py = 1 + dd * (px * px) * (py * py))
  (ha:a = x1 * x1) (hb:b = y1 * y1) (hc:c = 1 * 2 * z1 * z1) (hh:h = a + b) (he:e = h - (x1 + y1) * (x1 + y1)) (hg:g = a - b) (hf:f = c + g) (hx:x = e * f) (hy:y = g * h) (hz:z = f * g) (ht:t = e * h)
  (hrx:rx * (1 + dd * px * px * py * py) = px * py + px * py) (hry:ry * (1 - dd * px * px * py * py) = py * py + px * px) :
  x = rx * z ∧ y = ry * z ∧ t = rx * ry * z ∧ z = -((z1 * z1) * (z1 * z1) * ((1 - dd * px * px * py * py) * (1 + dd * px * px * py * py))):=by
 have e1:e = -((z1 * z1) * (px * py + px * py)):=by rw [he,hh,ha,hb,hx1,hy1]; grobner
 have e2:h = (z1 * z1) * (py * py + px * px):=by rw [hh,ha,hb,hx1,hy1]; grobner
 have e3:g = -((z1 * z1) * (1 + dd * px * px * py * py)):=by
  have:1 + dd * px * px * py * py = py * py - px * px:=by
   clear hx1 hy1 ha hb hc hh he hg hf hx hy hz ht hrx hry e1 e2
   grobner
  rw [this,hg,ha,hb,hx1,hy1]; grobner
 have e4:f = (z1 * z1) * (1 - dd * px * px * py * py):=by
  rw [hf,e3,hc]
  clear hx1 hy1 on ha hb hc hh he hg hf hx hy hz ht hrx hry e1 e2 e3
  grobner
 rw [← hrx] at e1
 rw [← hry] at e2
 clear hx1 hy1 on ha hb hc hh he hg hf hrx hry
 generalize 1 + dd * px * px * py * py = k at *
 generalize 1 - dd * px * px * py * py = m at *
 generalize z1 * z1 = w at *
 subst e1 e2 e3 e4 hx hy hz ht
 refine ⟨?_,?_,?_,?_⟩ <;> grobner
theorem Rep.twice {x1 y1 z1 t1:List Nat} {p:Go.Cv.Pt Go.Fp.P Go.Fp.d} (h1:Rep x1 y1 z1 t1 p):∃ x y z t,Vd T 42 [pV x1 y1 z1 t1] = some (pV x y z t) ∧ Rep x y z t (W3 p p):=by
 obtain ⟨x,y,z,t,hv,Ex,Ey,Ez,Et,a,b,c,h,e,g,f,ha,hb,hc,hh,he,hg,hf,hx,hy,hz,ht⟩:=Qzh h1.ex h1.ey h1.ez h1.et
 obtain ⟨g1,g2,g3,g4⟩:=Qo2 h1.x h1.y p.on ha hb hc hh he hg hf hx hy hz ht (Go.Cv.Qbx Go.Fp.fld p p) (Go.Cv.Qbw Go.Fp.fld p p)
 refine ⟨x,y,z,t,hv,Ex,Ey,Ez,Et,?_,g1,g2,g3⟩
 rw [g4]
 have F:=Go.Fp.fld
 have w:=F.mul_ne h1.nz h1.nz
 have n:=F.mul_ne (F.mul_ne w w) (F.mul_ne (F.denM p.on p.on) (F.denP p.on p.on))
 intro h0
 exact n (by grobner)
def RepL (l:List Nat) (p:Go.Cv.Pt Go.Fp.P Go.Fp.d):Prop:=∃ x y z t,l = pL x y z t ∧ Rep x y z t p
theorem RepL.len {l:List Nat} {p:Go.Cv.Pt Go.Fp.P Go.Fp.d} (h:RepL l p):l.length = 20:=by
 obtain ⟨x,y,z,t,rfl,h⟩:=h
 exact Hq h.ex h.ey h.ez h.et
theorem Q3t {l m d:List Nat} {p q:Go.Cv.Pt Go.Fp.P Go.Fp.d} (h1:RepL l p) (h2:RepL m q) (Ed:El d (2 ^ 52)) (hd:fe d = Go.Fp.d):∃ r,Vd T 43 [eV l,eV m,eV d] = some (eV r) ∧ RepL r (W3 p q):=by
 obtain ⟨x,y,z,t,rfl,h1⟩:=h1
 obtain ⟨x2,y2,z2,t2,rfl,h2⟩:=h2
 obtain ⟨a,b,c,e,h3,h4⟩:=h1.plus h2 Ed hd
 exact ⟨pL a b c e,h3,a,b,c,e,rfl,h4⟩
theorem Qkq {l:List Nat} {p:Go.Cv.Pt Go.Fp.P Go.Fp.d} (h1:RepL l p):∃ r,Vd T 42 [eV l] = some (eV r) ∧ RepL r (W3 p p):=by
 obtain ⟨x,y,z,t,rfl,h1⟩:=h1
 obtain ⟨a,b,c,e,h3,h4⟩:=h1.twice
 exact ⟨pL a b c e,h3,a,b,c,e,rfl,h4⟩
def dK:List Nat:=dig 256 32 Go.Fp.dN
theorem Q6i:num 256 dK = Go.Fp.dN:=by decide +kernel
theorem dK_lt:∀ x ∈ dK,x < 256:=fun _ h => Gs (by decide) h
theorem Qhq:∃ r,Vd T 41 [] = some (eV r) ∧ El r (2 ^ 52) ∧ fe r = Go.Fp.d:=by
 have h:=Qwy (k:=dK) (Kc _ _ _) dK_lt
 refine ⟨dig (2 ^ 51) 5 (num 256 dK % 2 ^ 255),?_,Qng,?_⟩
 rotate_left
 ·unfold fe
  rw [Qg9,Q6i]
  rfl
 ·have hl:(dig (2 ^ 51) 5 (num 256 dK % 2 ^ 255)).length = 5:=Kc _ _ _
  have hf:fillL (Qa 32 (Value.int .u8 0)) [(0,1,.int .u8 163),(1,1,.int .u8 120),(2,1,.int .u8 89),(3,1,.int .u8 19),(4,1,.int .u8 202),(5,1,.int .u8 77),(6,1,.int .u8 235),(7,1,.int .u8 117),(8,1,.int .u8 171),(9,1,.int .u8 216),(10,1,.int .u8 65),(11,1,.int .u8 65),(12,1,.int .u8 77),(13,1,.int .u8 10),(14,1,.int .u8 112),(15,1,.int .u8 0),(16,1,.int .u8 152),(17,1,.int .u8 232),(18,1,.int .u8 121),(19,1,.int .u8 119),(20,1,.int .u8 121),(21,1,.int .u8 64),(22,1,.int .u8 199),(23,1,.int .u8 140),(24,1,.int .u8 115),(25,1,.int .u8 254),(26,1,.int .u8 111),(27,1,.int .u8 43),(28,1,.int .u8 238),(29,1,.int .u8 108),(30,1,.int .u8 3),(31,1,.int .u8 82)] = some (u8s dK):=by
   have:dK = [163,120,89,19,202,77,235,117,171,216,65,65,77,10,112,0,152,232,121,119,121,64,199,140,115,254,111,43,238,108,3,82]:=by decide +kernel
   rw [this]; rfl
  generalize dig (2 ^ 51) 5 (num 256 dK % 2 ^ 255) = D at *
  apply Xg
  apply Zt
  rw [Jc (fn:=a52) rfl]
  simp only [a52,Z0,quiet,cF,↓pF,reduceCtorEq,Qb,Qp,Zi,Zf,Zg,Ze,Zc,Qj,Q3,Qi,Q2,Q6,Q5,↓Zo,↓Zn,↓Zw,↓Zz,↓Zx,↓Zy,cL,Qo,Qn,Qx,Qw,Qu,Ql,Qk,Qv,Qd,Qz,Q0,Qq,Qf,Qh,Qg,Qt,Qs,Qr,Qm,Qe,cJ,hf,h,Zd,Xd,Jy,Xs,Vm,Xt,Vl,J2,hl]
  rfl
theorem Qwm:Vd T 38 [.int .u32 1] = some (eV [1,0,0,0,0]):=Qf1 (n:=1) (by decide)
theorem Qga:El [0,0,0,0,0] (2 ^ 52):=Qct (by decide)
theorem Qq0:fe [0,0,0,0,0] = 0:=by rw [Qcs]; rfl
theorem Qou:∃ r,Vd T 40 [] = some (eV r) ∧ RepL r U2:=by
 refine ⟨pL [0,0,0,0,0] [1,0,0,0,0] [1,0,0,0,0] [0,0,0,0,0],?_,_,_,_,_,rfl,Qga,Qes,Qes,Qga,?_,?_,?_,?_⟩
 ·have hf:fillL (Qa 20 (Value.int .u64 0)) [(5,5,eV [1,0,0,0,0]),(10,5,eV [1,0,0,0,0])] = some (ns .u64 (pL [0,0,0,0,0] [1,0,0,0,0] [1,0,0,0,0] [0,0,0,0,0])):=rfl
  have hl:(pL [0,0,0,0,0] [1,0,0,0,0] [1,0,0,0,0] [0,0,0,0,0]).length = 20:=rfl
  have hv:=Qwm
  generalize pL [0,0,0,0,0] [1,0,0,0,0] [1,0,0,0,0] [0,0,0,0,0] = Z at *
  generalize ([1,0,0,0,0]:List Nat) = O at *
  apply Xg
  apply Zt
  rw [Jc (fn:=a30) rfl]
  simp only [a30,Z0,quiet,cF,↓pF,reduceCtorEq,Qb,Qp,Zi,Zf,Zg,Ze,Zc,Qj,Q3,Qi,Q2,Q6,Q5,↓Zo,↓Zn,↓Zw,↓Zz,↓Zx,↓Zy,cL,Qo,Qn,Qx,Qw,Qu,Ql,Qk,Qv,Qd,Qz,Q0,Qq,Qf,Qh,Qg,Qt,Qs,Qr,Qm,Qe,cJ,hf,hv,Zd,Xd,Jy,Xs,Vm,Xt,Vl,J2,hl]
  rfl
 ·rw [Qer]; exact Go.Fp.Rk
 ·rw [Qq0]; simp only [Go.Cv.Pt.zero]; grobner
 ·rw [Qer]; simp only [Go.Cv.Pt.zero]; grobner
 ·rw [Qq0]; simp only [Go.Cv.Pt.zero]; grobner
theorem Qjv (p:Go.Cv.Pt Go.Fp.P Go.Fp.d) (m b:Nat) (hb:b < 2):V9 (2 * m + b) p = if b = 1 then W3 (W3 (V9 m p) (V9 m p)) p else W3 (V9 m p) (V9 m p):=by
 have h1:V9 (2 * m) p = W3 (V9 m p) (V9 m p):=by rw [show 2 * m = m + m by omega]; exact Go.Cv.mul_add Go.Fp.fld m m p
 by_cases h:b = 1
 ·subst h
  rw [if_pos rfl]
  show W3 (V9 (2 * m) p) p = _
  rw [h1]
 ·have:b = 0:=by omega
  subst this
  rw [if_neg (by decide),Jr,h1]
def muI (l k o d:List Nat) (R:Ob) (i:Int) (ex:Env):St:=⟨[(2,.pointer (some ⟨0,0,none⟩)),(3,.pointer (some ⟨1,0,none⟩)),(4,.pointer (some ⟨2,0,none⟩)),(5,.pointer (some ⟨3,0,none⟩)),(6,.pointer (some ⟨4,0,none⟩)),(7,.int .i64 i)] ++ ex,[⟨ns .u64 l,true,true,true,1⟩,⟨u8s k,true,true,true,1⟩,R,⟨ns .u64 o,true,true,true,1⟩,⟨ns .u64 d,true,true,true,1⟩],[]⟩
theorem Q05 {l k o d:List Nat} {R:Ob} {i:Nat} {p:Go.Cv.Pt Go.Fp.P Go.Fp.d} (hl:RepL l p) (lk:k.length = 32) (xk:∀ x ∈ k,x < 256) (hi:i < 256) (Ed:El d (2 ^ 52)) (hd:fe d = Go.Fp.d) (ho:RepL o (V9 (num 256 k / 2 ^ (i + 1)) p)) :
  ∃ r,Jl T 0 Qe7 (muI l k o d R i []) = some (.normal,muI l k r d R ((i:Int) - 1) []) ∧ RepL r (V9 (num 256 k / 2 ^ i) p):=by
 obtain ⟨b,hb⟩:∃ b,k[i / 8]? = some b:=⟨_,Q1 (by omega)⟩
 have hbv:=Bv (B:=256) (by decide) xk hb
 have hbc:=Wo hb
 have hbit:b / 2 ^ (i % 8) % 2 = num 256 k / 2 ^ i % 2:=by
  rw [← hbv,show (256:Nat) = 2 ^ 8 from rfl,Qkk (Jk _ (by decide)),Vr]
 obtain ⟨r1,m1,g1⟩:=Qkq ho
 obtain ⟨r2,m2,g3⟩:=Q3t g1 hl Ed hd
 have hlt:=Qao (num 256 k) i
 have hnum:num 256 k / 2 ^ i = 2 * (num 256 k / 2 ^ (i + 1)) + num 256 k / 2 ^ i % 2:=by
  rw [Kq,← X9]
  omega
 have hstep:=Qjv p (num 256 k / 2 ^ (i + 1)) (num 256 k / 2 ^ i % 2) hlt
 rw [← hnum] at hstep
 have s1:(2:Int) ^ min (i % 8) IntKind.u8.bits = ((2 ^ (i % 8):Nat):Int):=Te (Wh (Jk _ (by decide)))
 have w2:IntKind.i64.wrap ((i / 8:Nat):Int) = ((i / 8:Nat):Int):=Vn (by omega)
 have w3:IntKind.i64.wrap ((i:Int) - 1) = (i:Int) - 1:=K9 (by omega) (by omega)
 have e1:((0:Int) ≤ (i:Int)) = True:=eq_true (by omega)
 have e3:(((i / 8:Nat):Int) < 32) = True:=eq_true (by omega)
 have e4:(((i % 8:Nat):Int) < 0) = False:=eq_false (by omega)
 have l1:=hl.len
 have l2:=ho.len
 have l3:=g1.len
 have l4:=g3.len
 have l5:=Ed.len
 generalize hB:num 256 k / 2 ^ i % 2 = B at *
 by_cases hB1:B = 1
 ·have hbq:((B:Int) == 1) = true:=by rw [hB1]; rfl
  rw [if_pos hB1] at hstep
  refine ⟨r2,?_,by rw [hstep]; exact g3⟩
  simp only [muI,Qe7,Z0,quiet,cF,↓pF,reduceCtorEq,Qb,Qp,Zi,Zf,Zg,Ze,Zc,Qj,Q3,Qi,Q2,Q6,Q5,↓Zo,↓Zn,↓Zw,↓Zz,↓Zx,↓Zy,cL,Qo,Qn,Qx,Qw,Qu,Ql,Qk,Qv,Qd,Qz,Q0,Qq,Qf,Qh,Qg,Qt,Qs,Qr,Qm,Qe,cJ,cU,hbc,hbit,s1,w2,w3,e1,e3,e4,m1,m2,hbq,Xd,Jy,Xs,Vm,Xt,J2,l1,l2,l3,l4,l5,Vl]
 ·have hbq:((B:Int) == 1) = false:=by
   have:B = 0:=by omega
   rw [this]; rfl
  rw [if_neg hB1] at hstep
  refine ⟨r1,?_,by rw [hstep]; exact g1⟩
  simp only [muI,Qe7,Z0,quiet,cF,↓pF,reduceCtorEq,Qb,Qp,Zi,Zf,Zg,Ze,Zc,Qj,Q3,Qi,Q2,Q6,Q5,↓Zo,↓Zn,↓Zw,↓Zz,↓Zx,↓Zy,cL,Qo,Qn,Qx,Qw,Qu,Ql,Qk,Qv,Qd,Qz,Q0,Qq,Qf,Qh,Qg,Qt,Qs,Qr,Qm,Qe,cJ,cU,hbc,hbit,s1,w2,w3,e1,e3,e4,m1,m2,hbq,Xd,Jy,Xs,Vm,Xt,J2,l1,l2,l3,l4,l5,Vl]
theorem Mk {l k:List Nat} {p:Go.Cv.Pt Go.Fp.P Go.Fp.d} (hl:RepL l p) (lk:k.length = 32) (xk:∀ x ∈ k,x < 256):∃ r,Vd T 15 [eV l,.agg (u8s k).toArray] = some (eV r) ∧ RepL r (V9 (num 256 k) p):=by
 have hK:=num_lt xk
 rw [lk,show (256:Nat) ^ 32 = 2 ^ 256 from by rw [show (256:Nat) = 2 ^ 8 from rfl,← Yp]] at hK
 obtain ⟨z,hz,hz2⟩:=Qou
 obtain ⟨d,hd1,Ed,hd⟩:=Qhq
 obtain ⟨st,hb,r,rfl,hr1⟩:=Vi (T:=T) (base:=0) (id:=0) (body:=Qe7)
  (fun j st => ∃ r:List Nat,st = muI l k r d ⟨Qa 20 (.int .u64 0),true,true,true,1⟩ ((255:Int) - j) [] ∧ RepL r (V9 (num 256 k / 2 ^ (256 - j)) p))
  (Q:=fun st => ∃ r:List Nat,st = muI l k r d ⟨Qa 20 (.int .u64 0),true,true,true,1⟩ (-1) [(11,.bool false)] ∧ RepL r (V9 (num 256 k) p))
  256 (s:=muI l k z d ⟨Qa 20 (.int .u64 0),true,true,true,1⟩ 255 []) ⟨_,rfl,by rw [Xw,Wz hK]; exact hz2⟩
  (fun j st hj hs => by
   obtain ⟨r,rfl,h2⟩:=hs
   obtain ⟨i,hi⟩:∃ i,256 - j = i + 1:=⟨255 - j,by omega⟩
   rw [hi] at h2
   obtain ⟨r',g1,g3⟩:=Q05 (R:=⟨Qa 20 (.int .u64 0),true,true,true,1⟩) hl lk xk (i:=i) (by omega) Ed hd h2
   rw [show (255:Int) - j = (i:Int) by omega]
   refine ⟨_,g1,r',?_,?_⟩
   ·rw [show (255:Int) - ((j + 1:Nat):Int) = (i:Int) - 1 by omega]
   ·rw [show 256 - (j + 1) = i by omega]; exact g3)
  (fun st hs => by
   obtain ⟨r,rfl,h2⟩:=hs
   rw [Kv,Ya,Wi] at h2
   have e:((0:Int) ≤ -1) = False:=by decide
   refine ⟨_,?_,r,rfl,h2⟩
   rw [show (255:Int) - ((256:Nat):Int) = -1 by omega]
   simp only [muI,Qe7,Z0,quiet,cF,↓pF,reduceCtorEq,Qb,Qp,Zi,Zf,Zg,Ze,Zc,Qj,Q3,Qi,Q2,Q6,Q5,↓Zo,↓Zn,↓Zw,↓Zz,↓Zx,↓Zy,cL,Qo,Qn,Qx,Qw,Qu,Ql,Qk,Qv,Qd,Qz,Q0,Qq,Qf,Qh,Qg,Qt,Qs,Qr,Qm,Qe,e])
 refine ⟨r,?_,hr1⟩
 have l1:=hl.len
 have l2:=hz2.len
 have l3:=hr1.len
 have l4:=Ed.len
 simp only [muI,Zb,Za] at hb
 apply Xg
 apply Zt
 rw [Jc (fn:=a26) rfl]
 simp only [a26,Z0,quiet,cF,↓pF,reduceCtorEq,Qb,Qp,Zi,Zf,Zg,Ze,Zc,Qj,Q3,Qi,Q2,Q6,Q5,↓Zo,↓Zn,↓Zw,↓Zz,↓Zx,↓Zy,cL,Qo,Qn,Qx,Qw,Qu,Ql,Qk,Qv,Qd,Qz,Q0,Qq,Qf,Qh,Qg,Qt,Qs,Qr,Qm,Qe,cJ,hz,hd1,hb,muI,Zd,Xd,Jy,Xs,Vm,Xt,J2,l1,l2,l3,l4,Vl]
 rfl
theorem Q5v {l:List Nat} {p:Go.Cv.Pt Go.Fp.P Go.Fp.d} (hl:RepL l p):∃ r,Vd T 30 [eV l] = some (eV r) ∧ RepL r p.neg:=by
 obtain ⟨x,y,z,t,rfl,h⟩:=hl
 obtain ⟨a,ha,Ea,fa⟩:=Qj5 h.ex
 obtain ⟨b,hb,Eb,fb⟩:=Qj5 h.et
 obtain ⟨q0,q1,q2,q3⟩:=Qpl h.ex h.ey h.ez h.et
 have hf:=Qfl Ea h.ey h.ez Eb
 have p1:=Hq h.ex h.ey h.ez h.et
 have p2:=Hq Ea h.ey h.ez Eb
 refine ⟨pL a y z b,?_,a,y,z,b,rfl,Ea,h.ey,h.ez,Eb,h.nz,?_,?_,?_⟩
 ·generalize pL x y z t = L at *
  generalize pL a y z b = M at *
  apply Xg
  apply Zt
  rw [Jc (fn:=a34) rfl]
  simp only [a34,Z0,quiet,cF,↓pF,reduceCtorEq,Qb,Qp,Zi,Zf,Zg,Ze,Zc,Qj,Q3,Qi,Q2,Q6,Q5,↓Zo,↓Zn,↓Zw,↓Zz,↓Zx,↓Zy,cL,Qo,Qn,Qx,Qw,Qu,Ql,Qk,Qv,Qd,Qz,Q0,Qq,Qf,Qh,Qg,Qt,Qs,Qr,Qm,Qe,cJ,q0,q1,q2,q3,ha,hb,hf,Zd,Xd,Jy,Xs,Vm,Xt,J2,p1,p2,Vl]
  rfl
 ·rw [fa,h.x]; simp only [Go.Cv.Pt.neg]; grobner
 ·rw [h.y]; rfl
 ·rw [fb,h.t]; simp only [Go.Cv.Pt.neg]; grobner
instance decPt (p q:Go.Cv.Pt Go.Fp.P Go.Fp.d):Decidable (p = q):=if h:p.x = q.x ∧ p.y = q.y then isTrue (Go.Cv.Pt.ext h.1 h.2) else isFalse (fun e => h (by rw [e]; exact ⟨rfl,rfl⟩))
theorem Qvj {a b z w:Go.Fp.Fe} (hz:z ≠ 0) (hw:w ≠ 0):(a * z * w = b * w * z) = (a = b):=by
 apply propext
 constructor
 ·intro h
  have F:=Go.Fp.fld
  refine F.cancel (F.mul_ne hz hw) ?_
  grobner
 ·intro h; subst h; grobner
theorem Q1x {l m:List Nat} {p q:Go.Cv.Pt Go.Fp.P Go.Fp.d} (h1:RepL l p) (h2:RepL m q):Vd T 67 [eV l,eV m] = some (.bool (decide (p = q))):=by
 obtain ⟨x1,y1,z1,t1,rfl,h1⟩:=h1
 obtain ⟨x2,y2,z2,t2,rfl,h2⟩:=h2
 obtain ⟨a,ha,Ea,fa⟩:=Ur h1.ex h2.ez
 obtain ⟨b,hb,Eb,fb⟩:=Ur h2.ex h1.ez
 obtain ⟨c,hc,Ec,fc⟩:=Ur h1.ey h2.ez
 obtain ⟨e,he,Ee,fe_⟩:=Ur h2.ey h1.ez
 have q1:=Q1y Ea Eb
 have q2:=Q1y Ec Ee
 rw [fa,fb,h1.x,h2.x] at q1
 rw [fc,fe_,h1.y,h2.y] at q2
 simp only [Qvj h1.nz h2.nz] at q1 q2
 obtain ⟨u0,u1,u2,u3⟩:=Qpl h1.ex h1.ey h1.ez h1.et
 obtain ⟨v0,v1,v2,v3⟩:=Qpl h2.ex h2.ey h2.ez h2.et
 have p1:=Hq h1.ex h1.ey h1.ez h1.et
 have p2:=Hq h2.ex h2.ey h2.ez h2.et
 generalize pL x1 y1 z1 t1 = L at *
 generalize pL x2 y2 z2 t2 = M at *
 by_cases hx:p.x = q.x
 ·rw [decide_eq_true hx] at q1
  have hd:decide (p = q) = decide (p.y = q.y):=by
   by_cases hy:p.y = q.y
   ·rw [decide_eq_true hy,decide_eq_true (Go.Cv.Pt.ext hx hy)]
   ·rw [decide_eq_false hy,decide_eq_false (fun h => hy (by rw [h]))]
  rw [hd]
  apply Xg
  apply Zt
  rw [Jc (fn:=a28) rfl]
  simp only [a28,Z0,quiet,cF,↓pF,reduceCtorEq,Qb,Qp,Zi,Zf,Zg,Ze,Zc,Qj,Q3,Qi,Q2,Q6,Q5,↓Zo,↓Zn,↓Zw,↓Zz,↓Zx,↓Zy,cL,Qo,Qn,Qx,Qw,Qu,Ql,Qk,Qv,Qd,Qz,Q0,Qq,Qf,Qh,Qg,Qt,Qs,Qr,Qm,Qe,cJ,u0,u1,u2,v0,v1,v2,ha,hb,hc,he,q1,q2,Zd,Xd,Jy,Xs,Vm,Xt,J2,p1,p2,Vl]
  rfl
 ·rw [decide_eq_false hx] at q1
  rw [decide_eq_false (fun h => hx (by rw [h]))]
  apply Xg
  apply Zt
  rw [Jc (fn:=a28) rfl]
  simp only [a28,Z0,quiet,cF,↓pF,reduceCtorEq,Qb,Qp,Zi,Zf,Zg,Ze,Zc,Qj,Q3,Qi,Q2,Q6,Q5,↓Zo,↓Zn,↓Zw,↓Zz,↓Zx,↓Zy,cL,Qo,Qn,Qx,Qw,Qu,Ql,Qk,Qv,Qd,Qz,Q0,Qq,Qf,Qh,Qg,Qt,Qs,Qr,Qm,Qe,cJ,u0,u1,u2,v0,v1,v2,ha,hb,hc,he,q1,q2,Zd,Xd,Jy,Xs,Vm,Xt,J2,p1,p2,Vl]
  rfl
theorem Qyh (p:Go.Cv.Pt Go.Fp.P Go.Fp.d):W3 (W3 (W3 p p) (W3 p p)) (W3 (W3 p p) (W3 p p)) = V9 8 p:=by
 have h2:V9 2 p = W3 p p:=Go.Cv.mul_two Go.Fp.fld p
 have h4:V9 4 p = W3 (V9 2 p) (V9 2 p):=Go.Cv.mul_add Go.Fp.fld 2 2 p
 have h8:V9 8 p = W3 (V9 4 p) (V9 4 p):=Go.Cv.mul_add Go.Fp.fld 4 4 p
 rw [h8,h4,h2]
theorem Q4e {l:List Nat} {p:Go.Cv.Pt Go.Fp.P Go.Fp.d} (h:RepL l p):Vd T 27 [eV l] = some (.bool (decide (V9 8 p = U2))):=by
 obtain ⟨a,ha,ra⟩:=Qkq h
 obtain ⟨b,hb,rb⟩:=Qkq ra
 obtain ⟨c,hc,rc⟩:=Qkq rb
 obtain ⟨z,hz,rz⟩:=Qou
 have he:=Q1x rc rz
 rw [Qyh] at he
 have p1:=h.len
 apply Xg
 apply Zt
 rw [Jc (fn:=a39) rfl]
 simp only [a39,Z0,quiet,cF,↓pF,reduceCtorEq,Qb,Qp,Zi,Zf,Zg,Ze,Zc,Qj,Q3,Qi,Q2,Q6,Q5,↓Zo,↓Zn,↓Zw,↓Zz,↓Zx,↓Zy,cL,Qo,Qn,Qx,Qw,Qu,Ql,Qk,Qv,Qd,Qz,Q0,Qq,Qf,Qh,Qg,Qt,Qs,Qr,Qm,Qe,cJ,ha,hb,hc,hz,he,Xd,Jy,Xs,Vm,Xt,J2,p1,Vl]
 rfl
def Qcd (p:Go.Cv.Pt Go.Fp.P Go.Fp.d):Nat:=p.y.val + (p.x.val % 2) * 2 ^ 255
def enc (p:Go.Cv.Pt Go.Fp.P Go.Fp.d):List Nat:=dig 256 32 (Qcd p)
theorem Dh (p:Go.Cv.Pt Go.Fp.P Go.Fp.d):(enc p).length = 32:=Kc _ _ _
theorem Qqj (p:Go.Cv.Pt Go.Fp.P Go.Fp.d):∀ x ∈ enc p,x < 256:=Qah
theorem Qec (a:Go.Fp.Fe):a.val < 2 ^ 255:=Uc a.isLt (by rw [Go.Fp.Qar]; decide)
theorem Qlp (p:Go.Cv.Pt Go.Fp.P Go.Fp.d):Qcd p < 256 ^ 32:=by
 have h1:=Qec p.y
 have h2:=Jk p.x.val (by decide:0 < 2)
 unfold Qcd
 have:p.x.val % 2 * 2 ^ 255 ≤ 1 * 2 ^ 255:=Vt _ (by omega)
 have e:(256:Nat) ^ 32 = 2 ^ 255 + 2 ^ 255:=by decide
 omega
theorem Qdc {l:List Nat} {p:Go.Cv.Pt Go.Fp.P Go.Fp.d} (h:RepL l p):Vd T 16 [eV l] = some (.agg (u8s (enc p)).toArray):=by
 obtain ⟨x,y,z,t,rfl,h⟩:=h
 obtain ⟨i,hi,Ei,fi⟩:=Qxh h.ez
 obtain ⟨a,ha,Ea,fa⟩:=Ur h.ey Ei
 obtain ⟨b,hb,Eb,fb⟩:=Ur h.ex Ei
 have hinv:=Go.Fp.Qaf h.nz
 have fa':fe a = p.y:=by rw [fa,fi,h.y]; grobner
 have fb':fe b = p.x:=by rw [fb,fi,h.x]; grobner
 have k1:=Qbb Ea
 have k2:=Qwz Eb
 rw [fa'] at k1
 rw [fb'] at k2
 obtain ⟨u0,u1,u2,u3⟩:=Qpl h.ex h.ey h.ez h.et
 have p1:=Hq h.ex h.ey h.ez h.et
 have L1:=Ei.len
 have lk:(dig 256 32 p.y.val).length = 32:=Kc _ _ _
 have l0:(dig 256 32 0).length = 32:=rfl
 have hz32:Qa 32 (Value.int .u8 0) = u8s (dig 256 32 0):=rfl
 generalize pL x y z t = L at *
 by_cases ho:p.x.val % 2 = 1
 ·rw [decide_eq_true ho] at k2
  have hv:=Qec p.y
  obtain ⟨w,hw⟩:∃ w,(dig 256 32 p.y.val)[31]? = some w:=⟨_,Q1 (by rw [Kc]; decide)⟩
  have hwc:=Wo hw
  have hw':w < 256:=Gs (by decide) (Zk hw)
  have hput:=Qf6 (w:=8) (m:=32) (q:=31) (s:=7) (y:=1) (M:=p.y.val) (by decide) (by decide) hv (by decide)
  have hgd:(dig (2 ^ 8) 32 p.y.val).getD 31 0 = w:=by rw [Xh]; rw [show (2:Nat) ^ 8 = 256 from rfl,hw]; rfl
  rw [hgd] at hput
  have hset:=U3 (dig 256 32 p.y.val) 31 (w ||| 128)
  rw [show (dig 256 32 p.y.val).set 31 (w ||| 128) = enc p from by rw [enc,Qcd,ho]; exact hput] at hset
  have o1:Vz .or .u8 (w:Int) 128 = ((w ||| 128:Nat):Int):=Gk (k := .u8) (a:=w) (b:=128) rfl hw' (by decide)
  have le:=Dh p
  generalize enc p = E at *
  apply Xg
  apply Zt
  rw [Jc (fn:=a29) rfl]
  simp only [a29,Z0,quiet,cF,↓pF,reduceCtorEq,Qb,Qp,Zi,Zf,Zg,Ze,Zc,Qj,Q3,Qi,Q2,Q6,Q5,↓Zo,↓Zn,↓Zw,↓Zz,↓Zx,↓Zy,cL,Qo,Qn,Qx,Qw,Qu,Ql,Qk,Qv,Qd,Qz,Q0,Qq,Qf,Qh,Qg,Qt,Qs,Qr,Qm,Qe,cJ,hz32,u0,u1,u2,hi,ha,hb,k1,k2,hwc,o1,hset,Zd,Xd,Jy,Xs,Vm,Xt,J2,X2,lk,l0,le,p1,L1,Vl]
  rfl
 ·rw [decide_eq_false ho] at k2
  have he:enc p = dig 256 32 p.y.val:=by rw [enc,Qcd,show p.x.val % 2 = 0 by omega,Xi,Jr]
  rw [he]
  generalize dig 256 32 p.y.val = E at *
  apply Xg
  apply Zt
  rw [Jc (fn:=a29) rfl]
  simp only [a29,Z0,quiet,cF,↓pF,reduceCtorEq,Qb,Qp,Zi,Zf,Zg,Ze,Zc,Qj,Q3,Qi,Q2,Q6,Q5,↓Zo,↓Zn,↓Zw,↓Zz,↓Zx,↓Zy,cL,Qo,Qn,Qx,Qw,Qu,Ql,Qk,Qv,Qd,Qz,Q0,Qq,Qf,Qh,Qg,Qt,Qs,Qr,Qm,Qe,cJ,hz32,u0,u1,u2,hi,ha,hb,k1,k2,Zd,Xd,Jy,Xs,Vm,Xt,J2,X2,lk,l0,p1,L1,Vl]
  rfl
def bxN:Nat:=15112221349535400772501151409588531511454012693041857206046113283949847762202
def byN:Nat:=46316835694926478169428394003475163141307993866256225615783033603165251855960
def Wd:Go.Cv.Pt Go.Fp.P Go.Fp.d:=⟨Go.Fp.fp bxN,Go.Fp.fp byN,by
 unfold Go.Cv.On Go.Fp.d
 have h:(Go.Fp.fp byN * Go.Fp.fp byN:Go.Fp.Fe) = Go.Fp.fp bxN * Go.Fp.fp bxN + (1 + Go.Fp.fp Go.Fp.dN * (Go.Fp.fp bxN * Go.Fp.fp bxN) * (Go.Fp.fp byN * Go.Fp.fp byN)):=by
  rw [← Go.Fp.Qln,← Go.Fp.U1,← Go.Fp.U1,← Go.Fp.U1,← Go.Fp.U1,← Go.Fp.Gg,← Go.Fp.Gg]
  exact Go.Fp.Qbt.2 (by decide +kernel)
 grobner⟩
def bxK:List Nat:=dig 256 32 bxN
def byK:List Nat:=dig 256 32 byN
theorem Q16:num 256 bxK = bxN:=by decide +kernel
theorem Q15:num 256 byK = byN:=by decide +kernel
theorem Qqs:∃ r,Vd T 14 [] = some (eV r) ∧ RepL r Wd:=by
 have h1:=Qwy (k:=bxK) (Kc _ _ _) Qah
 have h2:=Qwy (k:=byK) (Kc _ _ _) Qah
 have E1:=Qng (V:=num 256 bxK % 2 ^ 255)
 have E2:=Qng (V:=num 256 byK % 2 ^ 255)
 have f1:fe (dig (2 ^ 51) 5 (num 256 bxK % 2 ^ 255)) = Go.Fp.fp bxN:=by unfold fe; rw [Qg9,Q16]; rfl
 have f2:fe (dig (2 ^ 51) 5 (num 256 byK % 2 ^ 255)) = Go.Fp.fp byN:=by unfold fe; rw [Qg9,Q15]; rfl
 generalize dig (2 ^ 51) 5 (num 256 bxK % 2 ^ 255) = X at *
 generalize dig (2 ^ 51) 5 (num 256 byK % 2 ^ 255) = Y at *
 obtain ⟨t,ht,Et,ft⟩:=Ur E1 E2
 have E3:∃ O:List Nat,O = [1,0,0,0,0]:=⟨_,rfl⟩
 obtain ⟨O,hO⟩:=E3
 have E3:El O (2 ^ 52):=by rw [hO]; exact Qes
 have v1:Vd T 38 [.int .u32 1] = some (eV O):=by rw [hO]; exact Qwm
 have f3:fe O = 1:=by rw [hO]; exact Qer
 clear hO
 have hf:=Qfl E1 E2 E3 Et
 have p1:=Hq E1 E2 E3 Et
 refine ⟨pL X Y O t,?_,X,Y,O,t,rfl,E1,E2,E3,Et,by rw [f3]; exact Go.Fp.Rk,by rw [f1,f3]; simp only [Wd]; grobner,by rw [f2,f3]; simp only [Wd]; grobner,by rw [ft,f1,f2,f3]; simp only [Wd]; grobner⟩
 have L1:=E1.len
 have L2:=E2.len
 have g1:fillL (Qa 32 (Value.int .u8 0)) [(0,1,.int .u8 26),(1,1,.int .u8 213),(2,1,.int .u8 37),(3,1,.int .u8 143),(4,1,.int .u8 96),(5,1,.int .u8 45),(6,1,.int .u8 86),(7,1,.int .u8 201),(8,1,.int .u8 178),(9,1,.int .u8 167),(10,1,.int .u8 37),(11,1,.int .u8 149),(12,1,.int .u8 96),(13,1,.int .u8 199),(14,1,.int .u8 44),(15,1,.int .u8 105),(16,1,.int .u8 92),(17,1,.int .u8 220),(18,1,.int .u8 214),(19,1,.int .u8 253),(20,1,.int .u8 49),(21,1,.int .u8 226),(22,1,.int .u8 164),(23,1,.int .u8 192),(24,1,.int .u8 254),(25,1,.int .u8 83),(26,1,.int .u8 110),(27,1,.int .u8 205),(28,1,.int .u8 211),(29,1,.int .u8 54),(30,1,.int .u8 105),(31,1,.int .u8 33)] = some (u8s bxK):=by
  have:bxK = [26,213,37,143,96,45,86,201,178,167,37,149,96,199,44,105,92,220,214,253,49,226,164,192,254,83,110,205,211,54,105,33]:=by decide +kernel
  rw [this]; rfl
 have g2:fillL (Qa 32 (Value.int .u8 0)) [(0,1,.int .u8 88),(1,1,.int .u8 102),(2,1,.int .u8 102),(3,1,.int .u8 102),(4,1,.int .u8 102),(5,1,.int .u8 102),(6,1,.int .u8 102),(7,1,.int .u8 102),(8,1,.int .u8 102),(9,1,.int .u8 102),(10,1,.int .u8 102),(11,1,.int .u8 102),(12,1,.int .u8 102),(13,1,.int .u8 102),(14,1,.int .u8 102),(15,1,.int .u8 102),(16,1,.int .u8 102),(17,1,.int .u8 102),(18,1,.int .u8 102),(19,1,.int .u8 102),(20,1,.int .u8 102),(21,1,.int .u8 102),(22,1,.int .u8 102),(23,1,.int .u8 102),(24,1,.int .u8 102),(25,1,.int .u8 102),(26,1,.int .u8 102),(27,1,.int .u8 102),(28,1,.int .u8 102),(29,1,.int .u8 102),(30,1,.int .u8 102),(31,1,.int .u8 102)] = some (u8s byK):=by
  have:byK = [88,102,102,102,102,102,102,102,102,102,102,102,102,102,102,102,102,102,102,102,102,102,102,102,102,102,102,102,102,102,102,102]:=by decide +kernel
  rw [this]; rfl
 generalize pL X Y O t = Q at *
 apply Xg
 apply Zt
 rw [Jc (fn:=a25) rfl]
 simp only [a25,Z0,quiet,cF,↓pF,reduceCtorEq,Qb,Qp,Zi,Zf,Zg,Ze,Zc,Qj,Q3,Qi,Q2,Q6,Q5,↓Zo,↓Zn,↓Zw,↓Zz,↓Zx,↓Zy,cL,Qo,Qn,Qx,Qw,Qu,Ql,Qk,Qv,Qd,Qz,Q0,Qq,Qf,Qh,Qg,Qt,Qs,Qr,Qm,Qe,cJ,g1,g2,h1,h2,v1,ht,hf,Zd,Xd,Jy,Xs,Vm,Xt,J2,p1,L1,L2,Vl]
 rfl
theorem Q5k {a b c:List Nat} {n:Nat} (hb:b.length = 20) (ha:a.length = n):We 20 (Bs n (ns .u64 (a ++ (b ++ c)))) = ns .u64 b:=by
 simp only [Qa4]
 rw [Uj (by rw [J2]; omega),Yb (by rw [J2]; omega),Za,Wt (by rw [J2]; omega),Zl (by rw [J2]; omega)]
theorem Quf {H:List Ob} {l:List Ob} {id n i:Nat} {o x r d:List Nat} {R:Ob} {cs:List Value} {g:List Ob} (hi:i < n) (hn:n < 100) (l1:x.length = 20) (l2:o.length = 20) (l4:d.length = 5) (hm:Vd T 43 [eV o,eV x,eV d] = some (eV r)) (l3:r.length = 20)
  (hA:∀ l,(H ++ l)[id]? = some ⟨cs,true,true,true,1⟩) (hcs:(cs.drop (i * 20)).take 20 = ns .u64 x) (hlen:i * 20 + 20 ≤ cs.length) :
  Jl T H.length Qiu ⟨[(2,.pointer (some ⟨H.length,0,none⟩)),(3,.pointer (some ⟨H.length + 1,0,none⟩)),(4,.pointer (some ⟨H.length + 2,0,none⟩)),(9,.slice (some ⟨id,0,none⟩) n n),(10,.int .i64 n),(11,.int .i64 i)],H ++ (R :: ⟨ns .u64 o,true,true,true,1⟩ :: ⟨ns .u64 d,true,true,true,1⟩ :: g),[]⟩ =
   some (.normal,⟨[(2,.pointer (some ⟨H.length,0,none⟩)),(3,.pointer (some ⟨H.length + 1,0,none⟩)),(4,.pointer (some ⟨H.length + 2,0,none⟩)),(9,.slice (some ⟨id,0,none⟩) n n),(10,.int .i64 n),(11,.int .i64 ((i + 1:Nat):Int))],H ++ (R :: ⟨ns .u64 r,true,true,true,1⟩ :: ⟨ns .u64 d,true,true,true,1⟩ :: (g ++ [⟨ns .u64 x,true,true,true,1⟩])),[]⟩):=by
 have hz:∃ Z,Qa 20 (Value.int .u64 0) = ns .u64 Z ∧ Z.length = 20:=⟨Qa 20 0,rfl,rfl⟩
 obtain ⟨Z,hz,l0⟩:=hz
 have e1:((i:Int) < (n:Int)) = True:=eq_true (by omega)
 have w3:IntKind.i64.wrap ((i:Int) + 1) = ((i + 1:Nat):Int):=Vn (n:=i + 1) (by omega)
 simp only [Qiu,Z0,quiet,cF,↓pF,reduceCtorEq,Qb,Qp,Zi,Xv,↓Zo,↓Zn,↓Zw,↓Zz,↓Zx,↓Zy,cL,Qo,Qn,Qx,Qw,Qu,Ql,Qk,Qv,Qd,Qz,Q0,Qq,Qf,Qh,Qg,Qt,Qs,Qr,Qm,Qe,cJ,Ka,hz,hA,hcs,hlen,hm,Jy,Xs,Vm,Xt,J2,l0,l1,l2,l3,l4,Vl,e1,w3]
inductive Reps:List (List Nat) → List (Go.Cv.Pt Go.Fp.P Go.Fp.d) → Prop
 | nil:Reps [] []
 | cons {x xs p ps}:RepL x p → Reps xs ps → Reps (x :: xs) (p :: ps)
theorem Reps.len {xs:List (List Nat)} {ps:List (Go.Cv.Pt Go.Fp.P Go.Fp.d)} (h:Reps xs ps):xs.length = ps.length:=by
 induction h with
 | nil => rfl
 | cons _ _ ih => simp [ih]
theorem Reps.all {xs:List (List Nat)} {ps:List (Go.Cv.Pt Go.Fp.P Go.Fp.d)} (h:Reps xs ps):∀ x ∈ xs,x.length = 20:=by
 induction h with
 | nil => simp
 | cons h _ ih => intro y hy; rcases W0.1 hy with rfl | hy; exact h.len; exact ih y hy
theorem Reps.get {xs:List (List Nat)} {ps:List (Go.Cv.Pt Go.Fp.P Go.Fp.d)} (h:Reps xs ps):∀ {i:Nat} {x:List Nat},xs[i]? = some x → ∃ p,ps[i]? = some p ∧ RepL x p:=by
 induction h with
 | nil => intro i x h; simp at h
 | cons h _ ih =>
  intro i x hx
  cases i with
  | zero => simp at hx; subst hx; exact ⟨_,rfl,h⟩
  | succ i => simp at hx; simpa using ih hx
theorem Qx6:∀ (ys:List (List Nat)),(∀ x ∈ ys,x.length = 20) → ys.flatten.length = ys.length * 20:=by
 intro ys hy
 induction ys with
 | nil => rfl
 | cons y ys ih =>
  rw [Vj,Z4,ih (fun x hx => hy x (by simp [hx])),(hy y (by simp)),Ja]; omega
theorem Q2u {H:List Ob} {id n:Nat} {xs:List (List Nat)} {ps:List (Go.Cv.Pt Go.Fp.P Go.Fp.d)} (hn:xs.length = n) (hN:n < 100) (hx:Reps xs ps) (h:H[id]? = some ⟨ns .u64 xs.flatten,true,true,true,1⟩) :
  ∃ r d,V6 T 29 [.slice (some ⟨id,0,none⟩) n n] H = some (eV r,H ++ (⟨ns .u64 r,true,true,true,1⟩ :: ⟨ns .u64 r,true,true,true,1⟩ :: ⟨ns .u64 d,true,true,true,1⟩ :: xs.map fun x => (⟨ns .u64 x,true,true,true,1⟩:Ob)),[]) ∧ RepL r (ps.foldl W3 U2):=by
 have hid:id < H.length:=(Q8.1 h).1
 have hA:∀ l,(H ++ l)[id]? = some ⟨ns .u64 xs.flatten,true,true,true,1⟩:=fun l => by rw [Qy hid]; exact h
 obtain ⟨d,hd,Ed,fd⟩:=Qhq
 obtain ⟨z,hz,Ez⟩:=Qou
 have hZ:∃ Z,Qa 20 (Value.int .u64 0) = ns .u64 Z ∧ Z.length = 20:=⟨Qa 20 0,rfl,rfl⟩
 obtain ⟨Z,hZ,l0⟩:=hZ
 obtain ⟨st,hb,r,rfl,hr1⟩:=Vi (T:=T) (base:=H.length) (id:=0) (body:=Qiu)
  (fun i st => ∃ r:List Nat,st = ⟨[(2,.pointer (some ⟨H.length,0,none⟩)),(3,.pointer (some ⟨H.length + 1,0,none⟩)),(4,.pointer (some ⟨H.length + 2,0,none⟩)),(9,.slice (some ⟨id,0,none⟩) n n),(10,.int .i64 n),(11,.int .i64 (i:Nat))],H ++ (⟨ns .u64 Z,true,true,true,1⟩ :: ⟨ns .u64 r,true,true,true,1⟩ :: ⟨ns .u64 d,true,true,true,1⟩ :: ((xs.take i).map fun x => (⟨ns .u64 x,true,true,true,1⟩:Ob))),[]⟩ ∧ RepL r ((ps.take i).foldl W3 U2))
  (Q:=fun st => ∃ r:List Nat,st = ⟨[(2,.pointer (some ⟨H.length,0,none⟩)),(3,.pointer (some ⟨H.length + 1,0,none⟩)),(4,.pointer (some ⟨H.length + 2,0,none⟩)),(9,.slice (some ⟨id,0,none⟩) n n),(10,.int .i64 n),(11,.int .i64 n),(12,.bool false)],H ++ (⟨ns .u64 Z,true,true,true,1⟩ :: ⟨ns .u64 r,true,true,true,1⟩ :: ⟨ns .u64 d,true,true,true,1⟩ :: (xs.map fun x => (⟨ns .u64 x,true,true,true,1⟩:Ob))),[]⟩ ∧ RepL r (ps.foldl W3 U2))
  n (s:=⟨[(2,.pointer (some ⟨H.length,0,none⟩)),(3,.pointer (some ⟨H.length + 1,0,none⟩)),(4,.pointer (some ⟨H.length + 2,0,none⟩)),(9,.slice (some ⟨id,0,none⟩) n n),(10,.int .i64 n),(11,.int .i64 0)],H ++ [⟨ns .u64 Z,true,true,true,1⟩,⟨ns .u64 z,true,true,true,1⟩,⟨ns .u64 d,true,true,true,1⟩],[]⟩) ⟨z,rfl,Ez⟩
  (fun i st hi hs => by
   obtain ⟨r,rfl,hr1⟩:=hs
   obtain ⟨x,hxi⟩:∃ y,xs[i]? = some y:=⟨_,Q1 (by omega)⟩
   obtain ⟨p,hpi,hxe⟩:=hx.get hxi
   obtain ⟨r',hm,g1⟩:=Q3t hr1 hxe Ed fd
   have hsplit:xs = xs.take i ++ x :: xs.drop (i + 1):=by
    have h1:=Q8.1 hxi
    conv => lhs; rw [← W1 i xs,U0 h1.1,h1.2]
   have htl:(xs.take i).flatten.length = i * 20:=by
    rw [Qx6 _ (fun y hy => hx.all y (Kp hy)),Js,V8 (by omega)]
   have hcs:((ns .u64 xs.flatten).drop (i * 20)).take 20 = ns .u64 x:=by
    conv => lhs; rw [hsplit,Wa,Vj]
    exact Q5k hxe.len htl
   have hb:=Quf (R:=⟨ns .u64 Z,true,true,true,1⟩) (g:=(xs.take i).map fun x => (⟨ns .u64 x,true,true,true,1⟩:Ob)) (l:=[]) hi hN hxe.len hr1.len Ed.len hm g1.len hA hcs (by rw [J2,Qx6 xs hx.all,hn]; omega)
   have htk:xs.take (i + 1) = xs.take i ++ [x]:=by rw [Yf,hxi]; rfl
   have htp:ps.take (i + 1) = ps.take i ++ [p]:=by rw [Yf,hpi]; rfl
   refine ⟨_,hb,r',?_,?_⟩
   ·rw [htk,G6]; rfl
   ·rw [htp,List.foldl_append]; exact g1)
  (fun st hs => by
   obtain ⟨r,rfl,hr1⟩:=hs
   have e1:((n:Int) < (n:Int)) = False:=eq_false (by omega)
   have ht:xs.take n = xs:=Zl (by omega)
   have ht2:ps.take n = ps:=Zl (by have:=hx.len; omega)
   rw [ht2] at hr1
   rw [ht]
   refine ⟨_,?_,r,rfl,hr1⟩
   simp only [Qiu,Z0,quiet,cF,↓pF,reduceCtorEq,Qb,Qp,Zi,Xv,↓Zo,↓Zn,↓Zw,↓Zz,↓Zx,↓Zy,cL,Qo,Qn,Qx,Qw,Qu,Ql,Qk,Qv,Qd,Qz,Q0,Qq,Qf,Qh,Qg,Qt,Qs,Qr,Qm,Qe,e1])
 refine ⟨r,d,?_,hr1⟩
 have l1:=hr1.len
 have l2:=Ez.len
 have l3:=Ed.len
 rw [Jc (fn:=a27) rfl]
 have hz5:Qa 5 (Value.int .u64 0) = ns .u64 [0,0,0,0,0]:=rfl
 have l5:([0,0,0,0,0]:List Nat).length = 5:=rfl
 simp only [a27,Z0,quiet,cF,↓pF,reduceCtorEq,Qb,Qp,Zi,Xv,↓Zo,↓Zn,↓Zw,↓Zz,↓Zx,↓Zy,cL,Qo,Qn,Qx,Qw,Qu,Ql,Qk,Qv,Qd,Qz,Q0,Qq,Qf,Qh,Qg,Qt,Qs,Qr,Qm,Qe,cJ,Ka,hZ,hz5,l5,hd,hz,hb,Jy,Xs,Vm,Xt,J2,l0,l1,l2,l3,Vl]
theorem fold2 {p q:Go.Cv.Pt Go.Fp.P Go.Fp.d}:[p,q].foldl W3 U2 = W3 p q:=by
 show W3 (W3 U2 p) q = _
 rw [show W3 U2 p = p from Go.Cv.zero_add Go.Fp.fld p]
end Go.Ev.YtgacigcbglflkaaGreat
set_option linter.unusedSimpArgs false
set_option linter.unusedVariables false
namespace Go.Ev.YtgacigcbglflkaaGreat
open Go Go.Ev
attribute [local congr] W7 Ul W6 Um Wv
set_option maxRecDepth 100000
def Mz (u v:Go.Fp.Fe):Go.Fp.Fe:=u * (v * v * v) * Go.Fp.pow (u * (v * v * v) * (v * v * v) * v) (2 ^ 252 - 1 - 2)
def jj:Go.Fp.Fe:=Go.Fp.pow 2 (2 ^ 253 - 1 - 4)
theorem jj_eq:jj = Go.Fp.i:=by
 show Go.Fp.pow (Go.Fp.fp 2) _ = Go.Fp.fp Go.Fp.iN
 exact Go.Fp.Qgz (f:=256) (by decide +kernel) (by decide +kernel)
theorem jj_sq:jj * jj = -1:=by rw [jj_eq]; exact Go.Fp.Qpb
theorem quarter:(2 ^ 252 - 1 - 2) + (2 ^ 252 - 1 - 2) + 1 + ((2 ^ 252 - 1 - 2) + (2 ^ 252 - 1 - 2) + 1) = (Go.Fp.P - 1) / 2:=by rw [Go.Fp.Qar]
theorem Q00 {u v s:Go.Fp.Fe} (h1:v * Mz u v * Mz u v ≠ u) (h2:v * Mz u v * Mz u v ≠ -u):v * (s * s) ≠ u:=fun hs => by
 have F:=Go.Fp.fld
 obtain ⟨g,hg⟩:∃ g,g = v * v * v * v * s:=⟨_,rfl⟩
 have ht:u * (v * v * v) * (v * v * v) * v = g * g:=by subst hg; subst hs; grobner
 rcases Go.Fp.Qg0 g with h | h
 ·obtain ⟨k,hk⟩:∃ k,k = 2 ^ 252 - 1 - 2:=⟨_,rfl⟩
  have hq:=quarter
  rw [← hk] at hq
  rw [← hq,Go.Fp.pow_add,Go.Fp.pow_add,Go.Fp.pow_add,Go.Fp.pow_one] at h
  have hw:Mz u v = u * (v * v * v) * Go.Fp.pow (g * g) k:=by unfold Mz; rw [ht,hk]
  rw [hw] at h1 h2
  generalize Go.Fp.pow (g * g) k = q at *
  have he:(q * q * (g * g) - 1) * (q * q * (g * g) + 1) = 0:=by clear h1 h2 hw ht hg hs; grobner
  have hv:v * (u * (v * v * v) * q) * (u * (v * v * v) * q) = u * (q * q * (g * g)):=by clear h1 h2 hw hg hs he h; grobner
  rcases F.dom he with h | h
  ·exact h1 (by rw [hv]; clear h1 h2 hw ht hg hs he hv; grobner)
  ·exact h2 (by rw [hv]; clear h1 h2 hw ht hg hs he hv; grobner)
 ·have hu:u * (v * v * v) * (v * v * v) * v = 0:=by rw [ht,h]; grobner
  have hu0:u = 0:=by
   rcases F.dom hu with h0 | h0
   ·rcases F.dom h0 with h0 | h0
    ·rcases F.dom h0 with h0 | h0
     ·exact h0
     ·rcases F.dom h0 with h0 | h0
      ·rcases F.dom h0 with h0 | h0 <;> (rw [← hs,h0]; grobner)
      ·rw [← hs,h0]; grobner
    ·rcases F.dom h0 with h0 | h0
     ·rcases F.dom h0 with h0 | h0 <;> (rw [← hs,h0]; grobner)
     ·rw [← hs,h0]; grobner
   ·rw [← hs,h0]; grobner
  exact h1 (by unfold Mz; rw [hu0]; grobner)
theorem Q0o:Vd T 87 [.int .i64 252,.int .u8 2] = some (.agg (u8s (dig 256 32 (2 ^ 252 - 1 - 2))).toArray):=Qpw (n:=252) (less:=2) (by decide) (by decide) (by decide)
theorem Q0n:Vd T 87 [.int .i64 253,.int .u8 4] = some (.agg (u8s (dig 256 32 (2 ^ 253 - 1 - 4))).toArray):=Qpw (n:=253) (less:=4) (by decide) (by decide) (by decide)
def Qms (r:List Nat) (ok:Bool):Value := .tuple #[eV r,.bool ok]
theorem Q49 {u v:List Nat} (Eu:El u (2 ^ 52)) (Ev:El v (2 ^ 52)) :
  ∃ r ok,Vd T 62 [eV u,eV v] = some (Qms r ok) ∧ El r (2 ^ 52) ∧ (ok = true → fe v * (fe r * fe r) = fe u ∧ ((fe r).val % 2 = 0 ∨ fe r = 0)) ∧ (ok = false → ∀ s,fe v * (s * s) ≠ fe u):=by
 obtain ⟨r1,hr1,Er1,fr1⟩:=Td (H:=[⟨ns .u64 u,true,true,true,1⟩,⟨ns .u64 v,true,true,true,1⟩,⟨ns .u64 [0,0,0,0,0],true,true,true,1⟩,⟨ns .u64 [v,v,v].flatten,true,true,true,1⟩]) (id:=3) (n:=3) (xs:=[v,v,v]) rfl (by decide) (by intro w hw; simp only [W0,Us,or_false] at hw; rcases hw with rfl | rfl | rfl <;> assumption) rfl
 simp only [Y9,Uo,Zb,Za] at hr1
 simp only [Y9,Uo,Up,Hi] at fr1
 obtain ⟨r2,hr2,Er2,fr2⟩:=Td (H:=[⟨ns .u64 u,true,true,true,1⟩,⟨ns .u64 v,true,true,true,1⟩,⟨ns .u64 [0,0,0,0,0],true,true,true,1⟩,⟨ns .u64 [v,v,v].flatten,true,true,true,1⟩,⟨ns .u64 r1,true,true,true,1⟩,⟨ns .u64 r1,true,true,true,1⟩,⟨ns .u64 v,true,true,true,1⟩,⟨ns .u64 v,true,true,true,1⟩,⟨ns .u64 v,true,true,true,1⟩,⟨ns .u64 r1,true,true,true,1⟩,⟨ns .u64 [u,r1,r1,v].flatten,true,true,true,1⟩]) (id:=10) (n:=4) (xs:=[u,r1,r1,v]) rfl (by decide) (by intro w hw; simp only [W0,Us,or_false] at hw; rcases hw with rfl | rfl | rfl | rfl <;> assumption) rfl
 simp only [Y9,Uo,Zb,Za] at hr2
 simp only [Y9,Uo,Up,Hi] at fr2
 obtain ⟨r3,hr3,Er3,fr3⟩:=Qb6 (n:=252) (less:=2) Er2 (by decide) (by decide) (by decide)
 obtain ⟨r4,hr4,Er4,fr4⟩:=Td (H:=[⟨ns .u64 u,true,true,true,1⟩,⟨ns .u64 v,true,true,true,1⟩,⟨ns .u64 [0,0,0,0,0],true,true,true,1⟩,⟨ns .u64 [v,v,v].flatten,true,true,true,1⟩,⟨ns .u64 r1,true,true,true,1⟩,⟨ns .u64 r1,true,true,true,1⟩,⟨ns .u64 v,true,true,true,1⟩,⟨ns .u64 v,true,true,true,1⟩,⟨ns .u64 v,true,true,true,1⟩,⟨ns .u64 r1,true,true,true,1⟩,⟨ns .u64 [u,r1,r1,v].flatten,true,true,true,1⟩,⟨ns .u64 r2,true,true,true,1⟩,⟨ns .u64 r2,true,true,true,1⟩,⟨ns .u64 u,true,true,true,1⟩,⟨ns .u64 r1,true,true,true,1⟩,⟨ns .u64 r1,true,true,true,1⟩,⟨ns .u64 v,true,true,true,1⟩,⟨ns .u64 [u,r1,r3].flatten,true,true,true,1⟩]) (id:=17) (n:=3) (xs:=[u,r1,r3]) rfl (by decide) (by intro w hw; simp only [W0,Us,or_false] at hw; rcases hw with rfl | rfl | rfl <;> assumption) rfl
 simp only [Y9,Uo,Zb,Za] at hr4
 simp only [Y9,Uo,Up,Hi] at fr4
 obtain ⟨r5,hr5,Er5,fr5⟩:=Td (H:=[⟨ns .u64 u,true,true,true,1⟩,⟨ns .u64 v,true,true,true,1⟩,⟨ns .u64 [0,0,0,0,0],true,true,true,1⟩,⟨ns .u64 [v,v,v].flatten,true,true,true,1⟩,⟨ns .u64 r1,true,true,true,1⟩,⟨ns .u64 r1,true,true,true,1⟩,⟨ns .u64 v,true,true,true,1⟩,⟨ns .u64 v,true,true,true,1⟩,⟨ns .u64 v,true,true,true,1⟩,⟨ns .u64 r1,true,true,true,1⟩,⟨ns .u64 [u,r1,r1,v].flatten,true,true,true,1⟩,⟨ns .u64 r2,true,true,true,1⟩,⟨ns .u64 r2,true,true,true,1⟩,⟨ns .u64 u,true,true,true,1⟩,⟨ns .u64 r1,true,true,true,1⟩,⟨ns .u64 r1,true,true,true,1⟩,⟨ns .u64 v,true,true,true,1⟩,⟨ns .u64 [u,r1,r3].flatten,true,true,true,1⟩,⟨ns .u64 r4,true,true,true,1⟩,⟨ns .u64 r4,true,true,true,1⟩,⟨ns .u64 u,true,true,true,1⟩,⟨ns .u64 r1,true,true,true,1⟩,⟨ns .u64 r3,true,true,true,1⟩,⟨ns .u64 r4,true,true,true,1⟩,⟨ns .u64 [v,r4,r4].flatten,true,true,true,1⟩]) (id:=24) (n:=3) (xs:=[v,r4,r4]) rfl (by decide) (by intro w hw; simp only [W0,Us,or_false] at hw; rcases hw with rfl | rfl | rfl <;> assumption) rfl
 simp only [Y9,Uo,Zb,Za] at hr5
 simp only [Y9,Uo,Up,Hi] at fr5
 have k1:=Q1y Er5 Eu
 obtain ⟨nu,hnu,Enu,fnu⟩:=Qj5 Eu
 have k2:=Q1y Er5 Enu
 obtain ⟨two,htwo⟩:∃ two:List Nat,two = [2,0,0,0,0]:=⟨_,rfl⟩
 have Etwo:El two (2 ^ 52):=by rw [htwo]; exact Qu2
 have vtwo:Vd T 38 [.int .u32 2] = some (eV two):=by rw [htwo]; exact Qu0
 have ftwo:fe two = 2:=by rw [htwo]; exact Qo0
 clear htwo
 obtain ⟨j,hj,Ej,fj⟩:=Qb6 (n:=253) (less:=4) Etwo (by decide) (by decide) (by decide)
 obtain ⟨q,hq,Eq,fq⟩:=Ur Er4 Ej
 obtain ⟨n1,hn1,En1,fn1⟩:=Qj5 Er4
 obtain ⟨n2,hn2,En2,fn2⟩:=Qj5 Eq
 have o1:=Qwz Er4
 have o2:=Qwz Eq
 have c1:=Q0o
 have c2:=Q0n
 have g1:=Qn1 Ev Ev Ev
 have g2:=Qfl Eu Er1 Er1 Ev
 rw [Qrk] at g2
 have g3:=Qn1 Eu Er1 Er3
 have g4:=Qn1 Ev Er4 Er4
 have hw:fe r4 = Mz (fe u) (fe v):=by
  rw [fr4,fr3,fr1,fr2,fr1]; unfold Mz
  rw [show (1 * fe u * (1 * fe v * fe v * fe v) * (1 * fe v * fe v * fe v) * fe v) = fe u * (fe v * fe v * fe v) * (fe v * fe v * fe v) * fe v from by grobner]
  generalize Go.Fp.pow _ _ = p
  grobner
 have hjj:fe j = jj:=by rw [fj,ftwo]; rfl
 have l1:=Eu.len
 have l2:=Ev.len
 have l3:=Er1.len
 have l4:=Er4.len
 have l5:=Er5.len
 have l6:=Eq.len
 have l7:=En1.len
 have l8:=En2.len
 have hz5:Qa 5 (Value.int .u64 0) = ns .u64 [0,0,0,0,0]:=rfl
 have hf5:fillL (ns .u64 [0,0,0,0,0]) [] = some (ns .u64 [0,0,0,0,0]):=rfl
 have l0:([0,0,0,0,0]:List Nat).length = 5:=rfl
 clear Ej Etwo ftwo fj
 generalize dig 256 32 (2 ^ 252 - 1 - 2) = K1 at *
 generalize dig 256 32 (2 ^ 253 - 1 - 4) = K2 at *
 have hsq:fe r5 = fe v * Mz (fe u) (fe v) * Mz (fe u) (fe v):=by rw [fr5,hw]; generalize Mz (fe u) (fe v) = w; grobner
 have evn:∀ a:Go.Fp.Fe,a.val % 2 = 1 → (-a).val % 2 = 0 ∨ -a = 0:=by
  intro a ha
  left
  have hlt:=a.isLt
  have h0:(Go.Fp.P - a.val) < Go.Fp.P:=by omega
  have h1:(-a).val = (Go.Fp.P - a.val) % Go.Fp.P:=rfl
  rw [h1,Z3 h0]
  have hP:Go.Fp.P % 2 = 1:=by rw [Go.Fp.Qar]
  omega
 by_cases hA:fe r5 = fe u
 ·rw [decide_eq_true hA] at k1
  have hroot:fe v * (fe r4 * fe r4) = fe u:=by rw [← hA,hsq,hw]; generalize Mz (fe u) (fe v) = w; grobner
  by_cases hO:(fe r4).val % 2 = 1
  ·rw [decide_eq_true hO] at o1
   refine ⟨n1,true,?_,En1,fun _ => ⟨?_,?_⟩,fun h => by cases h⟩
   ·apply Xg
    apply Zt
    rw [Jc (fn:=a60) rfl]
    simp only [a60,Z0,quiet,cF,↓pF,reduceCtorEq,Qb,Qp,Zi,Zf,Zg,Ze,Zc,Qj,Q3,Qi,Q2,Q6,Q5,↓Zo,↓Zn,↓Zw,↓Zz,↓Zx,↓Zy,cL,Qo,Qn,Qx,Qw,Qu,Ql,Qk,Qv,Qd,Qz,Q0,Qq,Qf,Qh,Qg,Qt,Qs,Qr,Qm,Qe,cJ,hz5,hf5,l0,g1,g2,g3,g4,c1,c2,hr1,hr2,hr3,hr4,hr5,k1,o1,hn1,l1,l2,l3,l4,l5,l7,Zd,Xd,Jy,Xs,Vm,Xt,J2,Vl]
    rfl
   ·rw [fn1,← hroot]; generalize fe r4 = w; grobner
   ·rw [fn1]; exact evn _ hO
  ·rw [decide_eq_false hO] at o1
   refine ⟨r4,true,?_,Er4,fun _ => ⟨hroot,by left; omega⟩,fun h => by cases h⟩
   apply Xg
   apply Zt
   rw [Jc (fn:=a60) rfl]
   simp only [a60,Z0,quiet,cF,↓pF,reduceCtorEq,Qb,Qp,Zi,Zf,Zg,Ze,Zc,Qj,Q3,Qi,Q2,Q6,Q5,↓Zo,↓Zn,↓Zw,↓Zz,↓Zx,↓Zy,cL,Qo,Qn,Qx,Qw,Qu,Ql,Qk,Qv,Qd,Qz,Q0,Qq,Qf,Qh,Qg,Qt,Qs,Qr,Qm,Qe,cJ,hz5,hf5,l0,g1,g2,g3,g4,c1,c2,hr1,hr2,hr3,hr4,hr5,k1,o1,hn1,l1,l2,l3,l4,l5,l7,Zd,Xd,Jy,Xs,Vm,Xt,J2,Vl]
   rfl
 ·rw [decide_eq_false hA] at k1
  by_cases hB:fe r5 = fe nu
  ·rw [decide_eq_true hB] at k2
   have hroot:fe v * (fe q * fe q) = fe u:=by
    have hs:=jj_sq
    rw [hsq,fnu] at hB
    rw [fq,hw,hjj]
    generalize Mz (fe u) (fe v) = w at *
    clear k1 k2 o1 o2 c1 c2 hA hsq hw fr1 fr2 fr3 fr4 fr5
    grobner
   by_cases hO:(fe q).val % 2 = 1
   ·rw [decide_eq_true hO] at o2
    refine ⟨n2,true,?_,En2,fun _ => ⟨?_,?_⟩,fun h => by cases h⟩
    ·apply Xg
     apply Zt
     rw [Jc (fn:=a60) rfl]
     simp only [a60,Z0,quiet,cF,↓pF,reduceCtorEq,Qb,Qp,Zi,Zf,Zg,Ze,Zc,Qj,Q3,Qi,Q2,Q6,Q5,↓Zo,↓Zn,↓Zw,↓Zz,↓Zx,↓Zy,cL,Qo,Qn,Qx,Qw,Qu,Ql,Qk,Qv,Qd,Qz,Q0,Qq,Qf,Qh,Qg,Qt,Qs,Qr,Qm,Qe,cJ,hz5,hf5,l0,g1,g2,g3,g4,c1,c2,hr1,hr2,hr3,hr4,hr5,k1,k2,hnu,vtwo,hj,hq,o2,hn2,l1,l2,l3,l4,l5,l6,l8,Zd,Xd,Jy,Xs,Vm,Xt,J2,Vl]
     rfl
    ·rw [fn2,← hroot]; generalize fe q = w; grobner
    ·rw [fn2]; exact evn _ hO
   ·rw [decide_eq_false hO] at o2
    refine ⟨q,true,?_,Eq,fun _ => ⟨hroot,by left; omega⟩,fun h => by cases h⟩
    apply Xg
    apply Zt
    rw [Jc (fn:=a60) rfl]
    simp only [a60,Z0,quiet,cF,↓pF,reduceCtorEq,Qb,Qp,Zi,Zf,Zg,Ze,Zc,Qj,Q3,Qi,Q2,Q6,Q5,↓Zo,↓Zn,↓Zw,↓Zz,↓Zx,↓Zy,cL,Qo,Qn,Qx,Qw,Qu,Ql,Qk,Qv,Qd,Qz,Q0,Qq,Qf,Qh,Qg,Qt,Qs,Qr,Qm,Qe,cJ,hz5,hf5,l0,g1,g2,g3,g4,c1,c2,hr1,hr2,hr3,hr4,hr5,k1,k2,hnu,vtwo,hj,hq,o2,hn2,l1,l2,l3,l4,l5,l6,l8,Zd,Xd,Jy,Xs,Vm,Xt,J2,Vl]
    rfl
  ·rw [decide_eq_false hB] at k2
   refine ⟨[0,0,0,0,0],false,?_,Qga,fun h => (by cases h),fun _ s => Q00 (by rw [← hsq]; exact hA) (by rw [← hsq,← fnu]; exact hB)⟩
   apply Xg
   apply Zt
   rw [Jc (fn:=a60) rfl]
   simp only [a60,Z0,quiet,cF,↓pF,reduceCtorEq,Qb,Qp,Zi,Zf,Zg,Ze,Zc,Qj,Q3,Qi,Q2,Q6,Q5,↓Zo,↓Zn,↓Zw,↓Zz,↓Zx,↓Zy,cL,Qo,Qn,Qx,Qw,Qu,Ql,Qk,Qv,Qd,Qz,Q0,Qq,Qf,Qh,Qg,Qt,Qs,Qr,Qm,Qe,cJ,hz5,hf5,l0,g1,g2,g3,g4,c1,c2,hr1,hr2,hr3,hr4,hr5,k1,k2,hnu,l1,l2,l3,l4,l5,Zd,Xd,Jy,Xs,Vm,Xt,J2,Vl]
   rfl
structure Jac where
 x:Nat
 y:Nat
 z:Nat
 t:Nat
structure JRep (a:Jac) (p:Go.Cv.Pt Go.Fp.P Go.Fp.d):Prop where
 nz:Go.Fp.fp a.z ≠ 0
 x:Go.Fp.fp a.x = p.x * Go.Fp.fp a.z
 y:Go.Fp.fp a.y = p.y * Go.Fp.fp a.z
 t:Go.Fp.fp a.t = p.x * p.y * Go.Fp.fp a.z
def Qni (a b:Nat):Nat:=a + (Go.Fp.P - b % Go.Fp.P)
theorem Qa6 (a b:Nat):Go.Fp.fp (Qni a b) = Go.Fp.fp a - Go.Fp.fp b:=by
 unfold Qni
 have h:b % Go.Fp.P ≤ Go.Fp.P:=Wh (Jk _ (by rw [Go.Fp.Qar]; decide))
 rw [Go.Fp.Gg,Go.Fp.Qx3 h,Go.Fp.Q6d,Go.Fp.Hs]
 grobner
def Qhl (a b:Jac):Nat:=Qni a.y a.x * Qni b.y b.x % Go.Fp.P
def Qhk (a b:Jac):Nat:=(a.y + a.x) * (b.y + b.x) % Go.Fp.P
def Qhj (a b:Jac):Nat:=1 * 2 * Go.Fp.dN * a.t * b.t % Go.Fp.P
def Qhi (a b:Jac):Nat:=1 * 2 * a.z * b.z % Go.Fp.P
def jfin (a b c e:Nat):Jac:=⟨Qni b a * Qni e c % Go.Fp.P,(e + c) * (b + a) % Go.Fp.P,Qni e c * (e + c) % Go.Fp.P,Qni b a * (b + a) % Go.Fp.P⟩
def Qnq (a b:Jac):Jac:=jfin (Qhl a b) (Qhk a b) (Qhj a b) (Qhi a b)
theorem JRep.add {a b:Jac} {p q:Go.Cv.Pt Go.Fp.P Go.Fp.d} (h1:JRep a p) (h2:JRep b q):JRep (Qnq a b) (W3 p q):=by
 have ha:Go.Fp.fp (Qhl a b) = (Go.Fp.fp a.y - Go.Fp.fp a.x) * (Go.Fp.fp b.y - Go.Fp.fp b.x):=by
  unfold Qhl; rw [Go.Fp.Hs,Go.Fp.U1,Qa6,Qa6]
 have hb:Go.Fp.fp (Qhk a b) = (Go.Fp.fp a.y + Go.Fp.fp a.x) * (Go.Fp.fp b.y + Go.Fp.fp b.x):=by
  unfold Qhk; rw [Go.Fp.Hs,Go.Fp.U1,Go.Fp.Gg,Go.Fp.Gg]
 have hc:Go.Fp.fp (Qhj a b) = 1 * 2 * Go.Fp.d * Go.Fp.fp a.t * Go.Fp.fp b.t:=by
  unfold Qhj; rw [Go.Fp.Hs,Go.Fp.U1,Go.Fp.U1,Go.Fp.U1,Go.Fp.U1,Go.Fp.Qln,Go.Fp.Qx2]; rfl
 have hd:Go.Fp.fp (Qhi a b) = 1 * 2 * Go.Fp.fp a.z * Go.Fp.fp b.z:=by
  unfold Qhi; rw [Go.Fp.Hs,Go.Fp.U1,Go.Fp.U1,Go.Fp.U1,Go.Fp.Qln,Go.Fp.Qx2]
 have hx:Go.Fp.fp (Qnq a b).x = (Go.Fp.fp (Qhk a b) - Go.Fp.fp (Qhl a b)) * (Go.Fp.fp (Qhi a b) - Go.Fp.fp (Qhj a b)):=by
  show Go.Fp.fp (_ % _) = _; rw [Go.Fp.Hs,Go.Fp.U1,Qa6,Qa6]
 have hy:Go.Fp.fp (Qnq a b).y = (Go.Fp.fp (Qhi a b) + Go.Fp.fp (Qhj a b)) * (Go.Fp.fp (Qhk a b) + Go.Fp.fp (Qhl a b)):=by
  show Go.Fp.fp (_ % _) = _; rw [Go.Fp.Hs,Go.Fp.U1,Go.Fp.Gg,Go.Fp.Gg]
 have hz:Go.Fp.fp (Qnq a b).z = (Go.Fp.fp (Qhi a b) - Go.Fp.fp (Qhj a b)) * (Go.Fp.fp (Qhi a b) + Go.Fp.fp (Qhj a b)):=by
  show Go.Fp.fp (_ % _) = _; rw [Go.Fp.Hs,Go.Fp.U1,Go.Fp.Gg,Qa6]
 have ht:Go.Fp.fp (Qnq a b).t = (Go.Fp.fp (Qhk a b) - Go.Fp.fp (Qhl a b)) * (Go.Fp.fp (Qhk a b) + Go.Fp.fp (Qhl a b)):=by
  show Go.Fp.fp (_ % _) = _; rw [Go.Fp.Hs,Go.Fp.U1,Go.Fp.Gg,Qa6]
 obtain ⟨g1,g2,g3,g4⟩:=Qjx h1.x h1.y h1.t h2.x h2.y h2.t ha hb hc hd hx hy hz ht (Go.Cv.Qbx Go.Fp.fld p q) (Go.Cv.Qbw Go.Fp.fld p q)
 refine ⟨?_,g1,g2,g3⟩
 rw [g4]
 have F:=Go.Fp.fld
 have w:=F.mul_ne (F.mul_ne F.two h1.nz) h2.nz
 exact F.mul_ne (F.mul_ne w w) (F.mul_ne (F.denM p.on q.on) (F.denP p.on q.on))
def Qp9 (p:Jac):Nat → Nat → Jac
 | 0,_ => ⟨0,1,1,0⟩
 | f + 1,k => (fun r => if k % 2 = 1 then Qnq (Qnq r r) p else Qnq r r) (Qp9 p f (k / 2))
theorem JRep.mul {a:Jac} {p:Go.Cv.Pt Go.Fp.P Go.Fp.d} (h:JRep a p):∀ {f k:Nat},k < 2 ^ f → JRep (Qp9 a f k) (V9 k p)
 | 0,k,hk => by
  have:k = 0:=by omega
  subst this
  exact ⟨Go.Fp.Rk,by show (0:Go.Fp.Fe) = 0 * 1; grobner,by show (1:Go.Fp.Fe) = 1 * 1; grobner,by show (0:Go.Fp.Fe) = 0 * 1 * 1; grobner⟩
 | f + 1,k,hk => by
  have ih:=JRep.mul h (f:=f) (k:=k / 2) (by omega)
  have hb:=Jk k (by decide:0 < 2)
  have e:V9 k p = V9 (2 * (k / 2) + k % 2) p:=by rw [Vr]
  rw [e,Qjv p (k / 2) (k % 2) hb]
  simp only [Qp9]
  split
  ·exact (ih.add ih).add h
  ·exact ih.add ih
def Qnp:Jac:=⟨bxN,byN,1,bxN * byN % Go.Fp.P⟩
theorem Qev:JRep Qnp Wd:=by
 have h1:Go.Fp.fp 1 = (1:Go.Fp.Fe):=rfl
 refine ⟨Go.Fp.Rk,?_,?_,?_⟩
 ·show Go.Fp.fp bxN = Go.Fp.fp bxN * Go.Fp.fp 1; rw [h1]; grobner
 ·show Go.Fp.fp byN = Go.Fp.fp byN * Go.Fp.fp 1; rw [h1]; grobner
 ·show Go.Fp.fp (bxN * byN % Go.Fp.P) = Go.Fp.fp bxN * Go.Fp.fp byN * Go.Fp.fp 1; rw [h1,Go.Fp.Hs,Go.Fp.U1]; grobner
theorem Qqk:V9 8 Wd ≠ U2:=fun h => by
 have r:=Qev.mul (f:=4) (k:=8) (by decide)
 rw [h] at r
 have hx:=r.x
 rw [show (U2:Go.Cv.Pt Go.Fp.P Go.Fp.d).x = 0 from rfl] at hx
 have h0:Go.Fp.fp (Qp9 Qnp 4 8).x = Go.Fp.fp 0:=by rw [hx]; show _ = (0:Go.Fp.Fe); grobner
 have h1:=Go.Fp.Qbt.1 h0
 have h2:(Qp9 Qnp 4 8).x % Go.Fp.P ≠ 0 % Go.Fp.P:=by decide +kernel
 exact h2 h1
theorem Qxf {a:Jac} {q:Go.Cv.Pt Go.Fp.P Go.Fp.d} (r:JRep a q) (c1:a.x % Go.Fp.P = 0 % Go.Fp.P) (c2:a.y % Go.Fp.P = a.z % Go.Fp.P):q = U2:=by
 have d1:=Go.Fp.Qbt.2 c1
 have d2:=Go.Fp.Qbt.2 c2
 have F:=Go.Fp.fld
 have hx:=r.x
 have hy:=r.y
 have hz:=r.nz
 rw [d1] at hx
 rw [d2] at hy
 generalize Go.Fp.fp a.z = z at *
 apply Go.Cv.Pt.ext
 ·show _ = (0:Go.Fp.Fe)
  have h0:Go.Fp.fp 0 = (0:Go.Fp.Fe):=rfl
  rw [h0] at hx
  refine F.cancel hz ?_
  generalize q.x = w at *
  clear r hy d1 d2
  grobner
 ·show _ = (1:Go.Fp.Fe)
  refine F.cancel hz ?_
  generalize q.y = w at *
  clear r hx d1 d2
  grobner
def Qr2 (a:Jac):Bool:=Nat.beq (a.x % Go.Fp.P) 0 && Nat.beq (a.y % Go.Fp.P) (a.z % Go.Fp.P)
theorem Qyf:Qr2 (Qp9 Qnp 253 ell) = true:=by decide +kernel
theorem Ht:V9 ell Wd = U2:=by
 have h:=Qyf
 simp only [Qr2,Vw] at h
 exact Qxf (Qev.mul (f:=253) (k:=ell) (by decide +kernel)) (Nat.eq_of_beq_eq_true h.1) (Nat.eq_of_beq_eq_true h.2)
theorem Z5 {α:Type} {x y:Option α}:Dw (.bool true) true x y = x:=Eq.trans rfl rfl
theorem Z9 {α:Type} {x y:Option α}:Dw (.bool false) false x y = x:=Eq.trans rfl rfl
theorem Z6 {α:Type} {x y:Option α}:Dw (.bool true) false x y = y:=Eq.trans rfl rfl
theorem Z7 {α:Type} {x y:Option α}:Dw (.bool false) true x y = y:=Eq.trans rfl rfl
theorem Zu {t:Nat} {v:Value} {l:Env}:Qxe t (some v) l = (t,v) :: l:=Eq.trans rfl rfl
theorem Zm {α:Type} {v:α} {y:Option α}:Qff (some v) y = some v:=Eq.trans rfl rfl
theorem Qeg {T:Tab} {b:Nat} {q:Bool}:∀ (o1 o2:List AOper) (s:St),steps T b q (o1 ++ o2) s = (steps T b q o1 s).bind (steps T b q o2)
 | [],o2,s => rfl
 | o :: o1,o2,s => by
  rw [Zb]
  unfold steps
  cases hg:guardOf s.env o.guard with
  | none => rfl
  | some g =>
   cases g with
   | true =>
    simp only
    cases hx:Yt T o.op s.env s.h with
    | none => rfl
    | some x =>
     simp only [Q4]
     split
     ·rfl
     ·exact Qeg o1 o2 _
   | false => exact Qeg o1 o2 _
theorem Zr {T:Tab} {b:Nat} {q:Bool} {a1 a2 a3 a4 a5 a6 a7:AOper} {r:List AOper} {s:St}:steps T b q (a1 :: a2 :: a3 :: a4 :: a5 :: a6 :: a7 :: r) s = (steps T b q [a1,a2,a3,a4,a5,a6] s).bind fun s' => steps T b q (a7 :: r) s':=by
 rw [← Qeg]; rfl
theorem Qk7 {a:Go.Fp.Fe} (h0:a ≠ 0):(-a).val % 2 ≠ a.val % 2:=by
 have hlt:=a.isLt
 have hne:a.val ≠ 0:=fun h => h0 (Fin.ext h)
 have h1:(-a).val = (Go.Fp.P - a.val) % Go.Fp.P:=rfl
 have h2:(Go.Fp.P - a.val) < Go.Fp.P:=by omega
 rw [h1,Z3 h2]
 have hP:Go.Fp.P % 2 = 1:=by rw [Go.Fp.Qar]
 omega
theorem Qq6 {a b:Go.Fp.Fe} (h:a * a = b * b):a = b ∨ a = -b:=by
 have F:=Go.Fp.fld
 have:(a - b) * (a + b) = 0:=by grobner
 rcases F.dom this with h1 | h1
 ·left; clear h this; grobner
 ·right; clear h this; grobner
theorem Q5o (dd z:Go.Fp.Fe) (hz:z = 0):dd * (z * z) + 1 = 1:=by grobner
theorem Qql (y:Go.Fp.Fe):Go.Fp.d * (y * y) + 1 ≠ 0:=fun h => by
 have F:=Go.Fp.fld
 have hy:y ≠ 0:=by
  intro h0
  rw [Q5o _ _ h0] at h
  exact Go.Fp.Rk h
 have hi:=Go.Fp.Qaf hy
 have hr:=Go.Fp.Qpb
 apply Go.Fp.nosq (Go.Fp.i * Go.Fp.iv y)
 generalize Go.Fp.d = dd at *
 generalize Go.Fp.i = ii at *
 generalize Go.Fp.iv y = w at *
 clear F hy
 have e1:dd * (y * w) * (y * w) + w * w = 0:=by
  have:dd * (y * w) * (y * w) + w * w = (dd * (y * y) + 1) * (w * w):=by clear h hi hr; grobner
  rw [this,h]; clear this h hi hr; grobner
 rw [hi] at e1
 have e2:ii * w * (ii * w) = (ii * ii) * (w * w):=by clear h hi hr e1; grobner
 rw [e2,hr]
 clear h hi hr e2
 grobner
theorem Qy4 (p:Go.Cv.Pt Go.Fp.P Go.Fp.d):(Go.Fp.d * (p.y * p.y) + 1) * (p.x * p.x) = p.y * p.y - 1:=by
 have h:=p.on
 unfold Go.Cv.On at h
 generalize Go.Fp.d = dd at *
 generalize p.x = x at *
 generalize p.y = y at *
 grobner
theorem Qye {p q:Go.Cv.Pt Go.Fp.P Go.Fp.d} (h:Qcd p = Qcd q):p = q:=by
 unfold Qcd at h
 have h1:=Qec p.y
 have h2:=Qec q.y
 have h3:=Jk p.x.val (by decide:0 < 2)
 have h4:=Jk q.x.val (by decide:0 < 2)
 have hy:p.y.val = q.y.val:=by omega
 have hx:p.x.val % 2 = q.x.val % 2:=by omega
 have hy':p.y = q.y:=Fin.ext hy
 have e1:=Qy4 p
 have e2:=Qy4 q
 rw [hy',← e2] at e1
 have e3:=Go.Fp.fld.cancel (Qql q.y) e1
 refine Go.Cv.Pt.ext ?_ hy'
 rcases Qq6 e3 with h | h
 ·exact h
 ·by_cases h0:q.x = 0
  ·rw [h,h0]; grobner
  ·exfalso
   have:=Qk7 h0
   rw [← h] at this
   exact this hx
theorem Qde (p q:Go.Cv.Pt Go.Fp.P Go.Fp.d):(enc p == enc q) = decide (p = q):=by
 unfold enc
 rw [key_inj (Qlp p) (Qlp q)]
 by_cases h:p = q
 ·subst h; rw [decide_eq_true rfl,decide_eq_true rfl]
 ·rw [decide_eq_false h,decide_eq_false (fun e => h (Qye e))]
theorem Q6f {a b:List Nat} {p q:Go.Cv.Pt Go.Fp.P Go.Fp.d} (ha:RepL a p) (hb:RepL b q):fillL (Qa 40 (Value.int .u64 0)) [(0,20,eV a),(20,20,eV b)] = some (ns .u64 [a,b].flatten):=by
 obtain ⟨x1,y1,z1,t1,rfl,h1⟩:=ha
 obtain ⟨x2,y2,z2,t2,rfl,h2⟩:=hb
 obtain ⟨a0,a1,a2,a3,a4,rfl,-⟩:=h1.ex.five
 obtain ⟨b0,b1,b2,b3,b4,rfl,-⟩:=h1.ey.five
 obtain ⟨c0,c1,c2,c3,c4,rfl,-⟩:=h1.ez.five
 obtain ⟨d0,d1,d2,d3,d4,rfl,-⟩:=h1.et.five
 obtain ⟨e0,e1,e2,e3,e4,rfl,-⟩:=h2.ex.five
 obtain ⟨f0,f1,f2,f3,f4,rfl,-⟩:=h2.ey.five
 obtain ⟨g0,g1,g2,g3,g4,rfl,-⟩:=h2.ez.five
 obtain ⟨i0,i1,i2,i3,i4,rfl,-⟩:=h2.et.five
 rfl
theorem Qa1 (p q:Go.Cv.Pt Go.Fp.P Go.Fp.d):W3 p q = W3 q p:=Go.Cv.add_comm Go.Fp.fld p q
theorem Mi (p q r:Go.Cv.Pt Go.Fp.P Go.Fp.d):W3 (W3 p q) r = W3 p (W3 q r):=Go.Cv.add_assoc Go.Fp.fld p q r
theorem Qr0 {k:List Nat} (lk:k.length = 32) (xk:∀ x ∈ k,x < 256) {p:Go.Cv.Pt Go.Fp.P Go.Fp.d}:enc p = k ↔ Qcd p = num 256 k:=by
 have h1:=num_lt xk
 rw [lk] at h1
 have h2:=D1 (by decide:0 < 256) xk
 rw [lk] at h2
 constructor
 ·intro h
  have:=U5 (B:=256) (by decide) 32 (Qcd p)
  rw [Z3 (Qlp p)] at this
  rw [← this,← h]; rfl
 ·intro h
  unfold enc
  rw [h,h2]
theorem Qke {p:Go.Cv.Pt Go.Fp.P Go.Fp.d} {V:Nat}:Qcd p = V ↔ p.y.val = V % 2 ^ 255 ∧ p.x.val % 2 = V / 2 ^ 255:=by
 have h1:=Qec p.y
 have h3:=Jk p.x.val (by decide:0 < 2)
 unfold Qcd
 constructor
 ·intro h; omega
 ·rintro ⟨h,h'⟩; rw [h,h',K7,Nat.mod_add_div]
theorem Qwn {u v x y:Go.Fp.Fe} (hu:u = y * y - 1) (hv:v = Go.Fp.d * (y * y) + 1) (h:v * (x * x) = u):Go.Cv.On Go.Fp.d x y:=by
 unfold Go.Cv.On
 generalize Go.Fp.d = dd at *
 subst hu hv
 grobner
theorem Qrt {k:List Nat} (lk:k.length = 32) (xk:∀ x ∈ k,x < 256):∃ w,k[31]? = some w ∧ w < 256 ∧ w / 128 = num 256 k / 2 ^ 255 ∧ num 256 (k.set 31 (w &&& 127)) = num 256 k % 2 ^ 255 ∧ (∀ x ∈ k.set 31 (w &&& 127),x < 256) ∧ (k.set 31 (w &&& 127)).length = 32:=by
 obtain ⟨w,hw⟩:∃ w,k[31]? = some w:=⟨_,Q1 (by omega)⟩
 have hw':w < 256:=xk w (Zk hw)
 have hV:=num_lt xk
 rw [lk] at hV
 have hg:=Bv (by decide:0 < 256) xk hw
 have hs:=Gj (B:=256) (w &&& 127) hw
 have ha:w &&& 127 = w % 128:=Mu w 7
 refine ⟨w,hw,hw',?_⟩
 rw [ha] at hs ⊢
 have e31:(256:Nat) ^ 31 = 452312848583266388373324160190187140051835877600158453279131187530910662656:=by decide
 have e32:(256:Nat) ^ 32 = 115792089237316195423570985008687907853269984665640564039457584007913129639936:=by decide
 have e255:(2:Nat) ^ 255 = 57896044618658097711785492504343953926634992332820282019728792003956564819968:=by decide
 rw [e31] at hg hs
 rw [e32] at hV
 rw [e255]
 refine ⟨by omega,by omega,?_,by rw [Xe]; exact lk⟩
 intro x hx
 rcases Hw hx with h | h
 ·exact xk x h
 ·omega
def Rm (l:List Nat) (c:Int):Value := .tuple #[eV l,.int .i64 c]
theorem Qn7 {k:List Nat} (lk:k.length = 32) (xk:∀ x ∈ k,x < 256) :
  (∃ l p,Vd T 26 [.agg (u8s k).toArray] = some (Rm l 0) ∧ RepL l p ∧ enc p = k) ∨ (∃ l,Vd T 26 [.agg (u8s k).toArray] = some (Rm l 60) ∧ l.length = 20 ∧ ∀ p,enc p ≠ k):=by
 obtain ⟨w,hw,hw',ht,hm,xm,lm⟩:=Qrt lk xk
 have hwc:=Wo hw
 have hset:=U3 k 31 (w &&& 127)
 have o1:Vz .and .u8 (w:Int) 127 = ((w &&& 127:Nat):Int):=R4 (k := .u8) (a:=w) (b:=127) rfl hw' (by decide)
 have hof:=Qwy lm xm
 have hcan:=Qob lm xm
 rw [hm] at hof hcan
 rw [Hh] at hof
 have hkey:∀ p:Go.Cv.Pt Go.Fp.P Go.Fp.d,enc p = k ↔ p.y.val = num 256 k % 2 ^ 255 ∧ p.x.val % 2 = num 256 k / 2 ^ 255:=fun p => by rw [Qr0 lk xk,Qke]
 rw [← ht] at hkey
 have Ey:=Qng (V:=num 256 k % 2 ^ 255)
 have fy:fe (dig (2 ^ 51) 5 (num 256 k % 2 ^ 255)) = Go.Fp.fp (num 256 k % 2 ^ 255):=by unfold fe; rw [Qg9]
 generalize k.set 31 (w &&& 127) = km at *
 generalize dig (2 ^ 51) 5 (num 256 k % 2 ^ 255) = Y at *
 generalize num 256 k % 2 ^ 255 = V at *
 have hz20:∃ O,Qa 20 (Value.int .u64 0) = ns .u64 O ∧ O.length = 20 ∧ fillL (ns .u64 O) [] = some (ns .u64 O):=⟨Qa 20 0,rfl,rfl,rfl⟩
 obtain ⟨O,hz20,l0,hf0⟩:=hz20
 have l1:=Ey.len
 have hz5:Qa 5 (Value.int .u64 0) = ns .u64 [0,0,0,0,0]:=rfl
 have l5:([0,0,0,0,0]:List Nat).length = 5:=rfl
 have hbit:((((w / 128:Nat):Int)) == 1) = decide (w / 128 = 1):=by
  by_cases h:w / 128 = 1
  ·rw [h]; rfl
  ·have:¬ (((w / 128:Nat):Int) = 1):=by omega
   rw [decide_eq_false h,beq_eq_false_iff_ne.2 this]
 have hshr:((w:Int) / 128) = ((w / 128:Nat):Int):=rfl
 by_cases hV:V < Go.Fp.P
 ·rw [decide_eq_true hV] at hcan
  have hYv:(Go.Fp.fp V).val = V:=Z3 hV
  obtain ⟨one,hone⟩:∃ O:List Nat,O = [1,0,0,0,0]:=⟨_,rfl⟩
  have Eone:El one (2 ^ 52):=by rw [hone]; exact Qes
  have vone:Vd T 38 [.int .u32 1] = some (eV one):=by rw [hone]; exact Qwm
  have fone:fe one = 1:=by rw [hone]; exact Qer
  clear hone
  obtain ⟨yy,hyy,Eyy,fyy⟩:=Ur Ey Ey
  obtain ⟨D,hD,ED,fD⟩:=Qhq
  obtain ⟨uu,huu,Euu,fuu⟩:=Qfb Eyy Eone
  obtain ⟨dy,hdy,Edy,fdy⟩:=Ur ED Eyy
  obtain ⟨vv,sv,hvv,Evv,fvv⟩:=Rb (H:=[⟨u8s km,true,true,true,1⟩,⟨ns .u64 O,true,true,true,1⟩,⟨ns .u64 Y,true,true,true,1⟩,⟨ns .u64 yy,true,true,true,1⟩,⟨ns .u64 (dy ++ one),true,true,true,1⟩]) (id:=4) Edy Eone rfl
  simp only [Zb,Za] at hvv
  obtain ⟨r,ok,hr,Er,hok,hno⟩:=Q49 Euu Evv
  have hf2:=Qfm Edy Eone
  have l6:=Eyy.len
  have l7:=Er.len
  have kz:=Qxg Er
  obtain ⟨nr,hnr,Enr,fnr⟩:=Qj5 Er
  obtain ⟨t1,ht1,Et1,ft1⟩:=Ur Er Ey
  obtain ⟨t2,ht2,Et2,ft2⟩:=Ur Enr Ey
  have g1:=Qfl Er Ey Eone Et1
  have g2:=Qfl Enr Ey Eone Et2
  rw [hz20] at g1 g2
  have q1:=Hq Er Ey Eone Et1
  have q2:=Hq Enr Ey Eone Et2
  have l8:=Enr.len
  have hu:fe uu = Go.Fp.fp V * Go.Fp.fp V - 1:=by rw [fuu,fyy,fy,fone]
  have hv:fe vv = Go.Fp.d * (Go.Fp.fp V * Go.Fp.fp V) + 1:=by rw [fvv,fdy,fD,fyy,fy,fone]
  have hyp:∀ p:Go.Cv.Pt Go.Fp.P Go.Fp.d,enc p = k → p.y = Go.Fp.fp V:=fun p hp => Fin.ext (by rw [hYv]; exact ((hkey p).1 hp).1)
  have hxx:∀ p:Go.Cv.Pt Go.Fp.P Go.Fp.d,enc p = k → fe vv * (p.x * p.x) = fe uu:=fun p hp => by
   have:=Qy4 p
   rw [hyp p hp] at this
   rw [hu,hv]; exact this
  have rft:∀ b:Bool,rf (Value.tuple #[eV r,.bool b]) = true:=fun b => Ta (a:=eV r) (b := .bool b) (Vl r) rfl
  cases ok with
  | false =>
   refine .inr ⟨O,?_,l0,fun p hp => hno rfl p.x (hxx p hp)⟩
   apply Xg
   apply Zt
   rw [Jc (fn:=a31) rfl]
   simp only [a31,↓Zr,Z0,quiet,cF,↓pF,reduceCtorEq,Qb,Qp,Zi,Zf,Zg,Ze,Zc,Qj,Q3,Qi,Q2,Q6,Q5,↓Zu,↓Zm,↓Z5,↓Z9,↓Z6,↓Z7,cL,Qo,Qn,Qx,Qw,Qu,Ql,Qk,Qv,Qd,Qz,Q0,Qq,Qf,Qh,Qg,Qt,Qs,Qr,Qm,Qe,cJ,cU,hz20,hf0,hz5,hwc,hset,o1,hof,hcan,hbit,hshr,vone,hyy,hD,huu,hdy,hf2,hvv,hr,Zd,Xd,Jy,Xs,Vm,Xt,J2,X2,lk,lm,l0,l1,l5,l6,l7,Mb,Qms,rft,Vl]
   rfl
  | true =>
   obtain ⟨hroot,hev⟩:=hok rfl
   have hev':(fe r).val % 2 = 0:=by
    rcases hev with h | h
    ·exact h
    ·rw [h]; rfl
   by_cases hb:w / 128 = 1
   ·rw [decide_eq_true hb] at hbit
    by_cases h0:fe r = 0
    ·rw [decide_eq_true h0] at kz
     refine .inr ⟨O,?_,l0,fun p hp => ?_⟩
     ·apply Xg
      apply Zt
      rw [Jc (fn:=a31) rfl]
      simp only [a31,↓Zr,Z0,quiet,cF,↓pF,reduceCtorEq,Qb,Qp,Zi,Zf,Zg,Ze,Zc,Qj,Q3,Qi,Q2,Q6,Q5,↓Zu,↓Zm,↓Z5,↓Z9,↓Z6,↓Z7,cL,Qo,Qn,Qx,Qw,Qu,Ql,Qk,Qv,Qd,Qz,Q0,Qq,Qf,Qh,Qg,Qt,Qs,Qr,Qm,Qe,cJ,cU,hz20,hf0,hz5,hwc,hset,o1,hof,hcan,hbit,hshr,vone,hyy,hD,huu,hdy,hf2,hvv,hr,Zd,Xd,Jy,Xs,Vm,Xt,J2,X2,lk,lm,l0,l1,l5,l6,l7,Mb,Qms,rft,Vl,kz]
      rfl
     ·have h2:=((hkey p).1 hp).2
      have h3:=hxx p hp
      rw [← hroot,h0] at h3
      have h4:p.x * p.x = 0 * 0:=Go.Fp.fld.cancel (by rw [hv]; exact Qql _) h3
      rcases Qq6 h4 with h5 | h5
      ·rw [h5,hb] at h2; exact absurd h2 (by decide)
      ·rw [h5,hb] at h2; exact absurd h2 (by decide)
    ·rw [decide_eq_false h0] at kz
     have hroot':fe vv * (-fe r * -fe r) = fe uu:=by rw [← hroot]; generalize fe r = a; generalize fe vv = b; grobner
     refine .inl ⟨pL nr Y one t2,⟨-fe r,Go.Fp.fp V,Qwn hu hv hroot'⟩,?_,⟨nr,Y,one,t2,rfl,Enr,Ey,Eone,Et2,by rw [fone]; exact Go.Fp.Rk,?_,?_,?_⟩,(hkey _).2 ⟨hYv,?_⟩⟩
     ·generalize pL nr Y one t2 = L at *
      apply Xg
      apply Zt
      rw [Jc (fn:=a31) rfl]
      simp only [a31,↓Zr,Z0,quiet,cF,↓pF,reduceCtorEq,Qb,Qp,Zi,Zf,Zg,Ze,Zc,Qj,Q3,Qi,Q2,Q6,Q5,↓Zu,↓Zm,↓Z5,↓Z9,↓Z6,↓Z7,cL,Qo,Qn,Qx,Qw,Qu,Ql,Qk,Qv,Qd,Qz,Q0,Qq,Qf,Qh,Qg,Qt,Qs,Qr,Qm,Qe,cJ,cU,hz20,hf0,hz5,hwc,hset,o1,hof,hcan,hbit,hshr,vone,hyy,hD,huu,hdy,hf2,hvv,hr,Zd,Xd,Jy,Xs,Vm,Xt,J2,X2,lk,lm,l0,l1,l5,l6,l7,Mb,Qms,rft,Vl,kz,hnr,ht2,g2,q2,l8]
      rfl
     ·rw [fnr,fone]; show -fe r = -fe r * 1; generalize fe r = a; grobner
     ·rw [fy,fone]; show Go.Fp.fp V = Go.Fp.fp V * 1; generalize Go.Fp.fp V = a; grobner
     ·rw [ft2,fnr,fy,fone]; show -fe r * Go.Fp.fp V = -fe r * Go.Fp.fp V * 1; generalize Go.Fp.fp V = a; generalize fe r = b; grobner
     ·have:=Qk7 h0
      rw [hev'] at this
      show (-fe r).val % 2 = _
      rw [hb]; omega
   ·rw [decide_eq_false hb] at hbit
    refine .inl ⟨pL r Y one t1,⟨fe r,Go.Fp.fp V,Qwn hu hv hroot⟩,?_,⟨r,Y,one,t1,rfl,Er,Ey,Eone,Et1,by rw [fone]; exact Go.Fp.Rk,?_,?_,?_⟩,(hkey _).2 ⟨hYv,?_⟩⟩
    ·generalize pL r Y one t1 = L at *
     apply Xg
     apply Zt
     rw [Jc (fn:=a31) rfl]
     simp only [a31,↓Zr,Z0,quiet,cF,↓pF,reduceCtorEq,Qb,Qp,Zi,Zf,Zg,Ze,Zc,Qj,Q3,Qi,Q2,Q6,Q5,↓Zu,↓Zm,↓Z5,↓Z9,↓Z6,↓Z7,cL,Qo,Qn,Qx,Qw,Qu,Ql,Qk,Qv,Qd,Qz,Q0,Qq,Qf,Qh,Qg,Qt,Qs,Qr,Qm,Qe,cJ,cU,hz20,hf0,hz5,hwc,hset,o1,hof,hcan,hbit,hshr,vone,hyy,hD,huu,hdy,hf2,hvv,hr,Zd,Xd,Jy,Xs,Vm,Xt,J2,X2,lk,lm,l0,l1,l5,l6,l7,Mb,Qms,rft,Vl,ht1,g1,q1]
     rfl
    ·rw [fone]; show fe r = fe r * 1; generalize fe r = a; grobner
    ·rw [fy,fone]; show Go.Fp.fp V = Go.Fp.fp V * 1; generalize Go.Fp.fp V = a; grobner
    ·rw [ft1,fy,fone]; show fe r * Go.Fp.fp V = fe r * Go.Fp.fp V * 1; generalize Go.Fp.fp V = a; generalize fe r = b; grobner
    ·show (fe r).val % 2 = _
     rw [hev']; omega
 ·rw [decide_eq_false hV] at hcan
  refine .inr ⟨O,?_,l0,fun p hp => hV ?_⟩
  ·apply Xg
   apply Zt
   rw [Jc (fn:=a31) rfl]
   simp only [a31,↓Zr,Z0,quiet,cF,↓pF,reduceCtorEq,Qb,Qp,Zi,Zf,Zg,Ze,Zc,Qj,Q3,Qi,Q2,Q6,Q5,↓Zu,↓Zm,↓Z5,↓Z9,↓Z6,↓Z7,cL,Qo,Qn,Qx,Qw,Qu,Ql,Qk,Qv,Qd,Qz,Q0,Qq,Qf,Qh,Qg,Qt,Qs,Qr,Qm,Qe,cJ,cU,hz20,hf0,hz5,hwc,hset,o1,hof,hcan,hbit,hshr,Zd,Xd,Jy,Xs,Vm,Xt,J2,X2,lk,lm,l0,l1,l5,Vl]
   rfl
  ·rw [← ((hkey p).1 hp).1]; exact p.y.isLt
def pf (n:Nat) (L:List Nat) (i:Nat):List Nat:=L.take i ++ Qa (n - i) 0
theorem Dd (n:Nat) (L:List Nat):pf n L 0 = Qa n 0:=by simp [pf]
theorem De {n:Nat} {L:List Nat} (h:L.length = n):pf n L n = L:=by simp [pf,← h]
theorem Db {n:Nat} {L:List Nat} (h:L.length = n) {i:Nat} (hi:i ≤ n):(pf n L i).length = n:=by simp [pf]; omega
theorem Gu {n i x:Nat} {L:List Nat} (h:L.length = n) (hi:i < n) (hx:L[i]? = some x):(pf n L i).set i x = pf n L (i + 1):=by
 unfold pf
 rw [Uk _ _ (by simp; omega)]
 have e1:(L.take i).length = i:=by simp; omega
 rw [e1,Kv]
 have e2:n - i = (n - (i + 1)) + 1:=by omega
 rw [e2,Uh,Tt,Yf,hx]
 simp
structure Nm (l:List Nat):Prop where
 len:l.length = 16
 lt:∀ x ∈ l,x < 65536
theorem Nm.num_lt {l:List Nat} (h:Nm l):num 65536 l < 2 ^ 256:=by
 have:=Go.Ev.num_lt h.lt
 rw [h.len] at this
 exact this
theorem Nm.dig (v:Nat):Nm (dig 65536 16 v):=⟨Kc _ _ _,fun x h => Gs (by decide) h⟩
theorem Nm.eq {l:List Nat} (h:Nm l):l = Go.Ev.dig 65536 16 (num 65536 l):=by
 have:=D1 (B:=65536) (by decide) h.lt
 rw [h.len] at this
 exact this.symm
theorem Nm.inj {l m:List Nat} (h:Nm l) (h':Nm m) (e:num 65536 l = num 65536 m):l = m:=by rw [h.eq,h'.eq,e]
theorem Gz {v:Nat} (h:v < 2 ^ 256):num 65536 (dig 65536 16 v) = v:=by
 rw [U5 (by decide)]; exact Z3 h
def nf (l:List Nat):Go.Fp.Fe:=Go.Fp.fp (num 65536 l)
theorem Qsa {k:List Nat} (xk:∀ x ∈ k,x < 256) {i x y:Nat} (hx:k[2 * i]? = some x) (hy:k[2 * i + 1]? = some y):num 256 k / 65536 ^ i % 65536 = x + 256 * y:=by
 have h1:=Bv (B:=256) (by decide) xk hx
 have h2:=Bv (B:=256) (by decide) xk hy
 have e:(65536:Nat) ^ i = 256 ^ (2 * i):=by rw [show (65536:Nat) = 256 ^ 2 from rfl,← Yp]
 rw [e]
 rw [Kq,← X9] at h2
 omega
def Ys:List Nat:=Qa 16 0
theorem Gf:Qa 16 (Value.int .u64 0) = ns .u64 Ys:=rfl
theorem Rs:fillL (ns .u64 Ys) [] = some (ns .u64 Ys):=rfl
theorem Bi:Ys.length = 16:=rfl
theorem wn {n:Nat} (h:n < 9223372036854775808):IntKind.i64.wrap (n:Int) = n:=Vn h
theorem D9 {n:Nat} (h:n < 18446744073709551616):IntKind.u64.wrap (n:Int) = n:=by rw [Qbs,Z3 h]
theorem Dy {a b:Nat} (h:a + b < 18446744073709551616):IntKind.u64.wrap ((a:Int) + (b:Int)) = ((a + b:Nat):Int):=by rw [← B5]; exact D9 h
theorem R8 {a b:Nat} (h:a * b < 18446744073709551616):IntKind.u64.wrap ((a:Int) * (b:Int)) = ((a * b:Nat):Int):=by rw [← Uq]; exact D9 h
theorem Y0 {a b:Nat} (h:a + b < 9223372036854775808):IntKind.i64.wrap ((a:Int) + (b:Int)) = ((a + b:Nat):Int):=by rw [← B5]; exact wn h
theorem Qgb {a b:Nat} (h:a * b < 9223372036854775808):IntKind.i64.wrap ((a:Int) * (b:Int)) = ((a * b:Nat):Int):=by rw [← Uq]; exact wn h
def Qpc (k o:List Nat) (i:Int) (ex:Env):St:=⟨[(1,.pointer (some ⟨0,0,none⟩)),(2,.pointer (some ⟨1,0,none⟩)),(3,.pointer (some ⟨2,0,none⟩)),(4,.int .i64 i)] ++ ex,[⟨u8s k,true,true,true,1⟩,⟨ns .u64 Ys,true,true,true,1⟩,⟨ns .u64 o,true,true,true,1⟩],[]⟩
theorem Qvt {k:List Nat} {i:Nat} (lk:k.length = 32) (xk:∀ x ∈ k,x < 256) (hi:i < 16) :
  Jl T 0 Qie (Qpc k (pf 16 (dig 65536 16 (num 256 k)) i) i []) = some (.normal,Qpc k (pf 16 (dig 65536 16 (num 256 k)) (i + 1)) ((i + 1:Nat):Int) []):=by
 obtain ⟨x,hx⟩:∃ x,k[2 * i]? = some x:=⟨_,Q1 (by omega)⟩
 obtain ⟨y,hy⟩:∃ y,k[2 * i + 1]? = some y:=⟨_,Q1 (by omega)⟩
 have hx':=xk x (Zk hx)
 have hy':=xk y (Zk hy)
 have hd:=Qsa xk hx hy
 have hg:(dig 65536 16 (num 256 k))[i]? = some (x + 256 * y):=by rw [Uz hi,hd]
 have hstep:=Gu (Kc _ _ _) hi hg
 have hlen:=Db (Kc 65536 16 (num 256 k)) (Wh hi)
 have hset:=Ux .u64 (pf 16 (dig 65536 16 (num 256 k)) i) i (x + 256 * y)
 rw [hstep] at hset
 have hxc:=Wo hx
 have hyc:=Wo hy
 have w1:IntKind.i64.wrap ((i:Int) + 1) = ((i + 1:Nat):Int):=Y0 (b:=1) (by omega)
 have w2:IntKind.i64.wrap (2 * (i:Int)) = ((2 * i:Nat):Int):=Qgb (a:=2) (by omega)
 have w3:IntKind.i64.wrap (((2 * i:Nat):Int) + 1) = ((2 * i + 1:Nat):Int):=Y0 (b:=1) (by omega)
 have w4:IntKind.u64.wrap (x:Int) = (x:Int):=D9 (by omega)
 have w5:IntKind.u64.wrap (y:Int) = (y:Int):=D9 (by omega)
 have w6:IntKind.u64.wrap (256 * (y:Int)) = ((256 * y:Nat):Int):=R8 (a:=256) (by omega)
 have w7:IntKind.u64.wrap ((x:Int) + ((256 * y:Nat):Int)) = ((x + 256 * y:Nat):Int):=Dy (by omega)
 have e1:((i:Int) < 16) = True:=eq_true (by omega)
 have e2:(((2 * i:Nat):Int) < 32) = True:=eq_true (by omega)
 have e3:(((2 * i + 1:Nat):Int) < 32) = True:=eq_true (by omega)
 have e4:(i ≤ 15) = True:=eq_true (by omega)
 generalize pf 16 (dig 65536 16 (num 256 k)) i = o at *
 generalize hj:2 * i = j at *
 generalize hj1:j + 1 = j1 at *
 generalize hv:256 * y = v at *
 simp only [Qpc,Qie,Z0,quiet,cF,↓pF,reduceCtorEq,Qb,Qp,Zi,Zf,Zg,Ze,Zc,Qj,Q3,Qi,Q2,Q6,Q5,↓Zo,↓Zn,↓Zw,↓Zz,↓Zx,↓Zy,cL,Qo,Qn,Qx,Qw,Qu,Ql,Qk,Qv,Qd,Qz,Q0,Qq,Qf,Qh,Qg,Qt,Qs,Qr,Qm,Qe,cJ,hxc,hyc,w1,w2,w3,w4,w5,w6,w7,e1,e2,e3,e4,hset,J2,hlen]
theorem rof_v {k:List Nat} (lk:k.length = 32) (xk:∀ x ∈ k,x < 256):Vd T 70 [.agg (u8s k).toArray] = some (eV (dig 65536 16 (num 256 k % 2 ^ 255))):=by
 have hb:=Wb (T:=T) (base:=0) (id:=0) (body:=Qie) (fun i => Qpc k (pf 16 (dig 65536 16 (num 256 k)) i) i []) (s':=Qpc k (dig 65536 16 (num 256 k)) 16 [(7,.bool false)]) 16
  (fun i hi => Qvt lk xk hi) (by
   rw [De (Kc _ _ _)]
   simp only [Qpc,Qie,Z0,quiet,cF,↓pF,reduceCtorEq,Qb,Qp,Zi,Zf,Zg,Ze,Zc,Qj,Q3,Qi,Q2,Q6,Q5,↓Zo,↓Zn,↓Zw,↓Zz,↓Zx,↓Zy,cL,Qo,Qn,Qx,Qw,Qu,Ql,Qk,Qv,Qd,Qz,Q0,Qq,Qf,Qh,Qg,Qt,Qs,Qr,Qm,Qe])
 rw [Dd] at hb
 have hV:=num_lt xk
 rw [lk] at hV
 have hN:=Nm.dig (num 256 k)
 obtain ⟨w,hw⟩:∃ w,(dig 65536 16 (num 256 k))[15]? = some w:=⟨_,Q1 (by rw [Kc]; omega)⟩
 have hw':=hN.lt w (Zk hw)
 have hwv:w = num 256 k / 65536 ^ 15 % 65536:=by rw [Uz (by decide)] at hw; exact (G0 hw).symm
 have hs:=Gj (B:=65536) (w % 32768) hw
 rw [Gz hV] at hs
 have hfin:(dig 65536 16 (num 256 k)).set 15 (w % 32768) = dig 65536 16 (num 256 k % 2 ^ 255):=by
  have hNs:Nm ((dig 65536 16 (num 256 k)).set 15 (w % 32768)):=⟨by rw [Xe,Kc],Da hN.lt (by omega)⟩
  refine hNs.eq.trans (congrArg (dig 65536 16) ?_)
  have e15:(65536:Nat) ^ 15 = 1766847064778384329583297500742918515827483896875618958121606201292619776:=by decide
  have e255:(2:Nat) ^ 255 = 57896044618658097711785492504343953926634992332820282019728792003956564819968:=by decide
  have e256:(256:Nat) ^ 32 = 115792089237316195423570985008687907853269984665640564039457584007913129639936:=by decide
  have hq:w = num 256 k / 65536 ^ 15:=by
   rw [e15] at hwv ⊢
   rw [e256] at hV
   omega
  have hq2:num 256 k / 2 ^ 255 = w / 32768:=by
   rw [hq,e15,e255]
   omega
  have hdm:=Vr (num 256 k) (2 ^ 255)
  rw [hq2] at hdm
  rw [e15] at hs
  rw [e255] at *
  omega
 have hset:=Ux .u64 (dig 65536 16 (num 256 k)) 15 (w % 32768)
 rw [hfin] at hset
 have hwc:=Yo (k := .u64) hw
 have l1:=Kc 65536 16 (num 256 k)
 have l2:=Kc 65536 16 (num 256 k % 2 ^ 255)
 have hm:((w:Int).tmod 32768) = ((w % 32768:Nat):Int):=rfl
 have wm:IntKind.u64.wrap ((w % 32768:Nat):Int) = ((w % 32768:Nat):Int):=D9 (by omega)
 simp only [Qpc,Zb,Za,Xu] at hb
 have hz:=Gf
 have hf:=Rs
 have lz:=Bi
 rw [show Qa 16 0 = Ys from rfl] at hb
 generalize Ys = Z at *
 generalize dig 65536 16 (num 256 k) = D at *
 generalize dig 65536 16 (num 256 k % 2 ^ 255) = R at *
 apply Xg
 apply Zt
 rw [Jc (fn:=a65) rfl]
 simp only [a65,↓Zr,Z0,quiet,cF,↓pF,reduceCtorEq,Qb,Qp,Zi,Zf,Zg,Ze,Zc,Qj,Q3,Qi,Q2,Q6,Q5,↓Zu,↓Zm,↓Z5,↓Z9,↓Z6,↓Z7,cL,Qo,Qn,Qx,Qw,Qu,Ql,Qk,Qv,Qd,Qz,Q0,Qq,Qf,Qh,Qg,Qt,Qs,Qr,Qm,Qe,cJ,hz,hf,hb,hwc,hm,wm,hset,Zd,Xd,Jy,Xs,Vm,Xt,J2,X2,lk,l1,l2,lz,Vl]
 rfl
theorem Qfz {a b:Nat} (h:b ≤ a) (ha:a < 18446744073709551616):IntKind.u64.wrap ((a:Int) - (b:Int)) = ((a - b:Nat):Int):=by rw [Rt]; omega
theorem Qfo {n:Nat} {p q:List Nat} (hp:p.length = n) (hq:q.length = n):Y2 (Qa n true) (ns .u64 p) (ns .u64 q) = some (p == q):=by
 induction n generalizing p q with
 | zero => cases p with
  | nil => cases q with
   | nil => rfl
   | cons => cases hq
  | cons => cases hp
 | succ n ih => cases p with
  | nil => cases hp
  | cons a p => cases q with
   | nil => cases hq
   | cons b q =>
    have:=ih (p:=p) (q:=q) (by simpa using hp) (by simpa using hq)
    rw [Dg,Dg,Uh]
    simp only [Y2,this,Qal,if_true,Q4,List.cons_beq_cons]
    congr 2
    by_cases h:a = b
    ·subst h; simp
    ·have h':¬ (a:Int) = (b:Int):=by omega
     rw [beq_eq_false_iff_ne.2 h,beq_eq_false_iff_ne.2 h']
def By:List Nat:=dig 65536 16 Go.Fp.P
theorem Hd:Nm By:=Nm.dig _
theorem Mg:num 65536 By = Go.Fp.P:=by decide +kernel
def Qpa (o:List Nat) (i:Int) (ex:Env):St:=⟨[(0,.pointer (some ⟨0,0,none⟩)),(1,.pointer (some ⟨1,0,none⟩)),(2,.int .i64 i)] ++ ex,[⟨ns .u64 Ys,true,true,true,1⟩,⟨ns .u64 o,true,true,true,1⟩],[]⟩
theorem Qvr {i:Nat} (hi:i < 16) :
  Jl T 0 Qh3 (Qpa (pf 16 (Qa 16 65535) i) i []) = some (.normal,Qpa (pf 16 (Qa 16 65535) (i + 1)) ((i + 1:Nat):Int) []):=by
 have hl:(Qa 16 65535).length = 16:=rfl
 have hg:(Qa 16 65535)[i]? = some 65535:=by rw [Qcm,if_pos hi]
 have hstep:=Gu hl hi hg
 have hlen:=Db hl (Wh hi)
 have hset:=Ux .u64 (pf 16 (Qa 16 65535) i) i 65535
 rw [hstep] at hset
 have hset':(ns .u64 (pf 16 (Qa 16 65535) i)).set i (.int .u64 65535) = ns .u64 (pf 16 (Qa 16 65535) (i + 1)):=hset
 clear hset
 have w1:IntKind.i64.wrap ((i:Int) + 1) = ((i + 1:Nat):Int):=Y0 (b:=1) (by omega)
 have e1:((i:Int) < 16) = True:=eq_true (by omega)
 have e4:(i ≤ 15) = True:=eq_true (by omega)
 generalize pf 16 (Qa 16 65535) i = o at *
 simp only [Qpa,Qh3,Z0,quiet,cF,↓pF,reduceCtorEq,Qb,Qp,Zi,Zf,Zg,Ze,Zc,Qj,Q3,Qi,Q2,Q6,Q5,↓Zo,↓Zn,↓Zw,↓Zz,↓Zx,↓Zy,cL,Qo,Qn,Qx,Qw,Qu,Ql,Qk,Qv,Qd,Qz,Q0,Qq,Qf,Qh,Qg,Qt,Qs,Qr,Qm,Qe,cJ,w1,e1,e4,hset',J2,hlen]
theorem T3:Vd T 93 [] = some (eV By):=by
 have hb:=Wb (T:=T) (base:=0) (id:=0) (body:=Qh3) (fun i => Qpa (pf 16 (Qa 16 65535) i) i []) (s':=Qpa (Qa 16 65535) 16 [(5,.bool false)]) 16
  (fun i hi => Qvr hi) (by
   rw [De (n:=16) (L:=Qa 16 65535) rfl]
   simp only [Qpa,Qh3,Z0,quiet,cF,↓pF,reduceCtorEq,Qb,Qp,Zi,Zf,Zg,Ze,Zc,Qj,Q3,Qi,Q2,Q6,Q5,↓Zo,↓Zn,↓Zw,↓Zz,↓Zx,↓Zy,cL,Qo,Qn,Qx,Qw,Qu,Ql,Qk,Qv,Qd,Qz,Q0,Qq,Qf,Qh,Qg,Qt,Qs,Qr,Qm,Qe])
 rw [Dd,show Qa 16 0 = Ys from rfl] at hb
 simp only [Qpa,Zb,Za,Xu] at hb
 have hz:=Gf
 have hf:=Rs
 have lz:=Bi
 have s1:(ns .u64 (Qa 16 65535)).set 0 (.int .u64 65517) = ns .u64 (65517 :: Qa 15 65535):=rfl
 have s2:(ns .u64 (65517 :: Qa 15 65535)).set 15 (.int .u64 32767) = ns .u64 By:=by
  have:By = (65517 :: Qa 15 65535).set 15 32767:=by decide +kernel
  rw [this]; rfl
 have l1:(Qa 16 65535).length = 16:=rfl
 have l2:(65517 :: Qa 15 65535).length = 16:=rfl
 have l3:=Hd.len
 generalize Ys = Z at *
 generalize By = R at *
 generalize 65517 :: Qa 15 65535 = M at *
 generalize Qa 16 65535 = L at *
 apply Xg
 apply Zt
 rw [Jc (fn:=a87) rfl]
 simp only [a87,↓Zr,Z0,quiet,cF,↓pF,reduceCtorEq,Qb,Qp,Zi,Zf,Zg,Ze,Zc,Qj,Q3,Qi,Q2,Q6,Q5,↓Zu,↓Zm,↓Z5,↓Z9,↓Z6,↓Z7,cL,Qo,Qn,Qx,Qw,Qu,Ql,Qk,Qv,Qd,Qz,Q0,Qq,Qf,Qh,Qg,Qt,Qs,Qr,Qm,Qe,cJ,hz,hf,hb,s1,s2,Zd,Xd,Jy,Xs,Vm,Xt,J2,l1,l2,l3,lz,Vl]
 rfl
def Wr (n:Nat):List Nat:=n % 65536 :: n / 65536 % 65536 :: Qa 14 0
theorem Bm (n:Nat):Nm (Wr n):=⟨rfl,fun x hx => by
 simp only [Wr,W0,List.mem_replicate] at hx
 omega⟩
theorem Gl {n:Nat} (h:n < 4294967296):num 65536 (Wr n) = n:=by
 have:num 65536 (Qa 14 0) = 0:=by decide
 simp only [Wr,num,this]
 omega
theorem Qo7 (a b:Nat):fillL (ns .u64 Ys) [(0,1,.int .u64 (a:Int)),(1,1,.int .u64 (b:Int))] = some (ns .u64 (a :: b :: Qa 14 0)):=rfl
theorem Ho (n:Nat) (hn:n < 18446744073709551616):Vd T 59 [.int .u64 (n:Nat)] = some (eV (Wr n)):=by
 have hz:=Gf
 have lz:=Bi
 have hf:=Qo7 (n % 65536) (n / 65536 % 65536)
 have e1:(n:Int).tmod 65536 = ((n % 65536:Nat):Int):=rfl
 have e2:(n:Int).tdiv 65536 = ((n / 65536:Nat):Int):=rfl
 have e3:(((n / 65536:Nat):Int)).tmod 65536 = ((n / 65536 % 65536:Nat):Int):=rfl
 have w1:IntKind.u64.wrap ((n % 65536:Nat):Int) = ((n % 65536:Nat):Int):=D9 (by omega)
 have w2:IntKind.u64.wrap ((n / 65536:Nat):Int) = ((n / 65536:Nat):Int):=D9 (by omega)
 have w3:IntKind.u64.wrap ((n / 65536 % 65536:Nat):Int) = ((n / 65536 % 65536:Nat):Int):=D9 (by omega)
 have hl:(n % 65536 :: n / 65536 % 65536 :: Qa 14 0).length = 16:=rfl
 unfold Wr
 generalize Ys = Z at *
 generalize n % 65536 :: n / 65536 % 65536 :: Qa 14 0 = R at *
 apply Xg
 apply Zt
 rw [Jc (fn:=a70) rfl]
 simp only [a70,↓Zr,Z0,quiet,cF,↓pF,reduceCtorEq,Qb,Qp,Zi,Zf,Zg,Ze,Zc,Qj,Q3,Qi,Q2,Q6,Q5,↓Zu,↓Zm,↓Z5,↓Z9,↓Z6,↓Z7,cL,Qo,Qn,Qx,Qw,Qu,Ql,Qk,Qv,Qd,Qz,Q0,Qq,Qf,Qh,Qg,Qt,Qs,Qr,Qm,Qe,cJ,hz,hf,e1,e2,e3,w1,w2,w3,Zd,Xd,Jy,Xs,Vm,Xt,J2,hl,lz,Vl]
 rfl
theorem Qwg {n i x:Nat} {o:List Nat} (h:o.length = i) (hi:i < n):(o ++ Qa (n - i) 0).set i x = (o ++ [x]) ++ Qa (n - (i + 1)) 0:=by
 rw [Uk _ _ (by omega),h,Kv]
 have e2:n - i = (n - (i + 1)) + 1:=by omega
 rw [e2,Uh,Tt]
 simp
theorem Q0h {n i:Nat} {o:List Nat} (h:o.length = i) (hi:i ≤ n):(o ++ Qa (n - i) 0).length = n:=by simp; omega
theorem Qnh (B:Nat) (o:List Nat) (x:Nat):num B (o ++ [x]) = num B o + B ^ o.length * x:=by
 rw [B9]; simp [num]
def rmI (a b o:List Nat) (r:Nat) (i:Int) (ex:Env):St:=⟨[(2,.pointer (some ⟨0,0,none⟩)),(3,.pointer (some ⟨1,0,none⟩)),(4,.pointer (some ⟨2,0,none⟩)),(5,.pointer (some ⟨3,0,none⟩)),(6,.int .u64 r),(7,.int .i64 i)] ++ ex,[⟨ns .u64 a,true,true,true,1⟩,⟨ns .u64 b,true,true,true,1⟩,⟨ns .u64 Ys,true,true,true,1⟩,⟨ns .u64 o,true,true,true,1⟩],[]⟩
theorem Qzx {a b o:List Nat} {i r:Nat} (ha:Nm a) (hb:Nm b) (hi:i < 16) (ho:o.length = i) (hr:r ≤ 1) (xo:∀ x ∈ o,x < 65536)
  (hn:num 65536 (a.take i) + 65536 ^ i * r = num 65536 (b.take i) + num 65536 o) :
  ∃ x r',Jl T 0 Qhz (rmI a b (o ++ Qa (16 - i) 0) r i []) = some (.normal,rmI a b ((o ++ [x]) ++ Qa (16 - (i + 1)) 0) r' ((i + 1:Nat):Int) []) ∧ x < 65536 ∧ r' ≤ 1 ∧
   num 65536 (a.take (i + 1)) + 65536 ^ (i + 1) * r' = num 65536 (b.take (i + 1)) + num 65536 (o ++ [x]):=by
 obtain ⟨x,hx⟩:∃ x,a[i]? = some x:=⟨_,Q1 (by rw [ha.len]; omega)⟩
 obtain ⟨y,hy⟩:∃ y,b[i]? = some y:=⟨_,Q1 (by rw [hb.len]; omega)⟩
 have hx':=ha.lt x (Zk hx)
 have hy':=hb.lt y (Zk hy)
 refine ⟨(x + 65536 - y - r) % 65536,1 - (x + 65536 - y - r) / 65536,?_,by omega,by omega,?_⟩
 ·have hset:=Ux .u64 (o ++ Qa (16 - i) 0) i ((x + 65536 - y - r) % 65536)
  rw [Qwg ho hi] at hset
  have hlen:=Q0h ho (Wh hi)
  have hxc:=Yo (k := .u64) hx
  have hyc:=Yo (k := .u64) hy
  have l1:=ha.len
  have l2:=hb.len
  have w1:IntKind.i64.wrap ((i:Int) + 1) = ((i + 1:Nat):Int):=Y0 (b:=1) (by omega)
  have w2:IntKind.u64.wrap ((x:Int) + 65536) = ((x + 65536:Nat):Int):=Dy (b:=65536) (by omega)
  have w3:IntKind.u64.wrap (((x + 65536:Nat):Int) - (y:Int)) = ((x + 65536 - y:Nat):Int):=Qfz (by omega) (by omega)
  have w4:IntKind.u64.wrap (((x + 65536 - y:Nat):Int) - (r:Int)) = ((x + 65536 - y - r:Nat):Int):=Qfz (by omega) (by omega)
  have w5:(((x + 65536 - y - r:Nat):Int)).tmod 65536 = (((x + 65536 - y - r) % 65536:Nat):Int):=rfl
  have w6:IntKind.u64.wrap ((((x + 65536 - y - r:Nat):Int)).tdiv 65536) = (((x + 65536 - y - r) / 65536:Nat):Int):=D9 (n:=(x + 65536 - y - r) / 65536) (by omega)
  have w7:IntKind.u64.wrap (1 - (((x + 65536 - y - r) / 65536:Nat):Int)) = ((1 - (x + 65536 - y - r) / 65536:Nat):Int):=Qfz (a:=1) (by omega) (by omega)
  have e1:((i:Int) < 16) = True:=eq_true (by omega)
  have e4:(i ≤ 15) = True:=eq_true (by omega)
  generalize (o ++ Qa (16 - i) 0) = O at *
  generalize (o ++ [(x + 65536 - y - r) % 65536] ++ Qa (16 - (i + 1)) 0) = O' at *
  generalize (x + 65536 - y - r) / 65536 = q at *
  generalize (x + 65536 - y - r) % 65536 = m at *
  generalize x + 65536 - y - r = v1 at *
  generalize x + 65536 - y = v2 at *
  generalize x + 65536 = v3 at *
  generalize 1 - q = v4 at *
  generalize i + 1 = i1 at *
  simp only [rmI,Qhz,Z0,quiet,cF,↓pF,reduceCtorEq,Qb,Qp,Zi,Zf,Zg,Ze,Zc,Qj,Q3,Qi,Q2,Q6,Q5,↓Zo,↓Zn,↓Zw,↓Zz,↓Zx,↓Zy,cL,Qo,Qn,Qx,Qw,Qu,Ql,Qk,Qv,Qd,Qz,Q0,Qq,Qf,Qh,Qg,Qt,Qs,Qr,Qm,Qe,cJ,hxc,hyc,w1,w2,w3,w4,w5,w6,w7,e1,e4,hset,J2,hlen,l1,l2]
 ·rw [Wn hx,Wn hy,Qnh,ho]
  have h:x + 65536 * (1 - (x + 65536 - y - r) / 65536) = y + r + (x + 65536 - y - r) % 65536:=by omega
  generalize (x + 65536 - y - r) % 65536 = m at *
  generalize 1 - (x + 65536 - y - r) / 65536 = q at *
  have h2:=congrArg (fun t => t * 65536 ^ i) h
  simp only [Kt] at h2
  rw [Kq]
  generalize 65536 ^ i = p at *
  rw [K7 p r] at hn
  rw [Vo p,K7 p (65536 * q),K7 p m]
  omega
theorem Qgq {a b:List Nat} (ha:Nm a) (hb:Nm b) (h:num 65536 b ≤ num 65536 a):Vd T 92 [eV a,eV b] = some (eV (dig 65536 16 (num 65536 a - num 65536 b))):=by
 obtain ⟨st,hl,o,r,rfl,h1,h2,h3,h4⟩:=Vi (T:=T) (base:=0) (id:=0) (body:=Qhz)
  (fun i st => ∃ (o:List Nat) (r:Nat),st = rmI a b (o ++ Qa (16 - i) 0) r i [] ∧ o.length = i ∧ r ≤ 1 ∧ (∀ x ∈ o,x < 65536) ∧ num 65536 (a.take i) + 65536 ^ i * r = num 65536 (b.take i) + num 65536 o)
  (Q:=fun st => ∃ (o:List Nat) (r:Nat),st = rmI a b o r 16 [(11,.bool false)] ∧ o.length = 16 ∧ r ≤ 1 ∧ (∀ x ∈ o,x < 65536) ∧ num 65536 a + 65536 ^ 16 * r = num 65536 b + num 65536 o)
  16 (s:=rmI a b Ys 0 0 []) ⟨[],0,rfl,rfl,by omega,by simp,by simp [num]⟩
  (fun i st hi hs => by
   obtain ⟨o,r,rfl,h1,h2,h3,h4⟩:=hs
   obtain ⟨x,r',g1,g2,g3,g4⟩:=Qzx ha hb hi h1 h2 h3 h4
   refine ⟨_,g1,o ++ [x],r',rfl,by simp [h1],g3,?_,g4⟩
   intro y hy
   rcases Jb.1 hy with hy | hy
   ·exact h3 y hy
   ·rw [Bu.1 hy]; exact g2)
  (fun st hs => by
   obtain ⟨o,r,rfl,h1,h2,h3,h4⟩:=hs
   rw [Zl (by rw [ha.len]; omega),Zl (by rw [hb.len]; omega)] at h4
   refine ⟨_,?_,o,r,rfl,h1,h2,h3,h4⟩
   rw [Kv,List.replicate_zero,Kw]
   simp only [rmI,Qhz,Z0,quiet,cF,↓pF,reduceCtorEq,Qb,Qp,Zi,Zf,Zg,Ze,Zc,Qj,Q3,Qi,Q2,Q6,Q5,↓Zo,↓Zn,↓Zw,↓Zz,↓Zx,↓Zy,cL,Qo,Qn,Qx,Qw,Qu,Ql,Qk,Qv,Qd,Qz,Q0,Qq,Qf,Qh,Qg,Qt,Qs,Qr,Qm,Qe])
 have hN:Nm o:=⟨h1,h3⟩
 have hlt:=hN.num_lt
 have hr:r = 0:=by
  rcases Yd r with h0 | h0
  ·exact h0
  ·exfalso
   have:r = 1:=by omega
   subst this
   rw [show (65536:Nat) ^ 16 = 2 ^ 256 by decide] at h4
   generalize (2:Nat) ^ 256 = M at *
   omega
 subst hr
 have ho:o = dig 65536 16 (num 65536 a - num 65536 b):=by
  rw [hN.eq]
  refine congrArg (dig 65536 16) ?_
  generalize (65536:Nat) ^ 16 = M at *
  omega
 rw [← ho]
 have hz:=Gf
 have hf:=Rs
 have lz:=Bi
 have l1:=ha.len
 have l2:=hb.len
 simp only [rmI,Zb,Za,Xu] at hl
 generalize Ys = Z at *
 apply Xg
 apply Zt
 rw [Jc (fn:=a90) rfl]
 simp only [a90,↓Zr,Z0,quiet,cF,↓pF,reduceCtorEq,Qb,Qp,Zi,Zf,Zg,Ze,Zc,Qj,Q3,Qi,Q2,Q6,Q5,↓Zu,↓Zm,↓Z5,↓Z9,↓Z6,↓Z7,cL,Qo,Qn,Qx,Qw,Qu,Ql,Qk,Qv,Qd,Qz,Q0,Qq,Qf,Qh,Qg,Qt,Qs,Qr,Qm,Qe,cJ,hz,hf,hl,Zd,Xd,Jy,Xs,Vm,Xt,J2,l1,l2,h1,lz,Vl]
 rfl
end Go.Ev.YtgacigcbglflkaaGreat
set_option linter.unusedSimpArgs false
set_option linter.unusedVariables false
namespace Go.Ev.YtgacigcbglflkaaGreat
open Go Go.Ev
attribute [local congr] W7 Ul W6 Um Wv
set_option maxRecDepth 100000
def Y7 (x r:Nat):Nat:=x / 2 ^ r + x * 2 ^ (64 - r) % 18446744073709551616
def sg0 (x:Nat):Nat:=Y7 x 1 ^^^ Y7 x 8 ^^^ (x / 2 ^ 7)
def sg1 (x:Nat):Nat:=Y7 x 19 ^^^ Y7 x 61 ^^^ (x / 2 ^ 6)
def Sg0 (x:Nat):Nat:=Y7 x 28 ^^^ Y7 x 34 ^^^ Y7 x 39
def Sg1 (x:Nat):Nat:=Y7 x 14 ^^^ Y7 x 18 ^^^ Y7 x 41
def chO (e f g:Nat):Nat:=(e &&& f) ^^^ ((18446744073709551615 ^^^ e) &&& g)
def maO (a b c:Nat):Nat:=(a &&& b) ^^^ (a &&& c) ^^^ (b &&& c)
def be (l:List Nat):Nat:=l.foldl (fun a x => a * 256 + x) 0
def Q3m (w:List Nat):Nat:=(w.getD (w.length - 16) 0 + w.getD (w.length - 7) 0 + sg0 (w.getD (w.length - 15) 0) + sg1 (w.getD (w.length - 2) 0)) % 18446744073709551616
def Tz:Nat → List Nat → List Nat
 | 0,l => l
 | n + 1,l => Tz n l ++ [Q3m (Tz n l)]
def Qjg (b:List Nat):List Nat:=(Y5 16).map fun i => be ((b.drop (8 * i)).take 8)
def Wc (b:List Nat):List Nat:=Tz 64 (Qjg b)
def Du:List Nat:=[4794697086780616226,8158064640168781261,13096744586834688815,16840607885511220156,4131703408338449720,6480981068601479193,10538285296894168987,12329834152419229976,15566598209576043074,1334009975649890238,2608012711638119052,6128411473006802146,8268148722764581231,9286055187155687089,11230858885718282805,13951009754708518548,16472876342353939154,17275323862435702243,1135362057144423861,2597628984639134821,3308224258029322869,5365058923640841347,6679025012923562964,8573033837759648693,10970295158949994411,12119686244451234320,12683024718118986047,13788192230050041572,14330467153632333762,15395433587784984357,489312712824947311,1452737877330783856,2861767655752347644,3322285676063803686,5560940570517711597,5996557281743188959,7280758554555802590,8532644243296465576,9350256976987008742,10552545826968843579,11727347734174303076,12113106623233404929,14000437183269869457,14369950271660146224,15101387698204529176,15463397548674623760,17586052441742319658,1182934255886127544,1847814050463011016,2177327727835720531,2830643537854262169,3796741975233480872,4115178125766777443,5681478168544905931,6601373596472566643,7507060721942968483,8399075790359081724,8693463985226723168,9568029438360202098,10144078919501101548,10430055236837252648,11840083180663258601,13761210420658862357,14299343276471374635,14566680578165727644,15097957966210449927,16922976911328602910,17689382322260857208,500013540394364858,748580250866718886,1242879168328830382,1977374033974150939,2944078676154940804,3659926193048069267,4368137639120453308,4836135668995329356,5532061633213252278,6448918945643986474,6902733635092675308,7801388544844847127]
def t1O (s:List Nat) (k w:Nat):Nat:=(s.getD 7 0 + Sg1 (s.getD 4 0) + chO (s.getD 4 0) (s.getD 5 0) (s.getD 6 0) + k + w) % 18446744073709551616
def t2O (s:List Nat):Nat:=(Sg0 (s.getD 0 0) + maO (s.getD 0 0) (s.getD 1 0) (s.getD 2 0)) % 18446744073709551616
def rnd (s:List Nat) (k w:Nat):List Nat:=[(t1O s k w + t2O s) % 18446744073709551616,s.getD 0 0,s.getD 1 0,s.getD 2 0,(s.getD 3 0 + t1O s k w) % 18446744073709551616,s.getD 4 0,s.getD 5 0,s.getD 6 0]
def T4:Nat → List Nat → List Nat → List Nat
 | 0,_,s => s
 | n + 1,w,s => rnd (T4 n w s) (Du.getD n 0) (w.getD n 0)
def blk (s b:List Nat):List Nat:=Gc (fun x y => (x + y) % 18446744073709551616) s (T4 80 (Wc b) s)
def Hy:List Nat:=[7640891576956012808,13503953896175478587,4354685564936845355,11912009170470909681,5840696475078001361,11170449401992604703,2270897969802886507,6620516959819538809]
def stK:Nat → List Nat → List Nat
 | 0,_ => Hy
 | n + 1,b => blk (stK n b) ((b.drop (128 * n)).take 128)
def Gd (n:Nat):Nat:=(239 - n % 128) % 128
def Rj (n:Nat):List Nat:=128 :: (Qa (Gd n) 0 ++ ((Y5 16).map fun i => 8 * n / 256 ^ (15 - i) % 256))
def sha (b:List Nat):List Nat:=(Y5 64).map fun i => (stK ((b ++ Rj b.length).length / 128) (b ++ Rj b.length)).getD (i / 8) 0 / 256 ^ (7 - i % 8) % 256
theorem Qda:Du.length = 80:=rfl
theorem Qsg:Hy.length = 8:=rfl
theorem Uu {x r:Nat} (hx:x < 18446744073709551616) (hr:0 < r) (hr':r ≤ 63):Y7 x r < 18446744073709551616:=by
 unfold Y7
 have e:(18446744073709551616:Nat) = 2 ^ r * 2 ^ (64 - r):=by rw [← Wl,show r + (64 - r) = 64 by omega]
 have h1:x / 2 ^ r < 2 ^ (64 - r):=Nat.div_lt_of_lt_mul (by rw [← e]; exact hx)
 have h2:x * 2 ^ (64 - r) % 18446744073709551616 = (x % 2 ^ r) * 2 ^ (64 - r):=by rw [e,Nat.mul_mod_mul_right]
 rw [h2]
 have h3:x % 2 ^ r + 1 ≤ 2 ^ r:=Jk _ (Ws (by decide))
 have h4:=Vt (2 ^ (64 - r)) h3
 rw [← e,Kt,Wm] at h4
 omega
theorem Qzv {x r:Nat} (hx:x < 18446744073709551616) (hr:0 < r) (hr':r ≤ 63):(x * 2 ^ (64 - r) % 18446744073709551616) ||| (x / 2 ^ r) = Y7 x r:=by
 have e:(18446744073709551616:Nat) = 2 ^ r * 2 ^ (64 - r):=by rw [← Wl,show r + (64 - r) = 64 by omega]
 have h1:x / 2 ^ r < 2 ^ (64 - r):=Nat.div_lt_of_lt_mul (by rw [← e]; exact hx)
 have h2:x * 2 ^ (64 - r) % 18446744073709551616 = (x % 2 ^ r) * 2 ^ (64 - r):=by rw [e,Nat.mul_mod_mul_right]
 unfold Y7
 rw [h2,Qaa h1,Gb]
theorem Qbq {x r:Nat} (hx:x < 18446744073709551616) (hr:0 < r) (hr':r ≤ 63):Vd T 109 [.int .u64 x,.int .i64 (-(r:Int))] = some (.int .u64 (Y7 x r:Nat)):=by
 have hw:IntKind.u64.wrap (-(r:Int)) = ((18446744073709551616 - r:Nat):Int):=by rw [Rt]; omega
 have hm:Vz .and .u64 ((18446744073709551616 - r:Nat):Int) 63 = ((64 - r:Nat):Int):=by
  have:=Qb9 .u64 rfl 6 (18446744073709551616 - r) (by decide)
  have e:((2 ^ 6 - 1:Nat):Int) = 63:=by decide
  rw [e] at this
  rw [this]
  have:(18446744073709551616 - r) % 2 ^ 6 = 64 - r:=by omega
  rw [this]
 have n1:(((64 - r:Nat):Int) < 0) = False:=eq_false (by omega)
 have h64:min (64 - r) IntKind.u64.bits = 64 - r:=V8 (by show 64 - r ≤ 64; omega)
 have hr64:min r IntKind.u64.bits = r:=V8 (by show r ≤ 64; omega)
 have hs1:IntKind.u64.wrap ((x:Int) * 2 ^ (64 - r)) = ((x * 2 ^ (64 - r) % 18446744073709551616:Nat):Int):=by
  rw [← Qbs,Uq,Qqz]; rfl
 have hsub:IntKind.u64.wrap (64 - ((64 - r:Nat):Int)) = (r:Int):=by rw [Rt]; omega
 have n2:((r:Int) < 0) = False:=eq_false (by omega)
 have hs2:(x:Int).fdiv (2 ^ r) = ((x / 2 ^ r:Nat):Int):=by
  rw [← Qlh,Qqz]; rfl
 have hlt1:x * 2 ^ (64 - r) % 18446744073709551616 < 2 ^ IntKind.u64.bits:=Jk _ (by decide)
 have hlt2:x / 2 ^ r < 2 ^ IntKind.u64.bits:=Wk (W9 _ _) hx
 have ho:Vz .or .u64 ((x * 2 ^ (64 - r) % 18446744073709551616:Nat):Int) ((x / 2 ^ r:Nat):Int) = ((Y7 x r:Nat):Int):=by
  rw [Gk rfl hlt1 hlt2,Qzv hx hr hr']
 generalize hq:64 - r = q at *
 generalize hu:18446744073709551616 - r = u at *
 apply Xg
 apply Zt
 rw [Jc (fn:=Q26) rfl]
 simp only [Q26,↓Zr,Z0,quiet,cF,↓pF,reduceCtorEq,Qb,Qp,Zi,Zf,Zg,Ze,Zc,Qj,Q3,Qi,Q2,Q6,Q5,↓Zo,↓Zn,↓Zw,↓Zz,↓Zx,↓Zy,cL,Qo,Qn,Qx,Qw,Qu,Ql,Qk,Qv,Qd,Qz,Q0,Qq,Qf,Qh,Qg,Qt,Qs,Qr,Qm,Qe,cJ,hw,hm,n1,h64,hs1,hsub,n2,hr64,hs2,ho,Jh]
 rfl
theorem Qj8:fillL (Qa 80 (Value.int .u64 0)) [(0,1,.int .u64 4794697086780616226),(1,1,.int .u64 8158064640168781261),(2,1,.int .u64 13096744586834688815),(3,1,.int .u64 16840607885511220156),(4,1,.int .u64 4131703408338449720),(5,1,.int .u64 6480981068601479193),(6,1,.int .u64 10538285296894168987),(7,1,.int .u64 12329834152419229976),(8,1,.int .u64 15566598209576043074),(9,1,.int .u64 1334009975649890238),(10,1,.int .u64 2608012711638119052),(11,1,.int .u64 6128411473006802146),(12,1,.int .u64 8268148722764581231),(13,1,.int .u64 9286055187155687089),(14,1,.int .u64 11230858885718282805),(15,1,.int .u64 13951009754708518548),(16,1,.int .u64 16472876342353939154),(17,1,.int .u64 17275323862435702243),(18,1,.int .u64 1135362057144423861),(19,1,.int .u64 2597628984639134821),(20,1,.int .u64 3308224258029322869),(21,1,.int .u64 5365058923640841347),(22,1,.int .u64 6679025012923562964),(23,1,.int .u64 8573033837759648693),(24,1,.int .u64 10970295158949994411),(25,1,.int .u64 12119686244451234320),(26,1,.int .u64 12683024718118986047),(27,1,.int .u64 13788192230050041572),(28,1,.int .u64 14330467153632333762),(29,1,.int .u64 15395433587784984357),(30,1,.int .u64 489312712824947311),(31,1,.int .u64 1452737877330783856),(32,1,.int .u64 2861767655752347644),(33,1,.int .u64 3322285676063803686),(34,1,.int .u64 5560940570517711597),(35,1,.int .u64 5996557281743188959),(36,1,.int .u64 7280758554555802590),(37,1,.int .u64 8532644243296465576),(38,1,.int .u64 9350256976987008742),(39,1,.int .u64 10552545826968843579),(40,1,.int .u64 11727347734174303076),(41,1,.int .u64 12113106623233404929),(42,1,.int .u64 14000437183269869457),(43,1,.int .u64 14369950271660146224),(44,1,.int .u64 15101387698204529176),(45,1,.int .u64 15463397548674623760),(46,1,.int .u64 17586052441742319658),(47,1,.int .u64 1182934255886127544),(48,1,.int .u64 1847814050463011016),(49,1,.int .u64 2177327727835720531),(50,1,.int .u64 2830643537854262169),(51,1,.int .u64 3796741975233480872),(52,1,.int .u64 4115178125766777443),(53,1,.int .u64 5681478168544905931),(54,1,.int .u64 6601373596472566643),(55,1,.int .u64 7507060721942968483),(56,1,.int .u64 8399075790359081724),(57,1,.int .u64 8693463985226723168),(58,1,.int .u64 9568029438360202098),(59,1,.int .u64 10144078919501101548),(60,1,.int .u64 10430055236837252648),(61,1,.int .u64 11840083180663258601),(62,1,.int .u64 13761210420658862357),(63,1,.int .u64 14299343276471374635),(64,1,.int .u64 14566680578165727644),(65,1,.int .u64 15097957966210449927),(66,1,.int .u64 16922976911328602910),(67,1,.int .u64 17689382322260857208),(68,1,.int .u64 500013540394364858),(69,1,.int .u64 748580250866718886),(70,1,.int .u64 1242879168328830382),(71,1,.int .u64 1977374033974150939),(72,1,.int .u64 2944078676154940804),(73,1,.int .u64 3659926193048069267),(74,1,.int .u64 4368137639120453308),(75,1,.int .u64 4836135668995329356),(76,1,.int .u64 5532061633213252278),(77,1,.int .u64 6448918945643986474),(78,1,.int .u64 6902733635092675308),(79,1,.int .u64 7801388544844847127)] = some (ns .u64 Du):=rfl
theorem Qzk:Vd T 110 [] = some (eV Du):=by
 have hf:=Qj8
 have lk:=Qda
 generalize Du = K at *
 apply Xg
 apply Zt
 rw [Jc (fn:=Q25) rfl]
 simp only [Q25,Z0,quiet,cF,↓pF,reduceCtorEq,Qb,Qp,Zi,Zf,Zg,Ze,Zc,Qj,Q3,Qi,Q2,Q6,Q5,↓Zo,↓Zn,↓Zw,↓Zz,↓Zx,↓Zy,cL,Qo,Qn,Qx,Qw,Qu,Ql,Qk,Qv,Qd,Qz,Q0,Qq,Qf,Qh,Qg,Qt,Qs,Qr,Qm,Qe,cJ,hf,Zd,Xd,Jy,Xs,Vm,Xt,J2,lk,Vl]
 rfl
theorem Qat (l:List Nat):∀ n,(Tz n l).length = l.length + n
 | 0 => rfl
 | n + 1 => by rw [Tz,Z4,Qat l n]; rfl
theorem Qau (l:List Nat) {n j:Nat} (hj:j < l.length + n):∀ m,n ≤ m → (Tz m l)[j]? = (Tz n l)[j]?
 | 0,h => by rw [show n = 0 by omega]
 | m + 1,h => by
  by_cases e:n = m + 1
  ·rw [e]
  ·rw [Tz,Qy (by rw [Qat]; omega),Qau l hj m (by omega)]
theorem Qd9 (b:List Nat):(Qjg b).length = 16:=by simp [Qjg]
theorem Hj (b:List Nat):(Wc b).length = 80:=by rw [Wc,Qat,Qd9]
theorem Qeb {b:List Nat} {i:Nat} (hi:i < 16):(Wc b)[i]? = some (be ((b.drop (8 * i)).take 8)):=by
 rw [Wc,Qau _ (n:=0) (by rw [Qd9]; omega) 64 (by omega)]
 simp [Tz,Qjg,hi]
theorem Qea {b:List Nat} {i:Nat} (hi:16 ≤ i) (hi':i < 80):(Wc b)[i]? = some (((Wc b).getD (i - 16) 0 + (Wc b).getD (i - 7) 0 + sg0 ((Wc b).getD (i - 15) 0) + sg1 ((Wc b).getD (i - 2) 0)) % 18446744073709551616):=by
 obtain ⟨n,rfl⟩:∃ n,i = 16 + n:=⟨i - 16,by omega⟩
 have hl:=Qd9 b
 have hn:=Qat (Qjg b) n
 rw [hl] at hn
 have hg:∀ j,j < 16 + n → (Wc b).getD j 0 = (Tz n (Qjg b)).getD j 0:=fun j hj => by
  rw [Xh,Xh,Wc,Qau _ (n:=n) (by rw [hl]; omega) 64 (by omega)]
 rw [hg _ (by omega),hg _ (by omega),hg _ (by omega),hg _ (by omega)]
 rw [Wc,Qau _ (n:=n + 1) (by rw [hl]; omega) 64 (by omega),Tz,Zh (by omega),hn,Kv]
 simp only [Q3m,hn,Zq]
theorem Qlu (l:List Nat) (x:Nat):be (l ++ [x]) = be l * 256 + x:=by simp [be]
theorem Qr5:∀ (n:Nat) (l:List Nat),l.length = n → (∀ x ∈ l,x < 256) → be l < 256 ^ n
 | 0,l,h,_ => by rw [Yl h]; decide
 | n + 1,l,h,hx => by
  obtain ⟨m,x,rfl⟩:∃ m x,l = m ++ [x]:=⟨l.dropLast,l.getLast (by intro e; rw [e] at h; cases h),(List.dropLast_concat_getLast _).symm⟩
  rw [Z4] at h
  have h1:=Qr5 n m (by simpa using h) (fun y hy => hx y (List.mem_append_left _ hy))
  have h2:=hx x (by simp)
  rw [Qlu,Kq]
  omega
theorem Qfy {b:List Nat} (hb:∀ x ∈ b,x < 256) {i x:Nat} (hx:(Wc b)[i]? = some x):x < 18446744073709551616:=by
 have hi:i < 80:=by have:=(Q8.1 hx).1; rwa [Hj] at this
 by_cases h:i < 16
 ·rw [Qeb h] at hx
  cases hx
  have hl:((b.drop (8 * i)).take 8).length ≤ 8:=by rw [Js]; omega
  have:=Qr5 _ _ rfl (fun y hy => hb y (Yz (Kp hy)):∀ y ∈ (b.drop (8 * i)).take 8,y < 256)
  exact X1 this (Vf (n:=256) (by decide) hl)
 ·rw [Qea (by omega) hi] at hx
  cases hx
  exact Jk _ (by decide)
theorem T9 {n i j:Nat} {L:List Nat} (hj:j < i) (hi:i ≤ L.length):(pf n L i)[j]? = L[j]? := by
 unfold pf
 rw [Qy (by rw [Js]; omega),Ks,if_pos hj]
theorem Qmp {l:List Nat} {i x:Nat} (h:l[i]? = some x):l.set i x = l:=by
 apply Ym
 intro k
 rw [Bj]
 by_cases c:i = k
 ·rw [if_pos c,← c,h,if_pos (Q8.1 h).1]
 ·rw [if_neg c]
theorem Qg4 {n i:Nat} {L:List Nat} (hi:i < n) (hl:L.length = n):(pf n L i)[i]? = some 0:=by
 unfold pf
 rw [Zh (by rw [Js]; omega),Js,V8 (by omega),Kv,Qcm,if_pos (by omega)]
theorem Ma (a b:Nat):IntKind.u64.wrap ((a:Int) + (b:Int)) = (((a + b) % 18446744073709551616:Nat):Int):=by rw [← B5,Qbs]
theorem Mw {a b:Nat} (ha:a < 18446744073709551616) (hb:b < 18446744073709551616):Vz .xor .u64 (a:Int) (b:Int) = ((a ^^^ b:Nat):Int):=Qyt rfl ha hb
theorem Qbv {a b:Nat} (ha:a < 18446744073709551616) (hb:b < 18446744073709551616):Vz .and .u64 (a:Int) (b:Int) = ((a &&& b:Nat):Int):=R4 rfl ha hb
theorem D8 {a b:Nat} (ha:a < 18446744073709551616) (hb:b < 18446744073709551616):a ^^^ b < 18446744073709551616:=Nat.xor_lt_two_pow (n:=64) ha hb
theorem Bp {a b:Nat} (hb:b < 18446744073709551616):a &&& b < 18446744073709551616:=Dr (n:=64) a hb
theorem Qjk {x r:Nat} (hr:r ≤ 64):(x:Int).fdiv (2 ^ min r IntKind.u64.bits) = ((x / 2 ^ r:Nat):Int):=by
 rw [show min r IntKind.u64.bits = r from V8 hr,← Qlh,Qqz]; rfl
theorem Qdf {x r:Nat} (hx:x < 18446744073709551616):x / 2 ^ r < 18446744073709551616:=Wk (W9 _ _) hx
structure BB (H:List Ob) (id off:Nat) (b:List Nat):Prop where
 ob:∃ all:List Nat,H[id]? = some ⟨u8s all,true,true,false,1⟩ ∧ ∀ i,i < b.length → all[off + i]? = b[i]?
 lt:∀ x ∈ b,x < 256
theorem BB.app {H l:List Ob} {id off:Nat} {b:List Nat} (h:BB H id off b):BB (H ++ l) id off b:=by
 obtain ⟨⟨all,h1,h2⟩,h3⟩:=h
 exact ⟨⟨all,by rw [Qy (Q8.1 h1).1]; exact h1,h2⟩,h3⟩
def w2I (H:List Ob) (P:Value) (id off cap:Nat) (w:List Nat) (i:Int) (o8 c8:Nat) (j:Int) (ex:Env):St:=⟨[(0,P),(1,.slice (some ⟨id,off,none⟩) 128 cap),(4,.pointer (some ⟨H.length,0,none⟩)),(5,.int .i64 i),(17,.int .i64 i),(28,.slice (some ⟨id,o8,none⟩) 8 c8),(29,.int .i64 8),(30,.int .i64 j)] ++ ex,H ++ [⟨ns .u64 w,true,true,true,1⟩],[]⟩
theorem Quo {H:List Ob} {P:Value} {id off cap c8 i:Nat} {b:List Nat} (hb:BB H id off b) (hl:b.length = 128) (hi:i < 16) :
  Jl T H.length (.block 2 (.loop Qdv)) (w2I H P id off cap (pf 80 (Wc b) i) i (off + 8 * i) c8 0 []) = some (.normal,w2I H P id off cap (pf 80 (Wc b) (i + 1)) i (off + 8 * i) c8 8 [(31,.bool false)]):=by
 obtain ⟨⟨all,h1,h2⟩,h3⟩:=hb
 have hWl:=Hj b
 have h8:((b.drop (8 * i)).take 8).length = 8:=by rw [Js,Vs]; omega
 have hz:=Qg4 (L:=Wc b) (by omega:i < 80) hWl
 have hpl:=Db hWl (by omega:i ≤ 80)
 have Qhn:(pf 80 (Wc b) i).set i (be []) = pf 80 (Wc b) i:=Qmp hz
 have hW:=Qeb (b:=b) hi
 have hstep:=Gu hWl (by omega:i < 80) hW
 have h:=Wb (T:=T) (base:=H.length) (id:=2) (body:=Qdv) (fun j => w2I H P id off cap ((pf 80 (Wc b) i).set i (be (((b.drop (8 * i)).take 8).take j))) i (off + 8 * i) c8 j []) (s':=w2I H P id off cap (pf 80 (Wc b) (i + 1)) i (off + 8 * i) c8 8 [(31,.bool false)]) 8
  (fun j hj => by
   obtain ⟨x,hx⟩:∃ x,((b.drop (8 * i)).take 8)[j]? = some x:=⟨_,Q1 (by omega)⟩
   have hxb:b[8 * i + j]? = some x:=by
    rw [Ks,if_pos hj,Vx] at hx; exact hx
   have hx':=h3 x (Zk hxb)
   have hxa:(u8s all)[off + 8 * i + j]? = some (.int .u8 (x:Nat)):=Wo (by rw [show off + 8 * i + j = off + (8 * i + j) by omega,h2 _ (by omega)]; exact hxb)
   have hbel:=Qr5 j (((b.drop (8 * i)).take 8).take j) (by rw [Js]; omega) (fun y hy => h3 y (Yz (Kp (Kp hy))))
   have hbes:be (((b.drop (8 * i)).take 8).take (j + 1)) = be (((b.drop (8 * i)).take 8).take j) * 256 + x:=by rw [Yf,hx]; exact Qlu _ _
   rw [hbes]
   have h256:(256:Nat) ^ j ≤ 256 ^ 7:=Vf (by decide) (by omega)
   have e7:(256:Nat) ^ 7 = 72057594037927936:=by decide
   rw [e7] at h256
   generalize be (((b.drop (8 * i)).take 8).take j) = a at *
   have hg:((pf 80 (Wc b) i).set i a)[i]? = some a:=by rw [Xp (by rw [hpl]; omega)]
   have hgc:=Yo (k := .u64) hg
   have hss:=Ux .u64 ((pf 80 (Wc b) i).set i a) i (a * 256 + x)
   rw [Qd2] at hss
   have hln:((pf 80 (Wc b) i).set i a).length = 80:=by rw [Xe]; exact hpl
   have w1:IntKind.i64.wrap ((j:Int) + 1) = ((j + 1:Nat):Int):=Y0 (b:=1) (by omega)
   have w2:IntKind.u64.wrap (x:Int) = (x:Int):=D9 (by omega)
   have w3:IntKind.u64.wrap ((a:Int) * 2 ^ min 8 IntKind.u64.bits) = ((a * 256:Nat):Int):=R8 (b:=256) (by omega)
   have w4:Vz .or .u64 ((a * 256:Nat):Int) (x:Int) = ((a * 256 + x:Nat):Int):=by
    rw [Gk rfl (show a * 256 < 2 ^ 64 by omega) (show x < 2 ^ 64 by omega)]
    have:=Qaa (a:=x) (b:=a) (n:=8) (by omega)
    rw [show (2:Nat) ^ 8 = 256 from rfl] at this
    rw [this]
   have e1:((j:Int) < 8) = True:=eq_true (by omega)
   have e2:((i:Int) < 80) = True:=eq_true (by omega)
   have e4:(i ≤ 79) = True:=eq_true (by omega)
   have hl1:liveAt (H ++ [⟨ns .u64 ((pf 80 (Wc b) i).set i a),true,true,true,1⟩]) id = some ⟨u8s all,true,true,false,1⟩:=Br (Yg h1 rfl)
   generalize (pf 80 (Wc b) i).set i a = O1 at *
   generalize (pf 80 (Wc b) i).set i (a * 256 + x) = O2 at *
   generalize hv:a * 256 + x = v at *
   generalize a * 256 = v2 at *
   simp only [liveAt] at hl1
   generalize hoo:off + 8 * i = oo at *
   have hget:(H ++ [⟨ns .u64 O1,true,true,true,1⟩])[id]? = some ⟨u8s all,true,true,false,1⟩:=by rw [Qy (Q8.1 h1).1]; exact h1
   simp only [w2I,Qdv,Z0,quiet,cF,↓pF,reduceCtorEq,Qb,Qp,Zi,Zf,Zg,Ze,Zc,Qj,Q3,Qi,Q2,Q6,Q5,↓Zo,↓Zn,↓Zw,↓Zz,↓Zx,↓Zy,cL,Qo,Qn,Qx,Qw,Qu,Ql,Qk,Qv,Qd,Qz,Q0,Qq,Qf,Qh,Qg,Qt,Qs,Qr,Qm,Qe,cJ,hget,hxa,hgc,w1,w2,w3,w4,e1,e2,e4,hss,J2,hln])
  (by
   rw [Zl (by omega),hstep]
   simp only [w2I,Qdv,Z0,quiet,cF,↓pF,reduceCtorEq,Qb,Qp,Zi,Zf,Zg,Ze,Zc,Qj,Q3,Qi,Q2,Q6,Q5,↓Zo,↓Zn,↓Zw,↓Zz,↓Zx,↓Zy,cL,Qo,Qn,Qx,Qw,Qu,Ql,Qk,Qv,Qd,Qz,Q0,Qq,Qf,Qh,Qg,Qt,Qs,Qr,Qm,Qe,cJ])
 rw [Q3,Qhn] at h
 exact h
theorem Gv {k:IntKind} {n y d:Nat} (h:n ≤ y):Dl (some (.int k (n:Int))) y d = some n:=by
 have e:(0:Int) ≤ (n:Int) ∧ (n:Int) ≤ (y:Int):=⟨by omega,by omega⟩
 simp only [Dl,if_pos e,Jh]
def w3I (H:List Ob) (P:Value) (id off cap:Nat) (w:List Nat) (i:Int) (ex:Env):St:=⟨[(0,P),(1,.slice (some ⟨id,off,none⟩) 128 cap),(4,.pointer (some ⟨H.length,0,none⟩)),(17,.int .i64 i)] ++ ex,H ++ [⟨ns .u64 w,true,true,true,1⟩],[]⟩
theorem Q32 {H:List Ob} {P:Value} {id off cap i:Nat} {b:List Nat} (hb:BB H id off b) (hl:b.length = 128) (hc:128 ≤ cap) (hi:i < 16) :
  Jl T H.length Re (w3I H P id off cap (pf 80 (Wc b) i) i []) = some (.normal,w3I H P id off cap (pf 80 (Wc b) (i + 1)) ((i + 1:Nat):Int) []):=by
 have h2:=Quo (P:=P) (cap:=cap) (c8:=cap - 8 * i) hb hl hi
 obtain ⟨⟨all,h1,-⟩,h3⟩:=hb
 simp only [w2I,Zb,Za,Xu] at h2
 have e1:((i:Int) < 80) = True:=eq_true (by omega)
 have e2:((i:Int) < 16) = True:=eq_true (by omega)
 have w1:IntKind.i64.wrap (8 * (i:Int)) = ((8 * i:Nat):Int):=Qgb (a:=8) (by omega)
 have w2:IntKind.i64.wrap (((8 * i:Nat):Int) + 8) = ((8 * i + 8:Nat):Int):=Y0 (b:=8) (by omega)
 have w3:IntKind.i64.wrap ((i:Int) + 1) = ((i + 1:Nat):Int):=Y0 (b:=1) (by omega)
 have b1:W4 128 cap (some (.int .i64 ((8 * i:Nat):Int))) (some (.int .i64 ((8 * i + 8:Nat):Int))) none = some (8 * i,8 * i + 8,cap):=by
  have n1:Dl (some (.int .i64 ((8 * i + 8:Nat):Int))) cap 128 = some (8 * i + 8):=Gv (by omega)
  have n2:Dl (some (.int .i64 ((8 * i:Nat):Int))) (8 * i + 8) 0 = some (8 * i):=Gv (by omega)
  rw [Bo,n1,Q4,n2,Q4]
 have hs:8 * i + 8 - 8 * i = 8:=by omega
 have hget:∀ l:List Ob,(H ++ l)[id]? = some ⟨u8s all,true,true,false,1⟩:=fun l => by rw [Qy (Q8.1 h1).1]; exact h1
 generalize pf 80 (Wc b) i = O1 at *
 generalize pf 80 (Wc b) (i + 1) = O2 at *
 generalize hk8:8 * i + 8 = k8 at *
 generalize hk:8 * i = k at *
 generalize i + 1 = i1 at *
 simp only [w3I,Re,Z0,quiet,cF,↓pF,reduceCtorEq,Qb,Qp,Zi,Zf,Zg,Ze,Zc,Qj,Q3,Qi,Q2,Q6,Q5,↓Zo,↓Zn,↓Zw,↓Zz,↓Zx,↓Zy,cL,Qo,Qn,Qx,Qw,Qu,Ql,Qk,Qv,Qd,Qz,Q0,Qq,Qf,Qh,Qg,Qt,Qs,Qr,Qm,Qe,cJ,e1,e2,w1,w2,w3,b1,hs,hget,h2]
theorem Bn {l:List Nat} {i x:Nat} (h:l[i]? = some x):l.getD i 0 = x:=by rw [Xh,h]; rfl
theorem Qy6 {H:List Ob} {P:Value} {id off cap i:Nat} {b:List Nat} (hb:∀ x ∈ b,x < 256) (hi:16 ≤ i) (hi':i < 80) :
  Jl T H.length Re (w3I H P id off cap (pf 80 (Wc b) i) i []) = some (.normal,w3I H P id off cap (pf 80 (Wc b) (i + 1)) ((i + 1:Nat):Int) []):=by
 have hWl:=Hj b
 have hW:=Qea (b:=b) hi hi'
 have hstep:=Gu hWl hi' hW
 have hpl:=Db hWl (Wh hi')
 obtain ⟨x,hx⟩:∃ x,(Wc b)[i - 15]? = some x:=⟨_,Q1 (by omega)⟩
 obtain ⟨y,hy⟩:∃ x,(Wc b)[i - 2]? = some x:=⟨_,Q1 (by omega)⟩
 obtain ⟨u,hu⟩:∃ x,(Wc b)[i - 16]? = some x:=⟨_,Q1 (by omega)⟩
 obtain ⟨v,hv⟩:∃ x,(Wc b)[i - 7]? = some x:=⟨_,Q1 (by omega)⟩
 have lx:=Qfy hb hx
 have ly:=Qfy hb hy
 have cx:=Yo (k := .u64) ((T9 (n:=80) (by omega:i - 15 < i) (by omega)).trans hx)
 have cy:=Yo (k := .u64) ((T9 (n:=80) (by omega:i - 2 < i) (by omega)).trans hy)
 have cu:=Yo (k := .u64) ((T9 (n:=80) (by omega:i - 16 < i) (by omega)).trans hu)
 have cv:=Yo (k := .u64) ((T9 (n:=80) (by omega:i - 7 < i) (by omega)).trans hv)
 rw [Bn hx,Bn hy,Bn hu,Bn hv] at hstep
 have r1:Vd T 109 [.int .u64 x,.int .i64 (-1)] = some (.int .u64 (Y7 x 1:Nat)):=Qbq (r:=1) lx (by decide) (by decide)
 have r8:Vd T 109 [.int .u64 x,.int .i64 (-8)] = some (.int .u64 (Y7 x 8:Nat)):=Qbq (r:=8) lx (by decide) (by decide)
 have r19:Vd T 109 [.int .u64 y,.int .i64 (-19)] = some (.int .u64 (Y7 y 19:Nat)):=Qbq (r:=19) ly (by decide) (by decide)
 have r61:Vd T 109 [.int .u64 y,.int .i64 (-61)] = some (.int .u64 (Y7 y 61:Nat)):=Qbq (r:=61) ly (by decide) (by decide)
 have b1:=Uu (r:=1) lx (by decide) (by decide)
 have b8:=Uu (r:=8) lx (by decide) (by decide)
 have b19:=Uu (r:=19) ly (by decide) (by decide)
 have b61:=Uu (r:=61) ly (by decide) (by decide)
 have x1:=Mw b1 b8
 have x2:Vz .xor .u64 ((Y7 x 1 ^^^ Y7 x 8:Nat):Int) ((x / 2 ^ 7:Nat):Int) = ((sg0 x:Nat):Int):=Mw (D8 b1 b8) (Qdf lx)
 have y1:=Mw b19 b61
 have y2:Vz .xor .u64 ((Y7 y 19 ^^^ Y7 y 61:Nat):Int) ((y / 2 ^ 6:Nat):Int) = ((sg1 y:Nat):Int):=Mw (D8 b19 b61) (Qdf ly)
 have s7:(x:Int).fdiv (2 ^ min 7 IntKind.u64.bits) = ((x / 2 ^ 7:Nat):Int):=Qjk (by decide)
 have s6:(y:Int).fdiv (2 ^ min 6 IntKind.u64.bits) = ((y / 2 ^ 6:Nat):Int):=Qjk (by decide)
 have m1:=Ma u v
 have m2:=Ma ((u + v) % 18446744073709551616) (sg0 x)
 have m3:=Ma (((u + v) % 18446744073709551616 + sg0 x) % 18446744073709551616) (sg1 y)
 have hsum:(((u + v) % 18446744073709551616 + sg0 x) % 18446744073709551616 + sg1 y) % 18446744073709551616 = (u + v + sg0 x + sg1 y) % 18446744073709551616:=by omega
 rw [hsum] at m3
 have hset:=Ux .u64 (pf 80 (Wc b) i) i ((u + v + sg0 x + sg1 y) % 18446744073709551616)
 rw [hstep] at hset
 have e1:((i:Int) < 80) = True:=eq_true (by omega)
 have e2:((i:Int) < 16) = False:=eq_false (by omega)
 have i15:IntKind.i64.wrap ((i:Int) - 15) = ((i - 15:Nat):Int):=by rw [K9 (by omega) (by omega)]; omega
 have i2:IntKind.i64.wrap ((i:Int) - 2) = ((i - 2:Nat):Int):=by rw [K9 (by omega) (by omega)]; omega
 have i16:IntKind.i64.wrap ((i:Int) - 16) = ((i - 16:Nat):Int):=by rw [K9 (by omega) (by omega)]; omega
 have i7:IntKind.i64.wrap ((i:Int) - 7) = ((i - 7:Nat):Int):=by rw [K9 (by omega) (by omega)]; omega
 have j15:(((i - 15:Nat):Int) < 80) = True:=eq_true (by omega)
 have j2:(((i - 2:Nat):Int) < 80) = True:=eq_true (by omega)
 have j16:(((i - 16:Nat):Int) < 80) = True:=eq_true (by omega)
 have j7:(((i - 7:Nat):Int) < 80) = True:=eq_true (by omega)
 have w3:IntKind.i64.wrap ((i:Int) + 1) = ((i + 1:Nat):Int):=Y0 (b:=1) (by omega)
 have e4:(i ≤ 79) = True:=eq_true (by omega)
 clear hsum hstep hW hx hy hu hv hWl
 generalize pf 80 (Wc b) i = O1 at *
 generalize pf 80 (Wc b) (i + 1) = O2 at *
 generalize (u + v + sg0 x + sg1 y) % 18446744073709551616 = z at *
 generalize ((u + v) % 18446744073709551616 + sg0 x) % 18446744073709551616 = z2 at *
 generalize (u + v) % 18446744073709551616 = z3 at *
 generalize sg0 x = gx at *
 generalize sg1 y = gy at *
 generalize Y7 x 1 ^^^ Y7 x 8 = xx at *
 generalize Y7 y 19 ^^^ Y7 y 61 = yy at *
 generalize Y7 x 1 = x1v at *
 generalize Y7 x 8 = x8v at *
 generalize Y7 y 19 = y19v at *
 generalize Y7 y 61 = y61v at *
 generalize x / 2 ^ 7 = x7v at *
 generalize y / 2 ^ 6 = y6v at *
 generalize i - 15 = k15 at *
 generalize i - 2 = k2 at *
 generalize i - 16 = k16 at *
 generalize i - 7 = k7 at *
 generalize i + 1 = i1 at *
 simp only [w3I,Re,↓Zr,Z0,quiet,cF,↓pF,reduceCtorEq,Qb,Qp,Zi,Zf,Zg,Ze,Zc,Qj,Q3,Qi,Q2,Q6,Q5,↓Zu,↓Zm,↓Z5,↓Z9,↓Z6,↓Z7,cL,Qo,Qn,Qx,Qw,Qu,Ql,Qk,Qv,Qd,Qz,Q0,Qq,Qf,Qh,Qg,Qt,Qs,Qr,Qm,Qe,cJ,e1,e2,e4,i15,i2,i16,i7,j15,j2,j16,j7,cx,cy,cu,cv,r1,r8,r19,r61,x1,x2,y1,y2,s7,s6,m1,m2,m3,hset,w3,J2,hpl]
theorem Qun {H:List Ob} {P:Value} {id off cap:Nat} {b:List Nat} (hb:BB H id off b) (hl:b.length = 128) (hc:128 ≤ cap) :
  Jl T H.length (.block 0 (.loop Re)) (w3I H P id off cap (Qa 80 0) 0 []) = some (.normal,w3I H P id off cap (Wc b) 80 [(18,.bool false)]):=by
 have hWl:=Hj b
 have h:=Wb (T:=T) (base:=H.length) (id:=0) (body:=Re) (fun i => w3I H P id off cap (pf 80 (Wc b) i) i []) (s':=w3I H P id off cap (Wc b) 80 [(18,.bool false)]) 80
  (fun i hi => by
   by_cases h:i < 16
   ·exact Q32 hb hl hc h
   ·exact Qy6 hb.lt (by omega) hi)
  (by
   rw [De hWl]
   simp only [w3I,Re,Z0,quiet,cF,↓pF,reduceCtorEq,Qb,Qp,Zi,Zf,Zg,Ze,Zc,Qj,Q3,Qi,Q2,Q6,Q5,↓Zo,↓Zn,↓Zw,↓Zz,↓Zx,↓Zy,cL,Qo,Qn,Qx,Qw,Qu,Ql,Qk,Qv,Qd,Qz,Q0,Qq,Qf,Qh,Qg,Qt,Qs,Qr,Qm,Qe,cJ])
 rw [Dd] at h
 exact h
theorem eight {l:List Nat} (h:l.length = 8):∃ a b c d e f g i,l = [a,b,c,d,e,f,g,i]:=by
 match l,h with
 | [a,b,c,d,e,f,g,i],_ => exact ⟨a,b,c,d,e,f,g,i,rfl⟩
theorem Qq9 (s:List Nat) (k w:Nat):(rnd s k w).length = 8:=rfl
theorem Rv {s:List Nat} (hs:s.length = 8) (w:List Nat):∀ n,(T4 n w s).length = 8
 | 0 => hs
 | n + 1 => rfl
theorem Q5a {s:List Nat} (hs:s.length = 8) (hx:∀ x ∈ s,x < 18446744073709551616) (k w:Nat):∀ x ∈ rnd s k w,x < 18446744073709551616:=by
 obtain ⟨a,b,c,d,e,f,g,h,rfl⟩:=eight hs
 intro x hm
 have h1:∀ y z:Nat,(y + z) % 18446744073709551616 < 18446744073709551616:=fun _ _ => Jk _ (by decide)
 simp only [rnd,W0,Us,or_false] at hm
 rcases hm with rfl | rfl | rfl | rfl | rfl | rfl | rfl | rfl
 ·exact h1 _ _
 ·exact hx _ (by simp)
 ·exact hx _ (by simp)
 ·exact hx _ (by simp)
 ·exact h1 _ _
 ·exact hx _ (by simp)
 ·exact hx _ (by simp)
 ·exact hx _ (by simp)
theorem Qkz {s:List Nat} (hs:s.length = 8) (hx:∀ x ∈ s,x < 18446744073709551616) (w:List Nat):∀ n,∀ x ∈ T4 n w s,x < 18446744073709551616
 | 0 => hx
 | n + 1 => Q5a (Rv hs w n) (Qkz hs hx w n) _ _
theorem Q3w (a b c d e f g h:Nat):fillL (Qa 8 (Value.int .u64 0)) [(0,1,.int .u64 (a:Int)),(1,1,.int .u64 (b:Int)),(2,1,.int .u64 (c:Int)),(3,1,.int .u64 (d:Int)),(4,1,.int .u64 (e:Int)),(5,1,.int .u64 (f:Int)),(6,1,.int .u64 (g:Int)),(7,1,.int .u64 (h:Int))] = some (ns .u64 [a,b,c,d,e,f,g,h]):=rfl
def w1I (H:List Ob) (P:Value) (w s:List Nat) (i:Int) (ex:Env):St:=⟨[(0,P),(4,.pointer (some ⟨H.length,0,none⟩)),(10,.pointer (some ⟨H.length + 1,0,none⟩)),(86,eV Du),(87,.int .i64 i)] ++ ex,H ++ [⟨ns .u64 w,true,true,true,1⟩,⟨ns .u64 s,true,true,true,1⟩],[]⟩
theorem Qy7 {H:List Ob} {P:Value} {w s:List Nat} {i:Nat} (hw:w.length = 80) (hs:s.length = 8) (hx:∀ x ∈ s,x < 18446744073709551616) (hi:i < 80) :
  Jl T H.length Qbj (w1I H P w s i []) = some (.normal,w1I H P w (rnd s (Du.getD i 0) (w.getD i 0)) ((i + 1:Nat):Int) []):=by
 obtain ⟨a,b,c,d,e,f,g,h,rfl⟩:=eight hs
 obtain ⟨k,hk⟩:∃ k,Du[i]? = some k:=⟨_,Q1 (by rw [Qda]; exact hi)⟩
 obtain ⟨v,hv⟩:∃ k,w[i]? = some k:=⟨_,Q1 (by omega)⟩
 rw [Bn hk,Bn hv]
 have kc:=Yo (k := .u64) hk
 have vc:=Yo (k := .u64) hv
 have la:=hx a (by simp)
 have lb:=hx b (by simp)
 have lc:=hx c (by simp)
 have le:=hx e (by simp)
 have lf:=hx f (by simp)
 have lg:=hx g (by simp)
 have r14:Vd T 109 [.int .u64 e,.int .i64 (-14)] = some (.int .u64 (Y7 e 14:Nat)):=Qbq (r:=14) le (by decide) (by decide)
 have r18:Vd T 109 [.int .u64 e,.int .i64 (-18)] = some (.int .u64 (Y7 e 18:Nat)):=Qbq (r:=18) le (by decide) (by decide)
 have r41:Vd T 109 [.int .u64 e,.int .i64 (-41)] = some (.int .u64 (Y7 e 41:Nat)):=Qbq (r:=41) le (by decide) (by decide)
 have r28:Vd T 109 [.int .u64 a,.int .i64 (-28)] = some (.int .u64 (Y7 a 28:Nat)):=Qbq (r:=28) la (by decide) (by decide)
 have r34:Vd T 109 [.int .u64 a,.int .i64 (-34)] = some (.int .u64 (Y7 a 34:Nat)):=Qbq (r:=34) la (by decide) (by decide)
 have r39:Vd T 109 [.int .u64 a,.int .i64 (-39)] = some (.int .u64 (Y7 a 39:Nat)):=Qbq (r:=39) la (by decide) (by decide)
 have b14:=Uu (r:=14) le (by decide) (by decide)
 have b18:=Uu (r:=18) le (by decide) (by decide)
 have b41:=Uu (r:=41) le (by decide) (by decide)
 have b28:=Uu (r:=28) la (by decide) (by decide)
 have b34:=Uu (r:=34) la (by decide) (by decide)
 have b39:=Uu (r:=39) la (by decide) (by decide)
 have x1:=Mw b14 b18
 have x2:Vz .xor .u64 ((Y7 e 14 ^^^ Y7 e 18:Nat):Int) ((Y7 e 41:Nat):Int) = ((Sg1 e:Nat):Int):=Mw (D8 b14 b18) b41
 have x3:=Mw b28 b34
 have x4:Vz .xor .u64 ((Y7 a 28 ^^^ Y7 a 34:Nat):Int) ((Y7 a 39:Nat):Int) = ((Sg0 a:Nat):Int):=Mw (D8 b28 b34) b39
 have a1:=Qbv le lf
 have a2:Vz .xor .u64 (if IntKind.u64.signed = true then -1 else IntKind.u64.max) (e:Int) = ((18446744073709551615 ^^^ e:Nat):Int):=Mw (a:=18446744073709551615) (by decide) le
 have lne:18446744073709551615 ^^^ e < 18446744073709551616:=D8 (by decide) le
 have a3:=Qbv lne lg
 have a4:Vz .xor .u64 ((e &&& f:Nat):Int) (((18446744073709551615 ^^^ e) &&& g:Nat):Int) = ((chO e f g:Nat):Int):=Mw (Bp lf) (Bp lg)
 have a5:=Qbv la lb
 have a6:=Qbv la lc
 have a7:=Qbv lb lc
 have a8:=Mw (a:=a &&& b) (b:=a &&& c) (Bp lb) (Bp lc)
 have a9:Vz .xor .u64 (((a &&& b) ^^^ (a &&& c):Nat):Int) ((b &&& c:Nat):Int) = ((maO a b c:Nat):Int):=Mw (D8 (Bp lb) (Bp lc)) (Bp lc)
 have m1:=Ma h (Sg1 e)
 have m2:=Ma ((h + Sg1 e) % 18446744073709551616) (chO e f g)
 have m3:=Ma (((h + Sg1 e) % 18446744073709551616 + chO e f g) % 18446744073709551616) k
 have m4:=Ma ((((h + Sg1 e) % 18446744073709551616 + chO e f g) % 18446744073709551616 + k) % 18446744073709551616) v
 have hT1:((((h + Sg1 e) % 18446744073709551616 + chO e f g) % 18446744073709551616 + k) % 18446744073709551616 + v) % 18446744073709551616 = t1O [a,b,c,d,e,f,g,h] k v:=by
  show _ = (h + Sg1 e + chO e f g + k + v) % 18446744073709551616
  omega
 rw [hT1] at m4
 have m5:IntKind.u64.wrap ((Sg0 a:Int) + (maO a b c:Int)) = ((t2O [a,b,c,d,e,f,g,h]:Nat):Int):=Ma (Sg0 a) (maO a b c)
 have m6:=Ma (t1O [a,b,c,d,e,f,g,h] k v) (t2O [a,b,c,d,e,f,g,h])
 have m7:=Ma d (t1O [a,b,c,d,e,f,g,h] k v)
 have hr:rnd [a,b,c,d,e,f,g,h] k v = [(t1O [a,b,c,d,e,f,g,h] k v + t2O [a,b,c,d,e,f,g,h]) % 18446744073709551616,a,b,c,(d + t1O [a,b,c,d,e,f,g,h] k v) % 18446744073709551616,e,f,g]:=rfl
 have hf:=Q3w ((t1O [a,b,c,d,e,f,g,h] k v + t2O [a,b,c,d,e,f,g,h]) % 18446744073709551616) a b c ((d + t1O [a,b,c,d,e,f,g,h] k v) % 18446744073709551616) e f g
 rw [← hr] at hf
 have lR:=Qq9 [a,b,c,d,e,f,g,h] k v
 have e1:((i:Int) < 80) = True:=eq_true (by omega)
 have w3:IntKind.i64.wrap ((i:Int) + 1) = ((i + 1:Nat):Int):=Y0 (b:=1) (by omega)
 have vi:Qkn none 80 1 (eV Du) (.int .i64 (i:Int)) = some (.int .u64 (k:Nat)):=by
  unfold eV
  rw [Qbz]
  simp only [e1,Z0,quiet,cF,↓pF,reduceCtorEq,Qb,Qp,Zi,Zf,Zg,Ze,Zc,Qj,Q3,Qi,Q2,Q6,Q5,↓Zo,↓Zn,↓Zw,↓Zz,↓Zx,↓Zy,cL,Qo,Qn,Qx,Qw,Qu,Ql,Qk,Qv,Qd,Qz,Q0,Qq,Qf,Qh,Qg,Qt,Qs,Qr,Qm,Qe,kc]
 have g0:(ns .u64 [a,b,c,d,e,f,g,h])[0]? = some (.int .u64 (a:Nat)):=rfl
 have g1:(ns .u64 [a,b,c,d,e,f,g,h])[1]? = some (.int .u64 (b:Nat)):=rfl
 have g2:(ns .u64 [a,b,c,d,e,f,g,h])[2]? = some (.int .u64 (c:Nat)):=rfl
 have g3:(ns .u64 [a,b,c,d,e,f,g,h])[3]? = some (.int .u64 (d:Nat)):=rfl
 have g4:(ns .u64 [a,b,c,d,e,f,g,h])[4]? = some (.int .u64 (e:Nat)):=rfl
 have g5:(ns .u64 [a,b,c,d,e,f,g,h])[5]? = some (.int .u64 (f:Nat)):=rfl
 have g6:(ns .u64 [a,b,c,d,e,f,g,h])[6]? = some (.int .u64 (g:Nat)):=rfl
 have g7:(ns .u64 [a,b,c,d,e,f,g,h])[7]? = some (.int .u64 (h:Nat)):=rfl
 have lS:(ns .u64 [a,b,c,d,e,f,g,h]).length = 8:=rfl
 clear hT1 hr hk hv kc hs hx
 generalize rnd [a,b,c,d,e,f,g,h] k v = R at *
 generalize (t1O [a,b,c,d,e,f,g,h] k v + t2O [a,b,c,d,e,f,g,h]) % 18446744073709551616 = z1 at *
 generalize (d + t1O [a,b,c,d,e,f,g,h] k v) % 18446744073709551616 = z2 at *
 generalize t1O [a,b,c,d,e,f,g,h] k v = t1 at *
 generalize t2O [a,b,c,d,e,f,g,h] = t2 at *
 generalize (((h + Sg1 e) % 18446744073709551616 + chO e f g) % 18446744073709551616 + k) % 18446744073709551616 = z3 at *
 generalize ((h + Sg1 e) % 18446744073709551616 + chO e f g) % 18446744073709551616 = z4 at *
 generalize (h + Sg1 e) % 18446744073709551616 = z5 at *
 generalize Sg1 e = se at *
 generalize Sg0 a = sa at *
 generalize chO e f g = cc at *
 generalize maO a b c = mm at *
 generalize (a &&& b) ^^^ (a &&& c) = q1 at *
 generalize (18446744073709551615 ^^^ e) &&& g = q2 at *
 generalize 18446744073709551615 ^^^ e = q3 at *
 generalize e &&& f = q4 at *
 generalize a &&& b = q5 at *
 generalize a &&& c = q6 at *
 generalize b &&& c = q7 at *
 generalize Y7 e 14 ^^^ Y7 e 18 = q8 at *
 generalize Y7 a 28 ^^^ Y7 a 34 = q9 at *
 generalize Y7 e 14 = p1 at *
 generalize Y7 e 18 = p2 at *
 generalize Y7 e 41 = p3 at *
 generalize Y7 a 28 = p4 at *
 generalize Y7 a 34 = p5 at *
 generalize Y7 a 39 = p6 at *
 generalize i + 1 = i1 at *
 generalize hS:ns .u64 [a,b,c,d,e,f,g,h] = S at *
 simp only [w1I,hS]
 generalize eV Du = kt at *
 simp only [Qbj,↓Zr,Z0,quiet,cF,↓pF,reduceCtorEq,Qb,Qp,Zi,Zf,Zg,Ze,Zc,Qj,Q3,Qi,Q2,Q6,Q5,↓Zu,↓Zm,↓Z5,↓Z9,↓Z6,↓Z7,cL,Qo,Qn,Qx,Qw,Qu,Ql,Qk,Qv,Qd,Qz,Q0,Qq,Qf,Qh,Qg,Qt,Qs,Qr,Qm,Qe,cJ,e1,vi,vc,r14,r18,r41,r28,r34,r39,x1,x2,x3,x4,a1,a2,a3,a4,a5,a6,a7,a8,a9,m1,m2,m3,m4,m5,m6,m7,hf,w3,g0,g1,g2,g3,g4,g5,g6,g7,lS,J2,hw,lR,Xd,Zd]
theorem Qup {H:List Ob} {P:Value} {w s:List Nat} (hw:w.length = 80) (hs:s.length = 8) (hx:∀ x ∈ s,x < 18446744073709551616) :
  Jl T H.length (.block 4 (.loop Qbj)) (w1I H P w s 0 []) = some (.normal,w1I H P w (T4 80 w s) 80 [(88,.bool false)]):=by
 have h:=Wb (T:=T) (base:=H.length) (id:=4) (body:=Qbj) (fun i => w1I H P w (T4 i w s) i []) (s':=w1I H P w (T4 80 w s) 80 [(88,.bool false)]) 80
  (fun i hi => Qy7 hw (Rv hs w i) (Qkz hs hx w i) hi)
  (by
   generalize T4 80 w s = R
   simp only [w1I]
   generalize eV Du = kt
   simp only [Qbj,Z0,quiet,cF,↓pF,reduceCtorEq,Qb,Qp,Zi,Zf,Zg,Ze,Zc,Qj,Q3,Qi,Q2,Q6,Q5,↓Zo,↓Zn,↓Zw,↓Zz,↓Zx,↓Zy,cL,Qo,Qn,Qx,Qw,Qu,Ql,Qk,Qv,Qd,Qz,Q0,Qq,Qf,Qh,Qg,Qt,Qs,Qr,Qm,Qe,cJ])
 exact h
def hcl (rv:Value) (n:Nat) (st:List Nat):List Value:=rv :: .int .u64 (n:Nat) :: ns .u64 st
def hob (rv:Value) (n:Nat) (st:List Nat):Ob:=⟨hcl rv n st,true,true,true,1⟩
theorem Qa5 (rv:Value) (n:Nat) (st:List Nat):(hcl rv n st).length = 2 + st.length:=by simp [hcl,J2]; omega
theorem Qrv {rv:Value} {n i x:Nat} {st:List Nat} (h:st[i]? = some x):(hcl rv n st)[2 + i]? = some (.int .u64 (x:Nat)):=by
 rw [Gb]; exact Yo h
theorem Q1h (rv:Value) (n i x:Nat) (st:List Nat):(hcl rv n st).set (2 + i) (.int .u64 (x:Nat)) = hcl rv n (st.set i x):=by
 rw [Gb]
 show rv :: .int .u64 (n:Nat) :: (ns .u64 st).set i _ = _
 rw [Ux]; rfl
theorem Qj9 {rv:Value} {n:Nat} {st:List Nat} (h:st.length = 8):We 8 (Bs 2 (hcl rv n st)) = ns .u64 st:=by
 show We 8 (ns .u64 st) = _
 rw [Zl (by rw [J2]; omega)]
theorem Q17 {s b:List Nat} (hs:s.length = 8):(blk s b).length = 8:=by unfold blk; rw [Qiz,Rv hs,hs]; rfl
theorem Q6k {s b:List Nat}:∀ x ∈ blk s b,x < 18446744073709551616:=by
 intro x hx
 unfold blk at hx
 obtain ⟨i,hi⟩:=Ba hx
 rw [Qfa] at hi
 split at hi
 ·cases hi; exact Jk _ (by decide)
 ·cases hi
theorem Wy {b:Nat}:∀ {M L:List Nat} {i:Nat},i ∈ Xo b L M → i ∈ L ∨ i ∈ M
 | [],L,i,h => .inl h
 | m :: M,L,i,h => by
  simp only [Xo] at h
  split at h
  ·rcases Wy h with h1 | h1
   ·rcases Jb.1 h1 with h2 | h2
    ·exact .inl h2
    ·exact .inr (by rw [Bu.1 h2]; exact List.mem_cons_self)
   ·exact .inr (List.mem_cons_of_mem _ h1)
  ·rcases Wy h with h1 | h1
   ·exact .inl h1
   ·exact .inr (List.mem_cons_of_mem _ h1)
def w0I (H:List Ob) (hid:Nat) (rv:Value) (n:Nat) (st:List Nat) (s L:List Nat) (ob1 ob2:Ob) (i:Int) (ex:Env):St:=⟨[(0,.pointer (some ⟨hid,0,none⟩)),(174,eV s),(175,.int .i64 i)] ++ ex,H.set hid (hob rv n st) ++ [ob1,ob2],L⟩
theorem Quq {H:List Ob} {hid n:Nat} {rv:Value} {st s:List Nat} {ob1 ob2:Ob} (hh:hid < H.length) (hs:s.length = 8) (hst:st.length = 8) :
  ∃ L,Jl T H.length (.block 6 (.loop Qdw)) (w0I H hid rv n st s [] ob1 ob2 0 []) = some (.normal,w0I H hid rv n (Gc (fun x y => (x + y) % 18446744073709551616) st s) s L ob1 ob2 8 [(176,.bool false)]) ∧ ∀ i ∈ L,i = hid:=by
 have hZ:(Gc (fun x y => (x + y) % 18446744073709551616) st s).length = 8:=by rw [Qiz,hs,hst]; rfl
 obtain ⟨Z,hZd⟩:∃ Z,Z = Gc (fun x y => (x + y) % 18446744073709551616) st s:=⟨_,rfl⟩
 rw [← hZd] at hZ ⊢
 obtain ⟨st',hb,L,rfl,hL⟩:=Vi (T:=T) (base:=H.length) (id:=6) (body:=Qdw)
  (fun i x => ∃ L,x = w0I H hid rv n (Z.take i ++ st.drop i) s L ob1 ob2 i [] ∧ ∀ j ∈ L,j = hid)
  (Q:=fun x => ∃ L,x = w0I H hid rv n Z s L ob1 ob2 8 [(176,.bool false)] ∧ ∀ j ∈ L,j = hid)
  8 (s:=w0I H hid rv n st s [] ob1 ob2 0 []) ⟨[],rfl,by simp⟩
  (fun i x hi hx => by
   obtain ⟨L,rfl,hL⟩:=hx
   obtain ⟨u,hu⟩:∃ u,st[i]? = some u:=⟨_,Q1 (by omega)⟩
   obtain ⟨v,hv⟩:∃ u,s[i]? = some u:=⟨_,Q1 (by omega)⟩
   have hz:Z[i]? = some ((u + v) % 18446744073709551616):=by rw [hZd,Qfa,hu,hv]
   have hlt:(Z.take i).length = i:=by rw [Js]; omega
   have hg:(Z.take i ++ st.drop i)[i]? = some u:=by
    rw [Zh (by omega),hlt,Kv,Vx]; exact hu
   have hstep:(Z.take i ++ st.drop i).set i ((u + v) % 18446744073709551616) = Z.take (i + 1) ++ st.drop (i + 1):=by
    rw [Uk _ _ (by omega),hlt,Kv,Yr (i:=i),hu,Yf,hz]
    simp
   have hlen:(Z.take i ++ st.drop i).length = 8:=by rw [Z4,Vs,hlt]; omega
   have gc:=Qrv (rv:=rv) (n:=n) hg
   have sc:=Q1h rv n i ((u + v) % 18446744073709551616) (Z.take i ++ st.drop i)
   rw [hstep] at sc
   have cl:=Qa5 rv n (Z.take i ++ st.drop i)
   rw [hlen] at cl
   have vc:=Yo (k := .u64) hv
   have vi:Qkn none 8 1 (eV s) (.int .i64 (i:Int)) = some (.int .u64 (v:Nat)):=by
    have e1:((i:Int) < 8) = True:=eq_true (by omega)
    unfold eV
    rw [Qbz]
    simp only [e1,Z0,quiet,cF,↓pF,reduceCtorEq,Qb,Qp,Zi,Zf,Zg,Ze,Zc,Qj,Q3,Qi,Q2,Q6,Q5,↓Zo,↓Zn,↓Zw,↓Zz,↓Zx,↓Zy,cL,Qo,Qn,Qx,Qw,Qu,Ql,Qk,Qv,Qd,Qz,Q0,Qq,Qf,Qh,Qg,Qt,Qs,Qr,Qm,Qe,vc]
   have m1:=Ma u v
   have e1:((i:Int) < 8) = True:=eq_true (by omega)
   have w3:IntKind.i64.wrap ((i:Int) + 1) = ((i + 1:Nat):Int):=Y0 (b:=1) (by omega)
   have hget:∀ o:Ob,(H.set hid o ++ [ob1,ob2])[hid]? = some o:=fun o => by
    rw [Qy (by rw [Xe]; exact hh),Xp hh]
   have hset:∀ o o':Ob,(H.set hid o ++ [ob1,ob2]).set hid o' = H.set hid o' ++ [ob1,ob2]:=fun o o' => by
    rw [Ro _ _ (by rw [Xe]; exact hh),Qd2]
   have e5:(2 + i + 1 ≤ 2 + 8) = True:=eq_true (by omega)
   refine ⟨w0I H hid rv n (Z.take (i + 1) ++ st.drop (i + 1)) s (Xo H.length L [hid]) ob1 ob2 ((i + 1:Nat):Int) [],?_,_,rfl,?_⟩
   ·generalize Z.take (i + 1) ++ st.drop (i + 1) = O2 at *
    generalize Z.take i ++ st.drop i = O1 at *
    generalize (u + v) % 18446744073709551616 = z at *
    simp only [w0I,hob]
    generalize hcl rv n O1 = C1 at *
    generalize hcl rv n O2 = C2 at *
    generalize eV s = sv at *
    generalize i + 1 = i1 at *
    simp only [Qdw,↓Zr,Z0,quiet,cF,↓pF,reduceCtorEq,Qb,Qp,Zi,Zf,Zg,Ze,Zc,Qj,Q3,Qi,Q2,Q6,Q5,↓Zu,↓Zm,↓Z5,↓Z9,↓Z6,↓Z7,cL,Qo,Qn,Qx,Qw,Qu,Ql,Qk,Qv,Qd,Qz,Q0,Qq,Qf,Qh,Qg,Qt,Qs,Qr,Qm,Qe,cJ,e1,vi,m1,w3,gc,sc,cl,e5,hget,hset]
    done
   ·intro j hj
    rcases Wy hj with h | h
    ·exact hL j h
    ·simpa using h)
  (fun x hx => by
   obtain ⟨L,rfl,hL⟩:=hx
   rw [Zl (by omega),Yb (by omega),Kw]
   refine ⟨_,?_,L,rfl,hL⟩
   simp only [w0I,hob]
   generalize hcl rv n Z = C
   generalize eV s = sv
   simp only [Qdw,Z0,quiet,cF,↓pF,reduceCtorEq,Qb,Qp,Zi,Zf,Zg,Ze,Zc,Qj,Q3,Qi,Q2,Q6,Q5,↓Zo,↓Zn,↓Zw,↓Zz,↓Zx,↓Zy,cL,Qo,Qn,Qx,Qw,Qu,Ql,Qk,Qv,Qd,Qz,Q0,Qq,Qf,Qh,Qg,Qt,Qs,Qr,Qm,Qe,cJ])
 exact ⟨L,hb,hL⟩
theorem Qjn {α:Type} {l:List α} {i:Nat} {x:α} (h:l[i]? = some x):l.set i x = l:=by
 apply Ym
 intro k
 rw [Bj]
 by_cases c:i = k
 ·rw [if_pos c,← c,h,if_pos (Q8.1 h).1]
 ·rw [if_neg c]
def Qkl:List Nat:=Qa 80 0
theorem Q31:Qa 80 (Value.int .u64 0) = ns .u64 Qkl:=rfl
theorem Qy3:Qkl.length = 80:=rfl
def Qui:List Nat:=Qa 8 0
theorem z8_eq:Qa 8 (Value.int .u64 0) = ns .u64 Qui:=rfl
theorem Q30:Qui.length = 8:=rfl
theorem Qys {H:List Ob} {hid id off cap n:Nat} {rv:Value} {st b:List Nat} (hh:H[hid]? = some (hob rv n st)) (hs:st.length = 8) (hx:∀ x ∈ st,x < 18446744073709551616) (hb:BB H id off b) (hl:b.length = 128) (hc:128 ≤ cap) :
  ∃ w s M,V6 T 99 [.pointer (some ⟨hid,0,none⟩),.slice (some ⟨id,off,none⟩) 128 cap] H = some (.tuple #[],H.set hid (hob rv n (blk st b)) ++ [w,s],M) ∧ ∀ i ∈ M,i = hid:=by
 have hlt:hid < H.length:=(Q8.1 hh).1
 have h3:=Qun (P := .pointer (some ⟨hid,0,none⟩)) (cap:=cap) hb hl hc
 have hWl:=Hj b
 have h1:=Qup (H:=H) (P := .pointer (some ⟨hid,0,none⟩)) hWl hs hx
 have lr:=Rv hs (Wc b) 80
 obtain ⟨L,h0,hL⟩:=Quq (H:=H) (hid:=hid) (n:=n) (rv:=rv) (ob1:=⟨ns .u64 (Wc b),true,true,true,1⟩) (ob2:=⟨ns .u64 (T4 80 (Wc b) st),true,true,true,1⟩) hlt lr hs
 rw [show Gc (fun x y => (x + y) % 18446744073709551616) st (T4 80 (Wc b) st) = blk st b from rfl] at h0
 have hss:H.set hid (hob rv n st) = H:=Qjn hh
 refine ⟨⟨ns .u64 (Wc b),true,true,true,1⟩,⟨ns .u64 (T4 80 (Wc b) st),true,true,true,1⟩,L,?_,hL⟩
 simp only [w0I,hss,Zb,Za,Xu] at h0
 have hz:=Q31
 have lz:=Qy3
 have hz8:=z8_eq
 have lz8:=Q30
 rw [show Qa 80 0 = Qkl from rfl] at h3
 simp only [w3I,Zb,Za,Xu] at h3
 simp only [w1I,Zb,Za,Xu] at h1
 have ht:=Qzk
 have hcs:=Qj9 (rv:=rv) (n:=n) hs
 have hcl8:2 + 8 ≤ (hcl rv n st).length:=by rw [Qa5]; omega
 have hget:∀ l:List Ob,(H ++ l)[hid]? = some ⟨hcl rv n st,true,true,true,1⟩:=fun l => by rw [Qy hlt]; exact hh
 have lk:=Qda
 generalize H.set hid (hob rv n (blk st b)) = H' at *
 generalize Wc b = W at *
 generalize T4 80 W st = R at *
 generalize hcl rv n st = C at *
 generalize Qkl = Z at *
 generalize Qui = Z8 at *
 generalize Du = KT at *
 rw [Jc (fn:=Q28) rfl]
 simp only [Q28,↓Zr,Z0,quiet,cF,↓pF,reduceCtorEq,Qb,Qp,Zi,Zf,Zg,Ze,Zc,Qj,Q3,Qi,Q2,Q6,Q5,↓Zu,↓Zm,↓Z5,↓Z9,↓Z6,↓Z7,cL,Qo,Qn,Qx,Qw,Qu,Ql,Qk,Qv,Qd,Qz,Q0,Qq,Qf,Qh,Qg,Qt,Qs,Qr,Qm,Qe,cJ,hz,hz8,h3,h1,h0,ht,hget,hcs,hcl8,Zd,Xd,Jy,Xs,Vm,Xt,J2,hWl,hs,lr,lz,lz8,lk,Vl]
 rfl
inductive Rst (K:Nat → Prop) (H:List Ob):Value → List Nat → Prop
 | nil:Rst K H (.slice none 0 0) []
 | empty {id:Nat}:¬ K id → H[id]? = some ⟨[],true,true,true,1⟩ → Rst K H (.slice (some ⟨id,0,none⟩) 0 0) []
 | own {id off:Nat} {all l:List Nat}:¬ K id → H[id]? = some ⟨u8s all,true,true,false,1⟩ → off + l.length ≤ all.length → (∀ i,i < l.length → all[off + i]? = l[i]?) → Rst K H (.slice (some ⟨id,off,none⟩) l.length l.length) l
theorem Rst.app {K:Nat → Prop} {H m:List Ob} {v:Value} {l:List Nat} (h:Rst K H v l):Rst K (H ++ m) v l:=by
 cases h with
 | nil => exact .nil
 | empty h1 h2 => exact .empty h1 (by rw [Qy (Q8.1 h2).1]; exact h2)
 | own h1 h2 h4 h3 => exact .own h1 (by rw [Qy (Q8.1 h2).1]; exact h2) h4 h3
theorem Rst.setH {K:Nat → Prop} {H:List Ob} {v:Value} {l:List Nat} {hid n:Nat} {rv:Value} {st:List Nat} (h:Rst K H v l) (hh:H[hid]? = some (hob rv n st)) (o:Ob):Rst K (H.set hid o) v l:=by
 cases h with
 | nil => exact .nil
 | empty h1 h2 => exact .empty h1 (by
   rw [Jj]
   ·exact h2
   ·intro e; subst e
    have:=congrArg Ob.cells (G0 (hh.symm.trans h2))
    simp [hob,hcl] at this)
 | own h1 h2 h4 h3 => exact .own h1 (by
   rw [Jj]
   ·exact h2
   ·intro e; subst e
    have:=congrArg Ob.exact (G0 (hh.symm.trans h2))
    simp [hob] at this) h4 h3
theorem Qmg {all l:List Nat} {off:Nat} (h:∀ i,i < l.length → all[off + i]? = l[i]?):((u8s all).drop off).take l.length = u8s l:=by
 apply Ym
 intro i
 rw [Ks]
 split
 ·rename_i hi
  rw [Vx]
  have:=h i hi
  simp only [u8s,Uw,this]
 ·rename_i hi
  rw [J0 (by rw [X2]; omega)]
theorem Rst.append {K:Nat → Prop} {H:List Ob} {v x:Value} {l p:List Nat} (h:Rst K H v l) (hK:∀ i,K i → i < H.length) (hl:Go.Ev.lenV x = some p.length) (he:elemsOf H 1 p.length x = some (u8s p)) (hb:l.length + p.length ≤ 2 ^ 47) :
  ∃ v' H' M,Y4 1 1 H v x = some (v',H',none,M) ∧ Rst K H' v' (l ++ p) ∧ (∀ i ∈ M,¬ K i) ∧ H.length ≤ H'.length ∧ (∀ i,K i → H'[i]? = H[i]?) ∧ ∀ (i:Nat) (o:Ob),H[i]? = some o → o.exact = true → H'[i]? = some o:=by
 rcases Yd p.length with hn | hn
 ·have:p = []:=Yl hn
  subst this
  rw [Kw]
  refine ⟨v,H,[],?_,h,by simp,Zj _,fun _ _ => rfl,fun i o h _ => h⟩
  rw [Jf] at hl he
  cases h <;> simp only [Y4,hl,he,Q4,if_true]
 ·have h1:¬ p.length = 0:=by omega
  have hnew:¬ K H.length:=fun h => absurd (hK _ h) (Xj _)
  cases h with
  | nil =>
   refine ⟨.slice (some ⟨H.length,0,none⟩) p.length p.length,H ++ [Ob.grown 1 (u8s p)],[],?_,?_,by simp,by simp,?_,?_⟩
   ·have h2:(0 + p.length) * 1 ≤ 2 ^ 47 ∧ 0 < 1 ∧ 0 < 1:=⟨by simpa using hb,by decide,by decide⟩
    simp only [Y4,hl,he,Q4,if_neg h1,h2,and_self,not_true_eq_false,if_false,if_true]
   ·rw [Za]
    exact .own (all:=p) hnew (by simp [Ob.grown]) (by omega) (fun i _ => by rw [Z1])
   ·intro i hi; rw [Qy (hK i hi)]
   ·intro i o ho _; rw [Qy (Q8.1 ho).1]; exact ho
  | @empty id0 k1 k2 =>
   refine ⟨.slice (some ⟨H.length,0,none⟩) (0 + p.length) (0 + p.length),H ++ [Ob.grown 1 ([] ++ u8s p)],[],?_,?_,by simp,by simp,?_,?_⟩
   ·have h2:(0 + p.length) * 1 ≤ 2 ^ 47 ∧ 0 < 1 ∧ 0 < 1:=⟨by simpa using hb,by decide,by decide⟩
    have h4:liveAt H id0 = some ⟨[],true,true,true,1⟩:=Yg k2 rfl
    have h7:¬ (0 + p.length ≤ 0):=by omega
    have h8:elemsOf H 1 0 (.slice (some ⟨id0,0,none⟩) 0 0) = some []:=by simp [elemsOf,h4]
    simp only [Y4,hl,he,Q4,if_neg h1,h2,and_self,not_true_eq_false,if_false,if_true,h4,h8,if_neg h7]
   ·rw [Za,Za,Z1]
    exact .own (all:=p) hnew (by simp [Ob.grown]) (by omega) (fun i _ => by rw [Z1])
   ·intro i hi; rw [Qy (hK i hi)]
   ·intro i o ho _; rw [Qy (Q8.1 ho).1]; exact ho
  | @own id0 off all _ k1 k2 k4 k3 =>
   have hid:id0 < H.length:=(Q8.1 k2).1
   refine ⟨.slice (some ⟨H.length,0,none⟩) (l.length + p.length) (l.length + p.length),(H.set id0 Ob.dead) ++ [Ob.grown 1 (u8s l ++ u8s p)],[id0],?_,?_,by simpa using k1,by simp,?_,?_⟩
   ·have h2:(l.length + p.length) * 1 ≤ 2 ^ 47 ∧ 0 < 1 ∧ 0 < 1:=⟨by omega,by decide,by decide⟩
    have h4:liveAt H id0 = some ⟨u8s all,true,true,false,1⟩:=Yg k2 rfl
    have h7:¬ (l.length + p.length ≤ l.length):=by omega
    have h8:elemsOf H 1 l.length (.slice (some ⟨id0,off,none⟩) l.length l.length) = some (u8s l):=by
     have:=Qmg k3
     simp only [elemsOf,h4,Q4,Xy]
     rw [this]
     simp [X2,k4]
    simp only [Y4,hl,he,Q4,if_neg h1,h2,and_self,not_true_eq_false,if_false,if_true,h4,h8,if_neg h7,Zv,Zj]
   ·have:=Rst.own (K:=K) (H:=(H.set id0 Ob.dead) ++ [Ob.grown 1 (u8s l ++ u8s p)]) (id:=H.length) (off:=0) (all:=l ++ p) (l:=l ++ p) hnew (by simp [Ob.grown,u8s]) (by omega) (fun i _ => by rw [Z1])
    rwa [Z4] at this
   ·intro i hi
    rw [Qy (by rw [Xe]; exact hK i hi),Jj (fun e => k1 (by rw [e]; exact hi))]
   ·intro i o ho hex
    rw [Qy (by rw [Xe]; exact (Q8.1 ho).1),Jj]
    ·exact ho
    ·intro e; subst e; rw [k2] at ho; cases ho; cases hex
end Go.Ev.YtgacigcbglflkaaGreat
set_option linter.unusedSimpArgs false
set_option linter.unusedVariables false
namespace Go.Ev.YtgacigcbglflkaaGreat
open Go Go.Ev
attribute [local congr] W7 Ul W6 Um Wv
set_option maxRecDepth 100000
theorem Qax (b:List Nat):∀ n,(stK n b).length = 8
 | 0 => rfl
 | n + 1 => Q17 (Qax b n)
theorem Qvk:∀ x ∈ Hy,x < 18446744073709551616:=by decide
theorem Qkt (b:List Nat):∀ n,∀ x ∈ stK n b,x < 18446744073709551616
 | 0 => Qvk
 | n + 1 => Q6k
theorem Qq5 (a b:List Nat):∀ q,128 * q ≤ a.length → stK q (a ++ b) = stK q a
 | 0,_ => rfl
 | q + 1,h => by
  rw [stK,stK,Qq5 a b q (by omega),Uj (by omega),Wt (by rw [Vs]; omega)]
def Hsh (K:Nat → Prop) (H:List Ob) (hid:Nat) (all:List Nat):Prop:=∃ rv,H[hid]? = some (hob rv all.length (stK (all.length / 128) all)) ∧ Rst K H rv (all.drop (128 * (all.length / 128)))
def fdF (hid:Nat):Value := .func (.func 99) [Value.pointer (some ⟨hid,0,none⟩)].toArray [].toArray
def fdI (hid:Nat) (H:List Ob) (L:List Nat) (ex:Env):St:=⟨[(0,.pointer (some ⟨hid,0,none⟩)),(1,.int .i64 128),(3,fdF hid)] ++ ex,H,L⟩
theorem Q1u {K:Nat → Prop} {H:List Ob} {hid b0 n:Nat} {rv:Value} {st rest L:List Nat} {ex:Env} (hK:∀ i,K i → i < H.length) (hKh:¬ K hid) (hh:H[hid]? = some (hob rv n st)) (hs:st.length = 8) (hx:∀ x ∈ st,x < 18446744073709551616) (hr:Rst K H rv rest) (h128:128 ≤ rest.length) (xr:∀ x ∈ rest,x < 256) (hL:∀ i ∈ L,¬ K i) (hmx:rest.length < 2 ^ 60) :
  ∃ rv' H' L' ex',Jl T b0 Qdx (fdI hid H L ex) = some (.normal,fdI hid H' L' ex') ∧ H'[hid]? = some (hob rv' n (blk st (rest.take 128))) ∧ Rst K H' rv' (rest.drop 128) ∧ (∀ i,K i → H'[i]? = H[i]?) ∧ H.length ≤ H'.length ∧ ∀ i ∈ L',¬ K i:=by
 have hlt:hid < H.length:=(Q8.1 hh).1
 cases hr with
 | nil => exact absurd h128 (by decide)
 | empty _ _ => exact absurd h128 (by decide)
 | @own id off all _ k1 k2 k4 k3 =>
  have hidne:id ≠ hid:=fun e => by
   subst e
   have:=congrArg Ob.exact (G0 (hh.symm.trans k2))
   simp [hob] at this
  have hBB:BB H id off (rest.take 128):=⟨⟨all,k2,fun i hi => by
   rw [Js] at hi
   rw [k3 i (by omega),Ks,if_pos (by omega)]⟩,fun x hx => xr x (Kp hx)⟩
  have hl:(rest.take 128).length = 128:=by rw [Js]; omega
  obtain ⟨w,s,M,hb,hM⟩:=Qys (cap:=rest.length) hh hs hx hBB hl h128
  have c0:∀ s',(hcl (.slice (some ⟨id,off,none⟩) rest.length rest.length) n s')[0]? = some (.slice (some ⟨id,off,none⟩) rest.length rest.length):=fun _ => rfl
  have cs:∀ s' v,(hcl (.slice (some ⟨id,off,none⟩) rest.length rest.length) n s').set 0 v = hcl v n s':=fun _ _ => rfl
  have cl:∀ v s',(1 ≤ (hcl v n s').length) = True:=fun v s' => eq_true (by rw [Qa5]; omega)
  have b1:W4 rest.length rest.length none (some (.int .i64 128)) none = some (0,128,rest.length):=by
   have n1:Dl (some (.int .i64 128)) rest.length rest.length = some 128:=Gv (n:=128) h128
   rw [Bo,n1,Q4]; rfl
  have b2:W4 rest.length rest.length (some (.int .i64 128)) none none = some (128,rest.length,rest.length):=by
   have n1:Dl (some (.int .i64 128)) rest.length 0 = some 128:=Gv (n:=128) h128
   rw [Bo,Tf,Q4,n1,Q4]
  have e1:((128:Int) ≤ (rest.length:Int)) = True:=eq_true (by omega)
  have g0:H[hid]? = some ⟨hcl (.slice (some ⟨id,off,none⟩) rest.length rest.length) n st,true,true,true,1⟩:=hh
  have g1:∀ o:Ob,(H.set hid o ++ [w,s])[hid]? = some o:=fun o => by
   rw [Qy (by rw [Xe]; exact hlt),Xp hlt]
  have g2:∀ o:Ob,(H.set hid o ++ [w,s])[id]? = some ⟨u8s all,true,true,false,1⟩:=fun o => by
   rw [Qy (by rw [Xe]; exact (Q8.1 k2).1),Jj (Ne.symm hidne)]; exact k2
  have g3:∀ o o':Ob,(H.set hid o ++ [w,s]).set hid o' = H.set hid o' ++ [w,s]:=fun o o' => by
   rw [Ro _ _ (by rw [Xe]; exact hlt),Qd2]
  refine ⟨.slice (some ⟨id,off + 128,none⟩) (rest.length - 128) (rest.length - 128),H.set hid (hob (.slice (some ⟨id,off + 128,none⟩) (rest.length - 128) (rest.length - 128)) n (blk st (rest.take 128))) ++ [w,s],Xo b0 (Xo b0 L M) [hid],[],?_,g1 _,?_,?_,?_,?_⟩
  ·simp only [hob] at hb ⊢
   generalize blk st (rest.take 128) = st' at *
   simp only [fdI,fdF,Qdx,↓Zr,Z0,quiet,cF,↓pF,reduceCtorEq,Qb,Qp,Zi,Zf,Zg,Ze,Zc,Qj,Q3,Qi,Q2,Q6,Q5,↓Zu,↓Zm,↓Z5,↓Z9,↓Z6,↓Z7,cL,Qo,Qn,Qx,Qw,Qu,Ql,Qk,Qv,Qd,Qz,Q0,Qq,Qf,Qh,Qg,Qt,Qs,Qr,Qm,Qe,cJ,e1,b1,b2,hb,c0,cs,cl,g0,k2,g1,g2,g3]
  ·have:=Rst.own (K:=K) (H:=H.set hid (hob (.slice (some ⟨id,off + 128,none⟩) (rest.length - 128) (rest.length - 128)) n (blk st (rest.take 128))) ++ [w,s]) (id:=id) (off:=off + 128) (all:=all) (l:=rest.drop 128) k1 (g2 _) (by rw [Vs]; omega) (fun i hi => by
    rw [Vs] at hi
    rw [Vx,← k3 _ (by omega),Ka])
   rwa [Vs] at this
  ·intro i hi
   rw [Qy (by rw [Xe]; exact hK i hi),Jj (fun e => hKh (by rw [e]; exact hi))]
  ·simp
  ·intro i hi
   rcases Wy hi with h | h
   ·rcases Wy h with h | h
    ·exact hL i h
    ·rw [hM i h]; exact hKh
   ·rw [Bu.1 h]; exact hKh
theorem Rst.shape {K:Nat → Prop} {H:List Ob} {v:Value} {l:List Nat} (h:Rst K H v l):∃ (a:Option Addr) (c:Nat),v = .slice a l.length c:=by
 cases h with
 | nil => exact ⟨_,_,rfl⟩
 | empty _ _ => exact ⟨_,_,rfl⟩
 | own _ _ _ _ => exact ⟨_,_,rfl⟩
theorem Q1s {K:Nat → Prop} {H:List Ob} {hid:Nat} {x:Value} {all p:List Nat} (hK:∀ i,K i → i < H.length) (hKh:¬ K hid) (hh:Hsh K H hid all) (xa:∀ y ∈ all,y < 256) (xp:∀ y ∈ p,y < 256)
  (hl:∃ (a:Option Addr) (c:Nat),x = .slice a p.length c) (he:∀ o,elemsOf (H.set hid o) 1 p.length x = some (u8s p)) (hb:all.length + p.length < 2 ^ 50) (hb2:p.length ≤ 2 ^ 47 - 128) :
  ∃ H' M,V6 T 98 [.pointer (some ⟨hid,0,none⟩),.int .i64 128,x,fdF hid] H = some (.tuple #[],H',M) ∧ Hsh K H' hid (all ++ p) ∧ (∀ i,K i → H'[i]? = H[i]?) ∧ H.length ≤ H'.length ∧ ∀ i ∈ M,¬ K i:=by
 obtain ⟨rv,h1,h2⟩:=hh
 have hlt:hid < H.length:=(Q8.1 h1).1
 obtain ⟨q0,hq0⟩:∃ q,q = all.length / 128:=⟨_,rfl⟩
 rw [← hq0] at h1 h2
 have hq1:128 * q0 ≤ all.length:=by rw [hq0]; omega
 have hst:stK q0 all = stK q0 (all ++ p):=(Qq5 all p q0 hq1).symm
 have hN:(all ++ p).length = all.length + p.length:=Z4
 rw [hst] at h1
 obtain ⟨st0,hst0⟩:∃ s,s = stK q0 (all ++ p):=⟨_,rfl⟩
 rw [← hst0] at h1
 have hrest:all.drop (128 * q0) ++ p = (all ++ p).drop (128 * q0):=(Uj hq1).symm
 have hrl:(all.drop (128 * q0)).length ≤ 127:=by rw [Vs,hq0]; omega
 have hr1:Rst K (H.set hid (hob rv (all.length + p.length) st0)) rv (all.drop (128 * q0)):=h2.setH h1 _
 have hK1:∀ i,K i → i < (H.set hid (hob rv (all.length + p.length) st0)).length:=fun i hi => by rw [Xe]; exact hK i hi
 have hlen:Go.Ev.lenV x = some p.length:=by obtain ⟨a,c,rfl⟩:=hl; rfl
 obtain ⟨rv',H2,M2,ha,a1,a2,a3,a4,a5⟩:=hr1.append hK1 hlen (he _) (by omega)
 have hg1:(H.set hid (hob rv (all.length + p.length) st0))[hid]? = some (hob rv (all.length + p.length) st0):=Xp hlt
 have hg2:=a5 hid _ hg1 rfl
 rw [Xe] at a3
 have hlt2:hid < H2.length:=by omega
 have hr3:Rst K (H2.set hid (hob rv' (all.length + p.length) st0)) rv' ((all ++ p).drop (128 * q0)):=by
  rw [hrest] at a1
  exact a1.setH hg2 _
 have hg3:(H2.set hid (hob rv' (all.length + p.length) st0))[hid]? = some (hob rv' (all.length + p.length) st0):=Xp hlt2
 obtain ⟨H3,hH3⟩:∃ X,X = H2.set hid (hob rv' (all.length + p.length) st0):=⟨_,rfl⟩
 have hf3:∀ i,K i → H3[i]? = H[i]? := fun i hi => by
  have hne:hid ≠ i:=fun e => hKh (by rw [e]; exact hi)
  rw [hH3,Jj hne,a4 i hi,Jj hne]
 have hl3:H.length ≤ H3.length:=by rw [hH3,Xe]; exact a3
 obtain ⟨L3,hL3⟩:∃ L,L = Xo H.length (Xo H.length (Xo H.length [] [hid]) M2) [hid]:=⟨_,rfl⟩
 have hL3':∀ i ∈ L3,¬ K i:=fun i hi => by
  rw [hL3] at hi
  rcases Wy hi with h | h
  ·rcases Wy h with h | h
   ·rcases Wy h with h | h
    ·simp at h
    ·rw [Bu.1 h]; exact hKh
   ·exact a2 i h
  ·rw [Bu.1 h]; exact hKh
 rw [← hH3] at hr3 hg3
 obtain ⟨st,hloop,H',L',ex',rvf,rfl,f1,f2,f3,f4,f5⟩:=Vi (T:=T) (base:=H.length) (id:=0) (body:=Qdx)
  (fun k st => ∃ H' L' ex' rvk,st = fdI hid H' L' ex' ∧ H'[hid]? = some (hob rvk (all.length + p.length) (stK (q0 + k) (all ++ p))) ∧ Rst K H' rvk ((all ++ p).drop (128 * (q0 + k))) ∧ (∀ i,K i → H'[i]? = H[i]?) ∧ H.length ≤ H'.length ∧ ∀ i ∈ L',¬ K i)
  (Q:=fun st => ∃ H' L' ex' rvk,st = fdI hid H' L' ex' ∧ H'[hid]? = some (hob rvk (all.length + p.length) (stK ((all ++ p).length / 128) (all ++ p))) ∧ Rst K H' rvk ((all ++ p).drop (128 * ((all ++ p).length / 128))) ∧ (∀ i,K i → H'[i]? = H[i]?) ∧ H.length ≤ H'.length ∧ ∀ i ∈ L',¬ K i)
  ((all ++ p).length / 128 - q0) (s:=fdI hid H3 L3 []) ⟨H3,L3,[],rv',rfl,by rw [Jr,← hst0]; exact hg3,by rw [Jr]; exact hr3,hf3,hl3,hL3'⟩
  (fun k st hk hs => by
   obtain ⟨Hk,Lk,exk,rvk,rfl,k1,k2,k3,k4,k5⟩:=hs
   obtain ⟨rv2,Hk2,L2,ex2,j1,j2,j3,j4,j5,j6⟩:=Q1u (b0:=H.length) (ex:=exk) (fun i hi => X1 (hK i hi) k4) hKh k1 (Qax _ _) (Qkt _ _) k2 (by rw [Vs]; omega) (fun y hy => by
    rcases Jb.1 (Yz hy) with h | h
    ·exact xa y h
    ·exact xp y h) k5 (by rw [Vs]; omega)
   refine ⟨_,j1,Hk2,L2,ex2,rv2,rfl,j2,?_,fun i hi => (j4 i hi).trans (k3 i hi),Un k4 j5,j6⟩
   rw [Tv] at j3
   rw [show 128 * (q0 + (k + 1)) = 128 * (q0 + k) + 128 by omega]
   exact j3)
  (fun st hs => by
   obtain ⟨Hk,Lk,exk,rvk,rfl,k1,k2,k3,k4,k5⟩:=hs
   have hqq:q0 + ((all ++ p).length / 128 - q0) = (all ++ p).length / 128:=by
    have:q0 ≤ (all ++ p).length / 128:=by rw [hq0,hN]; omega
    omega
   rw [hqq] at k1 k2
   have hrl2:((all ++ p).drop (128 * ((all ++ p).length / 128))).length < 128:=by rw [Vs]; omega
   obtain ⟨v,c,hv⟩:=k2.shape
   refine ⟨_,?_,Hk,Lk,[(33,.bool false)],rvk,rfl,k1,k2,k3,k4,k5⟩
   subst hv
   have c0:∀ v' s',(hcl v' (all.length + p.length) s')[0]? = some v':=fun _ _ => rfl
   have e1:((128:Int) ≤ (((all ++ p).drop (128 * ((all ++ p).length / 128))).length:Int)) = False:=eq_false (by omega)
   simp only [hob] at k1
   generalize ((all ++ p).drop (128 * ((all ++ p).length / 128))).length = rl at *
   generalize stK ((all ++ p).length / 128) (all ++ p) = sk at *
   simp only [fdI,fdF,Qdx,↓Zr,Z0,quiet,cF,↓pF,reduceCtorEq,Qb,Qp,Zi,Zf,Zg,Ze,Zc,Qj,Q3,Qi,Q2,Q6,Q5,↓Zu,↓Zm,↓Z5,↓Z9,↓Z6,↓Z7,cL,Qo,Qn,Qx,Qw,Qu,Ql,Qk,Qv,Qd,Qz,Q0,Qq,Qf,Qh,Qg,Qt,Qs,Qr,Qm,Qe,cJ,e1,k1,c0])
 refine ⟨H',L',?_,⟨rvf,by rw [hN] at f1 ⊢; exact f1,f2⟩,f3,f4,f5⟩
 obtain ⟨c1,c2,rfl⟩:=hl
 simp only [fdI,Zb,Za,hL3] at hloop
 simp only [hob] at h1 ha hg2 hH3
 have w1:IntKind.u64.wrap (p.length:Int) = (p.length:Int):=D9 (by omega)
 have w2:IntKind.u64.wrap ((all.length:Int) + (p.length:Int)) = ((all.length + p.length:Nat):Int):=Dy (by omega)
 have c0:∀ v' n' s',(hcl v' n' s')[0]? = some v':=fun _ _ _ => rfl
 have c1':∀ v' (n':Nat) s',(hcl v' n' s')[1]? = some (.int .u64 n'):=fun _ _ _ => rfl
 have s0:∀ v' n' s' v,(hcl v' n' s').set 0 v = hcl v n' s':=fun _ _ _ _ => rfl
 have s1:∀ v' n' s' (m:Nat),(hcl v' n' s').set 1 (.int .u64 (m:Int)) = hcl v' m s':=fun _ _ _ _ => rfl
 have cl:∀ v n' s',(1 ≤ (hcl v n' s').length) = True:=fun v n' s' => eq_true (by rw [Qa5]; omega)
 have cl2:∀ v n' s',(2 ≤ (hcl v n' s').length) = True:=fun v n' s' => eq_true (by rw [Qa5]; omega)
 have hgs:∀ o:Ob,(H.set hid o)[hid]? = some o:=fun o => Xp hlt
 obtain ⟨vr,cr,hvr⟩:=a1.shape
 have hok:Yk rv' = true:=by rw [hvr]; rfl
 have hc1:rv'.cells.toList = [rv']:=by rw [hvr]; rfl
 have hc2:rv'.cells.size = 1:=by rw [hvr]; rfl
 clear hvr
 generalize all.length + p.length = NN at *
 rw [Jc (fn:=Q29) rfl]
 simp only [Q29,↓Zr,Z0,quiet,cF,↓pF,reduceCtorEq,Qb,Qp,Zi,Zf,Zg,Ze,Zc,Qj,Q3,Qi,Q2,Q6,Q5,↓Zu,↓Zm,↓Z5,↓Z9,↓Z6,↓Z7,cL,Qo,Qn,Qx,Qw,Qu,Ql,Qk,Qv,Qd,Qz,Q0,Qq,Qf,Qh,Qg,Qt,Qs,Qr,Qm,Qe,cJ,fdF,h1,c0,c1',s0,s1,cl,cl2,w1,w2,hgs,ha,hg2,← hH3,hok,hc1,hc2]
 simp only [fdF] at hloop
 simp only [hloop,Z0,quiet,cF,↓pF,reduceCtorEq,Qb,Qp,Zi,Zf,Zg,Ze,Zc,Qj,Q3,Qi,Q2,Q6,Q5,↓Zu,↓Zm,↓Z5,↓Z9,↓Z6,↓Z7,cL,Qo,Qn,Qx,Qw,Qu,Ql,Qk,Qv,Qd,Qz,Q0,Qq,Qf,Qh,Qg,Qt,Qs,Qr,Qm,Qe]
 rfl
structure HPart (K:Nat → Prop) (H:List Ob) (x:Value) (p:List Nat):Prop where
 shape:∃ (a:Option Addr) (c:Nat),x = .slice a p.length c
 reads:∀ G:List Ob,(∀ i,K i → G[i]? = H[i]?) → elemsOf G 1 p.length x = some (u8s p)
 lt:∀ y ∈ p,y < 256
 le:p.length ≤ 2 ^ 47 - 128
theorem HPart.of {K:Nat → Prop} {H G:List Ob} {x:Value} {p:List Nat} (h:HPart K H x p) (hg:∀ i,K i → G[i]? = H[i]?):HPart K G x p :=
 ⟨h.shape,fun G' hG' => h.reads G' fun i hi => (hG' i hi).trans (hg i hi),h.lt,h.le⟩
inductive HParts (K:Nat → Prop) (H:List Ob):List Value → List (List Nat) → Prop
 | nil:HParts K H [] []
 | cons {x:Value} {p:List Nat} {xs:List Value} {ps:List (List Nat)}:HPart K H x p → HParts K H xs ps → HParts K H (x :: xs) (p :: ps)
theorem HParts.get {K:Nat → Prop} {H:List Ob}:∀ {xs:List Value} {ps:List (List Nat)},HParts K H xs ps → ∀ {i:Nat} {x:Value},xs[i]? = some x → ∃ p,ps[i]? = some p ∧ HPart K H x p
 | _,_,.nil,i,x,h => by simp at h
 | _,_,.cons a b,0,x,h => by simp at h; subst h; exact ⟨_,rfl,a⟩
 | _,_,.cons a b,i + 1,x,h => by
  obtain ⟨p,h1,h2⟩:=b.get (i:=i) (by simpa using h)
  exact ⟨p,by simpa using h1,h2⟩
theorem HParts.len {K:Nat → Prop} {H:List Ob}:∀ {xs:List Value} {ps:List (List Nat)},HParts K H xs ps → ps.length = xs.length
 | _,_,.nil => rfl
 | _,_,.cons _ b => by simp [b.len]
theorem HParts.lt {K:Nat → Prop} {H:List Ob}:∀ {xs:List Value} {ps:List (List Nat)},HParts K H xs ps → ∀ y ∈ ps.flatten,y < 256
 | _,_,.nil => by simp
 | _,_,.cons a b => by
  intro y hy
  rw [Vj] at hy
  rcases Jb.1 hy with h | h
  ·exact a.lt y h
  ·exact b.lt y h
def PV (K:Nat → Prop) (H:List Ob) (pv:Value) (xs:List Value):Prop:=(pv = .slice none 0 0 ∧ xs = []) ∨ ∃ pid off cap o,pv = .slice (some ⟨pid,off,none⟩) xs.length cap ∧ K pid ∧ H[pid]? = some o ∧ o.live = true ∧ ∀ i,i < xs.length → o.cells[off + i]? = xs[i]?
def wrI (hid:Nat) (pv:Value) (n:Nat) (i:Int) (H:List Ob) (L:List Nat) (ex:Env):St:=⟨[(0,.pointer (some ⟨hid,0,none⟩)),(6,pv),(7,.int .i64 n),(8,.int .i64 i)] ++ ex,H,L⟩
theorem Qy5 {K:Nat → Prop} {H H0:List Ob} {hid b0 i:Nat} {pv:Value} {xs:List Value} {ps:List (List Nat)} {all L:List Nat} (hK:∀ i,K i → i < H.length) (hKh:¬ K hid) (hh:Hsh K H hid all) (xa:∀ y ∈ all,y < 256) (hp:PV K H0 pv xs) (hP:HParts K H0 xs ps) (hF:∀ i,K i → H[i]? = H0[i]?) (hL:∀ i ∈ L,¬ K i) (hi:i < xs.length) (hn:xs.length < 2 ^ 50) (hb:all.length + (ps.getD i []).length < 2 ^ 50) :
  ∃ H' L',Jl T b0 Qdz (wrI hid pv xs.length i H L []) = some (.normal,wrI hid pv xs.length ((i + 1:Nat):Int) H' L' []) ∧ Hsh K H' hid (all ++ ps.getD i []) ∧ (∀ i,K i → H'[i]? = H[i]?) ∧ H.length ≤ H'.length ∧ ∀ i ∈ L',¬ K i:=by
 obtain ⟨x,hx⟩:∃ x,xs[i]? = some x:=⟨_,Q1 hi⟩
 obtain ⟨p,hpi,hpp⟩:=hP.get hx
 have hgd:ps.getD i [] = p:=by rw [Xh,hpi]; rfl
 rw [hgd] at hb ⊢
 obtain ⟨H',M,hf,f1,f2,f3,f4⟩:=Q1s hK hKh hh xa hpp.lt hpp.shape (fun o => hpp.reads _ (fun j hj => by
  rw [Jj (fun e => hKh (by rw [e]; exact hj))]; exact hF j hj)) hb hpp.le
 rcases hp with ⟨-,h0⟩ | ⟨pid,off,cap,o,rfl,kp,ho,hlv,hc⟩
 ·rw [h0] at hi; exact absurd hi (Jz _)
 ·have ho':H[pid]? = some o:=(hF pid kp).trans ho
  have hcx:o.cells[off + i]? = some x:=(hc i hi).trans hx
  have e1:((i:Int) < (xs.length:Int)) = True:=eq_true (by omega)
  have w3:IntKind.i64.wrap ((i:Int) + 1) = ((i + 1:Nat):Int):=Y0 (b:=1) (by omega)
  refine ⟨H',Xo b0 L M,?_,f1,f2,f3,fun j hj => ?_⟩
  ·simp only [fdF] at hf
   generalize i + 1 = i1 at *
   simp only [wrI,Qdz,↓Zr,Z0,quiet,cF,↓pF,reduceCtorEq,Qb,Qp,Zi,Zf,Zg,Ze,Zc,Qj,Q3,Qi,Q2,Q6,Q5,↓Zu,↓Zm,↓Z5,↓Z9,↓Z6,↓Z7,cL,Qo,Qn,Qx,Qw,Qu,Ql,Qk,Qv,Qd,Qz,Q0,Qq,Qf,Qh,Qg,Qt,Qs,Qr,Qm,Qe,cJ,e1,ho',hlv,hcx,w3,hf]
  ·rcases Wy hj with h | h
   ·exact hL j h
   ·exact f4 j h
theorem Ql7 {K:Nat → Prop} {H:List Ob} {hid:Nat} {pv:Value} {xs:List Value} {ps:List (List Nat)} {all:List Nat} (hK:∀ i,K i → i < H.length) (hKh:¬ K hid) (hh:Hsh K H hid all) (xa:∀ y ∈ all,y < 256) (hp:PV K H pv xs) (hP:HParts K H xs ps) (hn:xs.length < 2 ^ 50) (hb:(all ++ ps.flatten).length < 2 ^ 50) :
  ∃ H' M,V6 T 78 [.pointer (some ⟨hid,0,none⟩),pv] H = some (.tuple #[],H',M) ∧ Hsh K H' hid (all ++ ps.flatten) ∧ (∀ i,K i → H'[i]? = H[i]?) ∧ H.length ≤ H'.length ∧ ∀ i ∈ M,¬ K i:=by
 obtain ⟨st,hl,H',L',rfl,f1,f2,f3,f4⟩:=Vi (T:=T) (base:=H.length) (id:=0) (body:=Qdz)
  (fun i st => ∃ H' L',st = wrI hid pv xs.length (i:Nat) H' L' [] ∧ Hsh K H' hid (all ++ (ps.take i).flatten) ∧ (∀ i,K i → H'[i]? = H[i]?) ∧ H.length ≤ H'.length ∧ ∀ i ∈ L',¬ K i)
  (Q:=fun st => ∃ H' L',st = wrI hid pv xs.length (xs.length:Nat) H' L' [(9,.bool false)] ∧ Hsh K H' hid (all ++ ps.flatten) ∧ (∀ i,K i → H'[i]? = H[i]?) ∧ H.length ≤ H'.length ∧ ∀ i ∈ L',¬ K i)
  xs.length (s:=wrI hid pv xs.length 0 H [] []) ⟨H,[],rfl,by simpa using hh,fun _ _ => rfl,Zj _,by simp⟩
  (fun i st hi hs => by
   obtain ⟨H1,L1,rfl,g1,g2,g3,g4⟩:=hs
   have hpl:=hP.len
   have hsp:ps.flatten = (ps.take i).flatten ++ ((ps.getD i []) ++ (ps.drop (i + 1)).flatten):=by
    obtain ⟨p,hpi⟩:∃ p,ps[i]? = some p:=⟨_,Q1 (by omega)⟩
    have hgd:ps.getD i [] = p:=by rw [Xh,hpi]; rfl
    rw [hgd,← Vj,← Wa]
    congr 1
    have h1:=Q8.1 hpi
    conv => lhs; rw [← W1 i ps,U0 h1.1,h1.2]
   have htk:(ps.take (i + 1)).flatten = (ps.take i).flatten ++ ps.getD i []:=by
    obtain ⟨p,hpi⟩:∃ p,ps[i]? = some p:=⟨_,Q1 (by omega)⟩
    have hgd:ps.getD i [] = p:=by rw [Xh,hpi]; rfl
    rw [hgd,Yf,hpi,Wa]; simp
   have hlt:=hP.lt
   obtain ⟨H2,L2,j1,j2,j3,j4,j5⟩:=Qy5 (b0:=H.length) (fun j hj => X1 (hK j hj) g3) hKh g1 (fun y hy => by
    rcases Jb.1 hy with h | h
    ·exact xa y h
    ·exact hlt y (by rw [hsp]; exact List.mem_append_left _ h)) hp hP g2 g4 hi hn (by
     rw [hsp] at hb
     simp only [Z4] at hb ⊢
     omega)
   refine ⟨_,j1,H2,L2,rfl,by rw [htk,← Jx]; exact j2,fun j hj => (j3 j hj).trans (g2 j hj),Un g3 j4,j5⟩)
  (fun st hs => by
   obtain ⟨H1,L1,rfl,g1,g2,g3,g4⟩:=hs
   rw [Zl (by rw [hP.len]; exact Zj _)] at g1
   refine ⟨_,?_,H1,L1,rfl,g1,g2,g3,g4⟩
   have e1:((xs.length:Int) < (xs.length:Int)) = False:=eq_false (by omega)
   simp only [wrI,Qdz,Z0,quiet,cF,↓pF,reduceCtorEq,Qb,Qp,Zi,Zf,Zg,Ze,Zc,Qj,Q3,Qi,Q2,Q6,Q5,↓Zu,↓Zm,↓Z5,↓Z9,↓Z6,↓Z7,cL,Qo,Qn,Qx,Qw,Qu,Ql,Qk,Qv,Qd,Qz,Q0,Qq,Qf,Qh,Qg,Qt,Qs,Qr,Qm,Qe,cJ,e1])
 refine ⟨H',L',?_,f1,f2,f3,f4⟩
 simp only [wrI,Zb,Za,Xu] at hl
 have hlen:vLen false pv = some (.int .i64 xs.length):=by
  rcases hp with ⟨rfl,h0⟩ | ⟨pid,off,cap,o,rfl,-⟩
  ·rw [h0]; rfl
  ·rfl
 rw [Jc (fn:=Q3b) rfl]
 simp only [Q3b,↓Zr,Z0,quiet,cF,↓pF,reduceCtorEq,Qb,Qp,Zi,Zf,Zg,Ze,Zc,Qj,Q3,Qi,Q2,Q6,Q5,↓Zu,↓Zm,↓Z5,↓Z9,↓Z6,↓Z7,cL,Qo,Qn,Qx,Qw,Qu,Ql,Qk,Qv,Qd,Qz,Q0,Qq,Qf,Qh,Qg,Qt,Qs,Qr,Qm,Qe,cJ,hlen,hl]
 rfl
theorem Qw2:fillL (Value.slice none 0 0 :: Qa 9 (.int .u64 0)) [(2,8,.agg (ns .u64 Hy).toArray)] = some (hcl (.slice none 0 0) 0 Hy):=rfl
theorem Q5u (H:List Ob):V6 T 77 [] H = some (.pointer (some ⟨H.length,0,none⟩),H ++ [hob (.slice none 0 0) 0 Hy],[]):=by
 have hf:fillL (Qa 8 (Value.int .u64 0)) [(0,1,.int .u64 7640891576956012808),(1,1,.int .u64 13503953896175478587),(2,1,.int .u64 4354685564936845355),(3,1,.int .u64 11912009170470909681),(4,1,.int .u64 5840696475078001361),(5,1,.int .u64 11170449401992604703),(6,1,.int .u64 2270897969802886507),(7,1,.int .u64 6620516959819538809)] = some (ns .u64 Hy):=rfl
 have hf2:∀ a,fillL [Value.slice none 0 0,.int .u64 0,.int .u64 0,.int .u64 0,.int .u64 0,.int .u64 0,.int .u64 0,.int .u64 0,.int .u64 0,.int .u64 0] [(2,8,.agg (ns .u64 a).toArray)] = fillL (Value.slice none 0 0 :: Qa 9 (.int .u64 0)) [(2,8,.agg (ns .u64 a).toArray)]:=fun _ => rfl
 have hf3:=Qw2
 simp only [hob]
 generalize Hy = S at *
 generalize hcl (.slice none 0 0) 0 S = C at *
 rw [Jc (fn:=Q3c) rfl]
 simp only [Q3c,↓Zr,Z0,quiet,cF,↓pF,reduceCtorEq,Qb,Qp,Zi,Zf,Zg,Ze,Zc,Qj,Q3,Qi,Q2,Q6,Q5,↓Zu,↓Zm,↓Z5,↓Z9,↓Z6,↓Z7,cL,Qo,Qn,Qx,Qw,Qu,Ql,Qk,Qv,Qd,Qz,Q0,Qq,Qf,Qh,Qg,Qt,Qs,Qr,Qm,Qe,cJ,hf,hf2,hf3]
theorem Q01 {K:Nat → Prop} {H:List Ob} {hid:Nat} (h:H[hid]? = some (hob (.slice none 0 0) 0 Hy)):Hsh K H hid []:=⟨_,h,.nil⟩
def paI (hid:Nat) (s:Value) (Hc:List Ob) (ex:Env):St:=⟨[(0,.pointer (some ⟨hid,0,none⟩)),(1,.int .i64 128),(2,.int .i64 16),(7,s)] ++ ex,Hc,[]⟩
def pbI (hid:Nat) (s:Value) (i:Int) (Hc:List Ob) (ex:Env):St:=⟨[(0,.pointer (some ⟨hid,0,none⟩)),(7,s),(8,.int .i64 i)] ++ ex,Hc,[]⟩
theorem Qsx (n i:Nat):((n / 256 ^ (i + 1) * 8 % 256) ||| (n / 256 ^ i % 256 / 32)) = 8 * n / 256 ^ (i + 1) % 256:=by
 have h1:n / 256 ^ (i + 1) = n / 256 ^ i / 256:=by rw [Kq,X9]
 have h2:8 * n / 256 ^ (i + 1) = n / 256 ^ i / 32:=by
  rw [X9,Kq,show 256 ^ i * 256 = 8 * (256 ^ i * 32) by omega,Nat.mul_div_mul_left _ _ (by decide)]
 rw [h1,h2]
 generalize n / 256 ^ i = m
 have h3:m / 256 * 8 % 256 = (m / 256 % 32) * 2 ^ 3:=by omega
 rw [h3,Qaa (by omega)]
 omega
theorem Qg5 (n:Nat):(n + (1 + Gd n) + 16) % 128 = 0:=by unfold Gd; omega
theorem Qfi (n z:Nat) (h:z < Gd n):(n + (1 + z) + 16) % 128 ≠ 0:=by unfold Gd at h; omega
theorem Qc1 (n:Nat):Gd n < 128:=by unfold Gd; omega
theorem Q0j {H:List Ob} {hid n:Nat} {rv:Value} {st:List Nat} (hh:H[hid]? = some (hob rv n st)) (hn:n < 2 ^ 50) :
  ∃ s l,Jl T H.length (.block 0 (.loop Qdu)) (paI hid (.slice (some ⟨H.length,0,none⟩) 1 1) (H ++ [⟨[.int .u8 128],true,true,true,1⟩]) []) = some (.normal,paI hid s (H ++ l) [(23,.bool false)]) ∧ Grown .u8 H.length (H ++ l) s (128 :: Qa (Gd n) 0):=by
 have hlt:hid < H.length:=(Q8.1 hh).1
 have f0:fillL [Value.int .u8 0] [(0,1,.int .u8 0)] = some [.int .u8 0]:=rfl
 have c1:(hcl rv n st)[1]? = some (.int .u64 n):=rfl
 have hz:=Qc1 n
 obtain ⟨x,hb,s,Hc,rfl,hg,hL,hF⟩:=Vi (T:=T) (base:=H.length) (id:=0) (body:=Qdu)
  (fun j x => ∃ s Hc,x = paI hid s Hc [] ∧ Grown .u8 H.length Hc s (128 :: Qa j 0) ∧ H.length ≤ Hc.length ∧ ∀ i,i < H.length → Hc[i]? = H[i]?)
  (Q:=fun x => ∃ s Hc,x = paI hid s Hc [(23,.bool false)] ∧ Grown .u8 H.length Hc s (128 :: Qa (Gd n) 0) ∧ H.length ≤ Hc.length ∧ ∀ i,i < H.length → Hc[i]? = H[i]?)
  (Gd n) (s:=paI hid (.slice (some ⟨H.length,0,none⟩) 1 1) (H ++ [⟨[.int .u8 128],true,true,true,1⟩]) []) ⟨_,_,rfl,Grown.new (k := .u8) (id:=H.length) (bs:=[128]) (Zj _) (by decide) (by simp [Ob.fresh,ns]),by simp,fun i hi => Qy hi⟩
  (fun j x hj hx => by
   obtain ⟨s,Hc,rfl,hg,hL,hF⟩:=hx
   have hl:=hg.len
   have e1:(128 :: Qa j 0).length = 1 + j:=by simp; omega
   rw [e1] at hl
   obtain ⟨s',H',M,h1,h2,h3,h4,h5⟩:=Ml (x:=0) (bytes:=1) hg hL (by rw [e1]; omega) (by decide)
   have hm:Xo H.length [] M = []:=Yi h3
   have hget:Hc[hid]? = some ⟨hcl rv n st,true,true,true,1⟩:=(hF hid hlt).trans hh
   have w1:IntKind.i64.wrap (n:Int) = (n:Int):=wn (by omega)
   have w2:IntKind.i64.wrap ((n:Int) + ((1 + j:Nat):Int)) = ((n + (1 + j):Nat):Int):=Y0 (by omega)
   have w3:IntKind.i64.wrap (((n + (1 + j):Nat):Int) + 16) = ((n + (1 + j) + 16:Nat):Int):=Y0 (b:=16) (by omega)
   have w4:((n + (1 + j) + 16:Nat):Int).tmod 128 = (((n + (1 + j) + 16) % 128:Nat):Int):=rfl
   have w5:((((n + (1 + j) + 16) % 128:Nat):Int) != 0) = true:=bne_iff_ne.2 (by have:=Qfi n j hj; omega)
   refine ⟨paI hid s' H' [],?_,s',H',rfl,by rw [Rp,← Zb]; exact h2,h4,fun i hi => by rw [h5 i hi,hF i hi]⟩
   simp only [Xu] at h1
   generalize (n + (1 + j) + 16) % 128 = r at *
   generalize n + (1 + j) + 16 = r2 at *
   generalize n + (1 + j) = r3 at *
   simp only [paI,Qdu,↓Zr,Z0,quiet,cF,↓pF,reduceCtorEq,Qb,Qp,Zi,Zf,Zg,Ze,Zc,Qj,Q3,Qi,Q2,Q6,Q5,↓Zu,↓Zm,↓Z5,↓Z9,↓Z6,↓Z7,cL,Qo,Qn,Qx,Qw,Qu,Ql,Qk,Qv,Qd,Qz,Q0,Qq,Qf,Qh,Qg,Qt,Qs,Qr,Qm,Qe,cJ,hget,c1,hl,w1,w2,w3,w4,w5,f0,h1,hm])
  (fun x hx => by
   obtain ⟨s,Hc,rfl,hg,hL,hF⟩:=hx
   have hl:=hg.len
   have e1:(128 :: Qa (Gd n) 0).length = 1 + Gd n:=by simp; omega
   rw [e1] at hl
   have hget:Hc[hid]? = some ⟨hcl rv n st,true,true,true,1⟩:=(hF hid hlt).trans hh
   have w1:IntKind.i64.wrap (n:Int) = (n:Int):=wn (by omega)
   have w2:IntKind.i64.wrap ((n:Int) + ((1 + Gd n:Nat):Int)) = ((n + (1 + Gd n):Nat):Int):=Y0 (by omega)
   have w3:IntKind.i64.wrap (((n + (1 + Gd n):Nat):Int) + 16) = ((n + (1 + Gd n) + 16:Nat):Int):=Y0 (b:=16) (by omega)
   have w4:((n + (1 + Gd n) + 16:Nat):Int).tmod 128 = 0:=by
    have:((n + (1 + Gd n) + 16:Nat):Int).tmod 128 = (((n + (1 + Gd n) + 16) % 128:Nat):Int):=rfl
    rw [this,Qg5]; rfl
   refine ⟨_,?_,s,Hc,rfl,hg,hL,hF⟩
   generalize n + (1 + Gd n) + 16 = r2 at *
   generalize n + (1 + Gd n) = r3 at *
   simp only [paI,Qdu,↓Zr,Z0,quiet,cF,↓pF,reduceCtorEq,Qb,Qp,Zi,Zf,Zg,Ze,Zc,Qj,Q3,Qi,Q2,Q6,Q5,↓Zu,↓Zm,↓Z5,↓Z9,↓Z6,↓Z7,cL,Qo,Qn,Qx,Qw,Qu,Ql,Qk,Qv,Qd,Qz,Q0,Qq,Qf,Qh,Qg,Qt,Qs,Qr,Qm,Qe,cJ,hget,c1,hl,w1,w2,w3,w4])
 obtain ⟨l,rfl⟩:=Dz hL hF
 exact ⟨s,l,hb,hg⟩
def Mj (n i:Nat):Nat:=8 * n / 256 ^ (15 - i) % 256
theorem Q0i {H l0:List Ob} {hid n:Nat} {rv s0:Value} {st bs:List Nat} (hh:H[hid]? = some (hob rv n st)) (hn:n < 2 ^ 50) (hg0:Grown .u8 H.length (H ++ l0) s0 bs) (hbs:bs.length ≤ 200) :
  ∃ s l,Jl T H.length (.block 2 (.loop Tn)) (pbI hid s0 15 (H ++ l0) []) = some (.normal,pbI hid s (-1) (H ++ l) [(30,.bool false)]) ∧ Grown .u8 H.length (H ++ l) s (bs ++ (Y5 16).map (Mj n)):=by
 have hlt:hid < H.length:=(Q8.1 hh).1
 have c1:(hcl rv n st)[1]? = some (.int .u64 n):=rfl
 obtain ⟨x,hb,s,Hc,rfl,hg,hL,hF⟩:=Vi (T:=T) (base:=H.length) (id:=2) (body:=Tn)
  (fun j x => ∃ s Hc,x = pbI hid s ((15:Int) - j) Hc [] ∧ Grown .u8 H.length Hc s (bs ++ (Y5 j).map (Mj n)) ∧ H.length ≤ Hc.length ∧ ∀ i,i < H.length → Hc[i]? = H[i]?)
  (Q:=fun x => ∃ s Hc,x = pbI hid s (-1) Hc [(30,.bool false)] ∧ Grown .u8 H.length Hc s (bs ++ (Y5 16).map (Mj n)) ∧ H.length ≤ Hc.length ∧ ∀ i,i < H.length → Hc[i]? = H[i]?)
  16 (s:=pbI hid s0 15 (H ++ l0) []) ⟨_,_,rfl,by simpa using hg0,by simp,fun i hi => Qy hi⟩
  (fun j x hj hx => by
   obtain ⟨s,Hc,rfl,hg,hL,hF⟩:=hx
   obtain ⟨i,hi⟩:∃ i,i = 15 - j:=⟨_,rfl⟩
   rw [show (15:Int) - j = (i:Int) by omega,show (15:Int) - ((j + 1:Nat):Int) = (i:Int) - 1 by omega]
   have hl:=hg.len
   have hpd:Mj n j = 8 * n / 256 ^ i % 256:=by rw [hi]; rfl
   obtain ⟨s',H',M,h1,h2,h3,h4,h5⟩:=Ml (x:=Mj n j) (bytes:=1) hg hL (by rw [Z4,List.length_map,List.length_range]; omega) (by decide)
   have hm:Xo H.length [] M = []:=Yi h3
   have hget:Hc[hid]? = some ⟨hcl rv n st,true,true,true,1⟩:=(hF hid hlt).trans hh
   have fx:∀ a:Int,fillL [Value.int .u8 0] [(0,1,.int .u8 a)] = some [.int .u8 a]:=fun _ => rfl
   have w0:IntKind.i64.wrap ((i:Int) - 1) = (i:Int) - 1:=K9 (by omega) (by omega)
   have e0:((0:Int) ≤ (i:Int)) = True:=eq_true (by omega)
   refine ⟨pbI hid s' ((i:Int) - 1) H' [],?_,s',H',rfl,by rw [List.range_succ,G6,← Jx]; exact h2,h4,fun k hk => by rw [h5 k hk,hF k hk]⟩
   rw [hpd] at h1
   by_cases h9:i < 9
   ·have e9:((i:Int) < 9) = True:=eq_true (by omega)
    have w1:IntKind.i64.wrap (8 * (i:Int)) = ((8 * i:Nat):Int):=Qgb (a:=8) (by omega)
    have w2:(((8 * i:Nat):Int) < 0) = False:=eq_false (by omega)
    have w3:(n:Int).fdiv (2 ^ min (8 * i) IntKind.u64.bits) = ((n / 256 ^ i:Nat):Int):=by
     rw [Qjk (by omega),show (256:Nat) = 2 ^ 8 from rfl,← Yp]
    have hle:n / 256 ^ i ≤ n:=W9 _ _
    have w4:IntKind.u64.wrap (((n / 256 ^ i:Nat):Int) * 2 ^ min 3 IntKind.u64.bits) = ((n / 256 ^ i * 8:Nat):Int):=R8 (b:=8) (by omega)
    have w5:IntKind.u8.wrap ((n / 256 ^ i * 8:Nat):Int) = ((n / 256 ^ i * 8 % 256:Nat):Int):=Qp4 _
    by_cases hz:i = 0
    ·subst hz
     have e8:n / 256 ^ 0 * 8 % 256 = 8 * n / 256 ^ 0 % 256:=by rw [Ya,Wi,Wi]; omega
     rw [e8] at w5
     have ew:(8 * 0:Nat) = 0:=rfl
     simp only [ew,Xu] at w1 w2 w3
     generalize 8 * n / 256 ^ 0 % 256 = d at *
     generalize n / 256 ^ 0 * 8 = v1 at *
     generalize n / 256 ^ 0 = v2 at *
     simp only [pbI,Tn,↓Zr,Z0,quiet,cF,↓pF,reduceCtorEq,Qb,Qp,Zi,Zf,Zg,Ze,Zc,Qj,Q3,Qi,Q2,Q6,Q5,↓Zu,↓Zm,↓Z5,↓Z9,↓Z6,↓Z7,cL,Qo,Qn,Qx,Qw,Qu,Ql,Qk,Qv,Qd,Qz,Q0,Qq,Qf,Qh,Qg,Qt,Qs,Qr,Qm,Qe,cJ,hget,c1,w0,e0,e9,w1,w2,w3,w4,w5,fx,h1,hm]
    ·obtain ⟨k,rfl⟩:∃ k,i = k + 1:=⟨i - 1,by omega⟩
     have hd:=Qsx n k
     have ep:((0:Int) < ((k + 1:Nat):Int)) = True:=eq_true (by omega)
     have v1:IntKind.i64.wrap (((8 * (k + 1):Nat):Int) - 8) = ((8 * k:Nat):Int):=by rw [K9 (by omega) (by omega)]; omega
     have v2:(((8 * k:Nat):Int) < 0) = False:=eq_false (by omega)
     have v3:(n:Int).fdiv (2 ^ min (8 * k) IntKind.u64.bits) = ((n / 256 ^ k:Nat):Int):=by
      rw [Qjk (by omega),show (256:Nat) = 2 ^ 8 from rfl,← Yp]
     have v4:Vz .and .u64 ((n / 256 ^ k:Nat):Int) 255 = ((n / 256 ^ k % 256:Nat):Int):=Qb9 .u64 rfl 8 _ (by decide)
     have v5:((n / 256 ^ k % 256:Nat):Int).fdiv (2 ^ min 5 IntKind.u64.bits) = ((n / 256 ^ k % 256 / 32:Nat):Int):=Qjk (r:=5) (by decide)
     have v6:IntKind.u8.wrap ((n / 256 ^ k % 256 / 32:Nat):Int) = ((n / 256 ^ k % 256 / 32:Nat):Int):=by rw [Qp4,Z3 (by omega)]
     have v7:Vz .or .u8 ((n / 256 ^ (k + 1) * 8 % 256:Nat):Int) ((n / 256 ^ k % 256 / 32:Nat):Int) = ((8 * n / 256 ^ (k + 1) % 256:Nat):Int):=by
      rw [Gk rfl (show _ < 2 ^ 8 from Jk _ (by decide)) (show n / 256 ^ k % 256 / 32 < 2 ^ 8 by omega),hd]
     generalize 8 * n / 256 ^ (k + 1) % 256 = d at *
     generalize n / 256 ^ (k + 1) * 8 % 256 = u1 at *
     generalize n / 256 ^ (k + 1) * 8 = u2 at *
     generalize n / 256 ^ (k + 1) = u3 at *
     generalize n / 256 ^ k % 256 / 32 = u4 at *
     generalize n / 256 ^ k % 256 = u5 at *
     generalize n / 256 ^ k = u6 at *
     generalize 8 * (k + 1) = u7 at *
     generalize 8 * k = u8' at *
     generalize k + 1 = k1 at *
     simp only [pbI,Tn,↓Zr,Z0,quiet,cF,↓pF,reduceCtorEq,Qb,Qp,Zi,Zf,Zg,Ze,Zc,Qj,Q3,Qi,Q2,Q6,Q5,↓Zu,↓Zm,↓Z5,↓Z9,↓Z6,↓Z7,cL,Qo,Qn,Qx,Qw,Qu,Ql,Qk,Qv,Qd,Qz,Q0,Qq,Qf,Qh,Qg,Qt,Qs,Qr,Qm,Qe,cJ,hget,c1,w0,e0,e9,ep,w1,w2,w3,w4,w5,v1,v2,v3,v4,v5,v6,v7,fx,h1,hm]
   ·have e9:((i:Int) < 9) = False:=eq_false (by omega)
    have ep:((0:Int) < (i:Int)) = True:=eq_true (by omega)
    have hz:8 * n / 256 ^ i % 256 = 0:=by
     have:(256:Nat) ^ 9 ≤ 256 ^ i:=Vf (by decide) (by omega)
     rw [Wz (X1 (by omega) this)]
    rw [hz] at h1
    simp only [Xu] at h1
    simp only [pbI,Tn,↓Zr,Z0,quiet,cF,↓pF,reduceCtorEq,Qb,Qp,Zi,Zf,Zg,Ze,Zc,Qj,Q3,Qi,Q2,Q6,Q5,↓Zu,↓Zm,↓Z5,↓Z9,↓Z6,↓Z7,cL,Qo,Qn,Qx,Qw,Qu,Ql,Qk,Qv,Qd,Qz,Q0,Qq,Qf,Qh,Qg,Qt,Qs,Qr,Qm,Qe,cJ,hget,c1,w0,e0,e9,ep,fx,h1,hm])
  (fun x hx => by
   obtain ⟨s,Hc,rfl,hg,hL,hF⟩:=hx
   have e:((0:Int) ≤ -1) = False:=by decide
   refine ⟨_,?_,s,Hc,rfl,hg,hL,hF⟩
   rw [show (15:Int) - ((16:Nat):Int) = -1 by omega]
   simp only [pbI,Tn,Z0,quiet,cF,↓pF,reduceCtorEq,Qb,Qp,Zi,Zf,Zg,Ze,Zc,Qj,Q3,Qi,Q2,Q6,Q5,↓Zu,↓Zm,↓Z5,↓Z9,↓Z6,↓Z7,cL,Qo,Qn,Qx,Qw,Qu,Ql,Qk,Qv,Qd,Qz,Q0,Qq,Qf,Qh,Qg,Qt,Qs,Qr,Qm,Qe,e])
 obtain ⟨l,rfl⟩:=Dz hL hF
 exact ⟨s,l,hb,hg⟩
theorem Qrh (n:Nat):Rj n = (128 :: Qa (Gd n) 0) ++ (Y5 16).map (Mj n):=by unfold Rj Mj; rw [Zb]
theorem Qpr {H:List Ob} {hid n:Nat} {rv:Value} {st:List Nat} (hh:H[hid]? = some (hob rv n st)) (hn:n < 2 ^ 50) :
  ∃ s l,V6 T 100 [.pointer (some ⟨hid,0,none⟩),.int .i64 128,.int .i64 16] H = some (s,H ++ l,[]) ∧ Grown .u8 H.length (H ++ l) s (Rj n):=by
 obtain ⟨s1,l1,h1,g1⟩:=Q0j hh hn
 have hz:=Qc1 n
 obtain ⟨s2,l2,h2,g2⟩:=Q0i hh hn g1 (by simp; omega)
 rw [← Qrh] at g2
 refine ⟨s2,l2,?_,g2⟩
 have f128:fillL [Value.int .u8 0] [(0,1,.int .u8 128)] = some [.int .u8 128]:=rfl
 have w1:IntKind.i64.wrap 15 = 15:=by decide
 simp only [paI,Zb,Za] at h1
 simp only [pbI,Zb,Za] at h2
 rw [Jc (fn:=Q27) rfl]
 simp only [Q27,↓Zr,Z0,quiet,cF,↓pF,reduceCtorEq,Qb,Qp,Zi,Zf,Zg,Ze,Zc,Qj,Q3,Qi,Q2,Q6,Q5,↓Zu,↓Zm,↓Z5,↓Z9,↓Z6,↓Z7,cL,Qo,Qn,Qx,Qw,Qu,Ql,Qk,Qv,Qd,Qz,Q0,Qq,Qf,Qh,Qg,Qt,Qs,Qr,Qm,Qe,cJ,f128,h1,w1,h2]
theorem Rst.elems {K:Nat → Prop} {H:List Ob} {v:Value} {l:List Nat} (h:Rst K H v l):elemsOf H 1 l.length v = some (u8s l):=by
 cases h with
 | nil => rfl
 | empty _ h2 => simp [elemsOf,Yg h2 rfl,u8s]
 | own h1 h2 h4 h3 => simp [elemsOf,Yg h2 rfl,X2,h4,Qmg h3]
theorem Qud {K:Nat → Prop} {G:List Ob} {e:Nat} {x:Value} {p:List Nat} (he:G[e]? = some ⟨[],true,true,true,1⟩) (hKe:¬ K e) (hKg:¬ K G.length) (hl:Go.Ev.lenV x = some p.length) (hel:elemsOf G 1 p.length x = some (u8s p)) (hb:p.length ≤ 2 ^ 47) :
  ∃ v' l,Y4 1 1 G (.slice (some ⟨e,0,none⟩) 0 0) x = some (v',G ++ l,none,[]) ∧ Rst K (G ++ l) v' p ∧ Yk v' = true ∧ v'.cells.toList = [v'] ∧ v'.cells.size = 1:=by
 have h4:liveAt G e = some ⟨[],true,true,true,1⟩:=Yg he rfl
 rcases Yd p.length with hn | hn
 ·have:p = []:=Yl hn
  subst this
  refine ⟨.slice (some ⟨e,0,none⟩) 0 0,[],?_,by rw [Kw]; exact .empty hKe he,rfl,rfl,rfl⟩
  rw [Jf] at hl hel
  simp only [Y4,hl,hel,Q4,if_true,Kw]
 ·have h1:¬ p.length = 0:=by omega
  have h2:p.length * 1 ≤ 2 ^ 47:=by omega
  have h7:¬ (p.length ≤ 0):=by omega
  have h8:elemsOf G 1 0 (.slice (some ⟨e,0,none⟩) 0 0) = some []:=by simp [elemsOf,h4]
  refine ⟨.slice (some ⟨G.length,0,none⟩) p.length p.length,[Ob.grown 1 (u8s p)],?_,.own (all:=p) hKg (by simp [Ob.grown]) (by omega) (fun i _ => by rw [Z1]),rfl,rfl,rfl⟩
  simp only [Y4,hl,hel,Q4,if_neg h1,Z1,h2,Qug,R5,and_self,not_true_eq_false,if_false,if_true,h4,h8,if_neg h7,Za]
theorem Rst.len {K:Nat → Prop} {H:List Ob} {v:Value} {l:List Nat} (h:Rst K H v l):Go.Ev.lenV v = some l.length:=by
 obtain ⟨a,c,rfl⟩:=h.shape; rfl
theorem Hn (b:List Nat):(sha b).length = 64:=by simp [sha]
theorem Qb2 (b:List Nat):∀ x ∈ sha b,x < 256:=by
 intro x hx
 simp only [sha,U7] at hx
 obtain ⟨i,-,rfl⟩:=hx
 exact Jk _ (by decide)
def suI (r x o:Nat) (G:List Ob) (b:List Nat) (i:Int) (ex:Env):St:=⟨[(2,.pointer (some ⟨r,0,none⟩)),(3,.pointer (some ⟨x,0,none⟩)),(4,.pointer (some ⟨G.length,0,none⟩)),(32,.int .i64 i)] ++ ex,G ++ [⟨u8s b,true,true,true,1⟩],[]⟩
theorem Qu7 {r x base n:Nat} {G:List Ob} {rv:Value} {st R:List Nat} (hx:G[x]? = some (hob rv n st)) (hs:st.length = 8) (hR:R.length = 64) (hRi:∀ i,i < 64 → R[i]? = some (st.getD (i / 8) 0 / 256 ^ (7 - i % 8) % 256)) (hxs:∀ y ∈ st,y < 18446744073709551616) (hb:base ≤ G.length) :
  Jl T base (.block 0 (.loop Qdy)) (suI r x 0 G (Qa 64 0) 0 []) = some (.normal,suI r x 0 G R 64 [(33,.bool false)]):=by
 have h:=Wb (T:=T) (base:=base) (id:=0) (body:=Qdy) (fun i => suI r x 0 G (pf 64 R i) i []) (s':=suI r x 0 G R 64 [(33,.bool false)]) 64
  (fun i hi => by
   obtain ⟨w,hw⟩:∃ w,st[i / 8]? = some w:=⟨_,Q1 (by omega)⟩
   have hw':=hxs w (Zk hw)
   have hv:=hRi i hi
   rw [Bn hw] at hv
   have hstep:=Gu hR hi hv
   have hlen:=Db hR (Wh hi)
   have hset:=U3 (pf 64 R i) i (w / 256 ^ (7 - i % 8) % 256)
   rw [hstep] at hset
   have gc:=Qrv (rv:=rv) (n:=n) hw
   have hget:∀ l:List Ob,(G ++ l)[x]? = some ⟨hcl rv n st,true,true,true,1⟩:=fun l => by rw [Qy (Q8.1 hx).1]; exact hx
   have e1:((i:Int) < 64) = True:=eq_true (by omega)
   have w3:IntKind.i64.wrap ((i:Int) + 1) = ((i + 1:Nat):Int):=Y0 (b:=1) (by omega)
   have w4:IntKind.i64.wrap ((i:Int).tdiv 8) = ((i / 8:Nat):Int):=wn (n:=i / 8) (by omega)
   have e2:(((i / 8:Nat):Int) < 8) = True:=eq_true (by omega)
   have w5:(i:Int).tmod 8 = ((i % 8:Nat):Int):=rfl
   have w6:IntKind.i64.wrap (8 * ((i % 8:Nat):Int)) = ((8 * (i % 8):Nat):Int):=Qgb (a:=8) (by omega)
   have w7:IntKind.i64.wrap (56 - ((8 * (i % 8):Nat):Int)) = ((8 * (7 - i % 8):Nat):Int):=by rw [K9 (by omega) (by omega)]; omega
   have e3:(((8 * (7 - i % 8):Nat):Int) < 0) = False:=eq_false (by omega)
   have w8:(w:Int).fdiv (2 ^ min (8 * (7 - i % 8)) IntKind.u64.bits) = ((w / 256 ^ (7 - i % 8):Nat):Int):=by
    rw [Qjk (by omega),show (256:Nat) = 2 ^ 8 from rfl,← Yp]
   have w9:IntKind.u8.wrap ((w / 256 ^ (7 - i % 8):Nat):Int) = ((w / 256 ^ (7 - i % 8) % 256:Nat):Int):=Qp4 _
   have e4:(i ≤ 63) = True:=eq_true (by omega)
   have m1:Xo base [] [G.length] = []:=Yi (by simpa using hb)
   clear hstep hv hw
   generalize pf 64 R i = o1 at *
   generalize pf 64 R (i + 1) = o2 at *
   generalize w / 256 ^ (7 - i % 8) % 256 = d at *
   generalize w / 256 ^ (7 - i % 8) = d2 at *
   generalize 8 * (7 - i % 8) = d3 at *
   generalize 8 * (i % 8) = d4 at *
   generalize i % 8 = d5 at *
   generalize i / 8 = d6 at *
   generalize i + 1 = i1 at *
   simp only [suI,Qdy,↓Zr,Z0,quiet,cF,↓pF,reduceCtorEq,Qb,Qp,Zi,Zf,Zg,Ze,Zc,Qj,Q3,Qi,Q2,Q6,Q5,↓Zu,↓Zm,↓Z5,↓Z9,↓Z6,↓Z7,cL,Qo,Qn,Qx,Qw,Qu,Ql,Qk,Qv,Qd,Qz,Q0,Qq,Qf,Qh,Qg,Qt,Qs,Qr,Qm,Qe,cJ,e1,e2,e3,e4,w3,w4,w5,w6,w7,w8,w9,hget,gc,hset,X2,hlen,m1])
  (by
   rw [De hR]
   simp only [suI,Qdy,Z0,quiet,cF,↓pF,reduceCtorEq,Qb,Qp,Zi,Zf,Zg,Ze,Zc,Qj,Q3,Qi,Q2,Q6,Q5,↓Zo,↓Zn,↓Zw,↓Zz,↓Zx,↓Zy,cL,Qo,Qn,Qx,Qw,Qu,Ql,Qk,Qv,Qd,Qz,Q0,Qq,Qf,Qh,Qg,Qt,Qs,Qr,Qm,Qe,cJ])
 rw [Dd] at h
 exact h
theorem Grown.part {K:Nat → Prop} {B:Nat} {H:List Ob} {s:Value} {p:List Nat} (h:Grown .u8 B H s p) (hK:∀ i,B ≤ i → i < H.length → K i) (xp:∀ y ∈ p,y < 256) (hl:p.length ≤ 2 ^ 47 - 128) (h0:0 < p.length):HPart K H s p:=by
 refine ⟨?_,fun G hG => ?_,xp,hl⟩
 ·cases h with
  | nil => exact absurd h0 (by decide)
  | own _ _ _ => exact ⟨_,_,rfl⟩
  | new _ _ _ => exact ⟨_,_,rfl⟩
 ·cases h with
  | nil => exact absurd h0 (by decide)
  | @own id _ h1 h2 h3 =>
   have:=hG id (hK id h1 (Q8.1 h3).1)
   rw [h3] at this
   simp [elemsOf,Yg this rfl,Ob.grown,J2]
   exact Zl (by rw [J2]; exact Zj _)
  | @new id _ h1 h2 h3 =>
   have:=hG id (hK id h1 (Q8.1 h3).1)
   rw [h3] at this
   simp [elemsOf,Yg this rfl,Ob.fresh,J2]
   exact Zl (by rw [J2]; exact Zj _)
theorem Qrg (n:Nat):∀ y ∈ Rj n,y < 256:=by
 intro y hy
 simp only [Rj,W0,Jb,List.mem_replicate,U7] at hy
 rcases hy with rfl | ⟨-,rfl⟩ | ⟨i,-,rfl⟩
 ·decide
 ·decide
 ·exact Jk _ (by decide)
theorem Qc2 (n:Nat):(Rj n).length = 17 + Gd n:=by simp [Rj]; omega
theorem Rst.toK {K K':Nat → Prop} {H:List Ob} {v:Value} {l:List Nat} (h:Rst K H v l) (hk:∀ i,¬ K i → ¬ K' i):Rst K' H v l:=by
 cases h with
 | nil => exact .nil
 | empty h1 h2 => exact .empty (hk _ h1) h2
 | own h1 h2 h4 h3 => exact .own (hk _ h1) h2 h4 h3
theorem Ty:Qa 64 (Value.int .u8 0) = u8s (Qa 64 0):=rfl
theorem Qt4 (va:Option Addr) (rl vc m:Nat) {st:List Nat} (h:st.length = 8):fillL [Value.slice none 0 0,.int .u64 0,.int .u64 0,.int .u64 0,.int .u64 0,.int .u64 0,.int .u64 0,.int .u64 0,.int .u64 0,.int .u64 0] [(0,2,.agg [.slice va rl vc,.int .u64 m].toArray),(2,8,eV st)] = some (hcl (.slice va rl vc) m st):=by
 obtain ⟨a,b,c,d,e,f,g,i,rfl⟩:=eight h
 rfl
theorem Q46 {K:Nat → Prop} {H:List Ob} {hid:Nat} {all:List Nat} (hh:Hsh K H hid all) (xa:∀ y ∈ all,y < 256) (hn:all.length < 2 ^ 49) :
  ∃ H',V6 T 79 [.pointer (some ⟨hid,0,none⟩)] H = some (.agg (u8s (sha all)).toArray,H',[]) ∧ (∀ i,i < H.length → H'[i]? = H[i]?) ∧ H.length ≤ H'.length:=by
 obtain ⟨rv,h1,h2⟩:=hh
 have hlt:hid < H.length:=(Q8.1 h1).1
 obtain ⟨st,hst⟩:∃ s,s = stK (all.length / 128) all:=⟨_,rfl⟩
 have ls:st.length = 8:=by rw [hst]; exact Qax _ _
 rw [← hst] at h1
 obtain ⟨G,hG⟩:∃ G,G = H ++ [⟨u8s (Qa 64 0),true,true,true,1⟩,⟨[],true,true,true,1⟩]:=⟨_,rfl⟩
 have hGl:G.length = H.length + 2:=by rw [hG]; simp
 have hrG:Rst K G rv (all.drop (128 * (all.length / 128))):=by rw [hG]; exact h2.app
 have heG:G[H.length + 1]? = some ⟨[],true,true,true,1⟩:=by rw [hG,Zh (by omega),Kb]; rfl
 have hzG:G[H.length]? = some ⟨u8s (Qa 64 0),true,true,true,1⟩:=by rw [hG,Zh (by omega),Kv]; rfl
 have hhG:G[hid]? = some (hob rv all.length st):=by rw [hG,Qy hlt]; exact h1
 obtain ⟨v',l,ha,hr',hok,hc1,hc2⟩:=Qud (K:=fun i => i ≠ H.length + 1 ∧ i ≠ G.length) heG (by simp) (by simp) hrG.len hrG.elems (by rw [Vs]; omega)
 obtain ⟨G2,hG2⟩:∃ X,X = G ++ l ++ [hob v' all.length st]:=⟨_,rfl⟩
 have hG2l:G2.length = G.length + l.length + 1:=by rw [hG2]; simp; omega
 obtain ⟨xid,hxid⟩:∃ x,x = (G ++ l).length:=⟨_,rfl⟩
 have hxl:xid = G.length + l.length:=by rw [hxid]; simp
 have hx2:G2[xid]? = some (hob v' all.length st):=by rw [hG2,hxid,Zh (Zj _),Kv]; rfl
 have hh2:G2[hid]? = some (hob rv all.length st):=by
  have:hid < G.length:=by omega
  rw [hG2,Jx,Qy this]; exact hhG
 obtain ⟨s,l3,hp,hgr⟩:=Qpr hh2 (by omega)
 obtain ⟨G4,hG4⟩:∃ X,X = G2 ++ l3 ++ [⟨[s],true,true,true,1⟩]:=⟨_,rfl⟩
 have hG4l:G4.length = G2.length + l3.length + 1:=by rw [hG4]; simp; omega
 have hgr4:Grown .u8 G2.length G4 s (Rj all.length):=by rw [hG4]; exact hgr.app
 obtain ⟨K2,hK2⟩:∃ K2:Nat → Prop,K2 = fun i => i < G4.length ∧ i ≠ xid ∧ i ≠ H.length + 1 ∧ i ≠ G.length:=⟨_,rfl⟩
 have hx4:G4[xid]? = some (hob v' all.length st):=by rw [hG4,Jx,Qy (by omega)]; exact hx2
 have hsh4:Hsh K2 G4 xid all:=by
  refine ⟨v',by rw [← hst]; exact hx4,?_⟩
  have:=(hr'.app (m:=[hob v' all.length st])).app (m:=l3 ++ [⟨[s],true,true,true,1⟩])
  rw [← hG2,← Jx,← hG4] at this
  exact this.toK fun i hi hk => by
   rw [hK2] at hk
   exact hi ⟨hk.2.2.1,hk.2.2.2⟩
 have hpz:=Qc1 all.length
 have hpart:HPart K2 G4 s (Rj all.length):=Grown.part hgr4 (fun i h1 h2 => by rw [hK2]; exact ⟨h2,by omega,by omega,by omega⟩) (Qrg _) (by rw [Qc2]; omega) (by rw [Qc2]; omega)
 have harr:(G2 ++ l3).length < G4.length:=by rw [hG4]; simp
 have hpv:PV K2 G4 (.slice (some ⟨(G2 ++ l3).length,0,none⟩) 1 1) [s] := .inr ⟨_,0,1,_,rfl,by rw [hK2]; exact ⟨harr,by simp; omega,by simp; omega,by simp; omega⟩,by rw [hG4,Zh (Zj _),Kv]; rfl,rfl,fun i _ => by rw [Z1]⟩
 have hKx:¬ K2 xid:=by rw [hK2]; intro h; exact h.2.1 rfl
 obtain ⟨G5,M5,hw,hsh5,hf5,hl5,hM5⟩:=Ql7 (fun i hi => by rw [hK2] at hi; exact hi.1) hKx hsh4 xa hpv (.cons hpart .nil) (by show 1 < 2 ^ 50; decide) (by simp [Qc2]; omega)
 rw [Vj,Ud,Kw] at hsh5
 obtain ⟨rv5,hx5,-⟩:=hsh5
 obtain ⟨st5,hst5⟩:∃ s,s = stK ((all ++ Rj all.length).length / 128) (all ++ Rj all.length):=⟨_,rfl⟩
 rw [← hst5] at hx5
 have ls5:st5.length = 8:=by rw [hst5]; exact Qax _ _
 have xs5:∀ y ∈ st5,y < 18446744073709551616:=by rw [hst5]; exact Qkt _ _
 have hb5:H.length ≤ G5.length:=by omega
 have hsu:=Qu7 (r:=H.length) (base:=H.length) hx5 ls5 (Hn all) (fun i hi => by simp [sha,hi,hst5]) xs5 hb5
 have hz5:G5[H.length]? = some ⟨u8s (Qa 64 0),true,true,true,1⟩:=by
  rw [hf5 _ (by rw [hK2]; exact ⟨by omega,by omega,by omega,by omega⟩),hG4,Jx,Qy (by omega),hG2,Jx,Qy (by omega)]
  exact hzG
 have hfr:∀ i,i < H.length → G5[i]? = H[i]? := fun i hi => by
  rw [hf5 _ (by rw [hK2]; exact ⟨by omega,by omega,by omega,by omega⟩),hG4,Jx,Qy (by omega),hG2,Jx,Qy (by omega),hG,Qy hi]
 have hm5:Xo H.length [] M5 = []:=Yi fun i hi => by
  have:=hM5 i hi
  rw [hK2] at this
  rcases V5 i H.length with h | h
  ·exact absurd (show i < G4.length ∧ i ≠ xid ∧ i ≠ H.length + 1 ∧ i ≠ G.length from ⟨by omega,by omega,by omega,by omega⟩) this
  ·exact h
 refine ⟨(G5 ++ [(⟨u8s (sha all),true,true,true,1⟩:Ob)]).set H.length (⟨u8s (sha all),true,true,true,1⟩:Ob),?_,fun i hi => by rw [Jj (by omega),Qy (by omega)]; exact hfr i hi,by rw [Xe,Z4]; omega⟩
 have hz:=Ty
 have lz:(Qa 64 0).length = 64:=Zd
 have lsh:=Hn all
 have cst:=Qj9 (rv:=rv) (n:=all.length) ls
 have c0:(hcl rv all.length st)[0]? = some rv:=rfl
 have c1:(hcl rv all.length st)[1]? = some (.int .u64 all.length):=rfl
 have hcl8:2 + 8 ≤ (hcl rv all.length st).length:=by rw [Qa5]; omega
 obtain ⟨va,vc,rfl⟩:=hr'.shape
 generalize (all.drop (128 * (all.length / 128))).length = rl at *
 have fl1:fillL [Value.slice none 0 0,.int .u64 0] [(0,1,.slice va rl vc),(1,1,.int .u64 all.length)] = some [.slice va rl vc,.int .u64 all.length]:=rfl
 have fl2:=Qt4 va rl vc all.length ls
 have fls:fillL [Value.slice none 0 0] [(0,1,s)] = some [s]:=by
  obtain ⟨sa,sc,hsh⟩:=hpart.shape
  rw [hsh]; rfl
 have f0:fillL [] [] = some []:=rfl
 have F1:H ++ [⟨u8s (Qa 64 0),true,true,true,1⟩,⟨[],true,true,true,1⟩] = G:=hG.symm
 have Fx:G.length + l.length = xid:=hxl.symm
 have F2:G ++ (l ++ [⟨hcl (.slice va rl vc) all.length st,true,true,true,1⟩]) = G2:=by rw [hG2,Jx]; rfl
 have F4:G2 ++ (l3 ++ [⟨[s],true,true,true,1⟩]) = G4:=by rw [hG4,Jx]
 have g1:G[hid]? = some ⟨hcl rv all.length st,true,true,true,1⟩:=hhG
 have g2:(G ++ l)[hid]? = some ⟨hcl rv all.length st,true,true,true,1⟩:=by rw [Qy (by omega)]; exact hhG
 have g5:∀ o:Ob,(G5 ++ [o])[H.length]? = some ⟨u8s (Qa 64 0),true,true,true,1⟩:=fun o => by rw [Qy (by omega)]; exact hz5
 have g6:∀ o o':Ob,((G5 ++ [o]).set H.length o')[H.length]? = some o':=fun o o' => Xp (by rw [Z4]; omega)
 have okcl:(hcl (.slice va rl vc) all.length st).all Yk = true:=by
  show (Yk (.slice va rl vc) && (Yk (.int .u64 all.length) && (ns .u64 st).all Yk)) = true
  have:(ns .u64 st).all Yk = true:=by
   rw [Yh]; intro y hy
   simp only [ns,U7] at hy
   obtain ⟨m,-,rfl⟩:=hy; rfl
  rw [this]; rfl
 rw [Z4] at hw
 simp only [suI,Zb,Za,Xu] at hsu
 have hge:H.length ≤ H.length + 1:=by omega
 generalize hcl rv all.length st = C1 at *
 generalize hcl (.slice va rl vc) all.length st = C2 at *
 generalize sha all = R at *
 generalize Qa 64 0 = Z64 at *
 rw [Jc (fn:=Q3a) rfl]
 simp only [Q3a,↓Zr,Z0,quiet,cF,↓pF,reduceCtorEq,Qb,Qp,Zi,Zf,Zg,Ze,Zc,Qj,Q3,Qi,Q2,Q6,Q5,↓Zu,↓Zm,↓Z5,↓Z9,↓Z6,↓Z7,cL,Qo,Qn,Qx,Qw,Qu,Ql,Qk,Qv,Qd,Qz,Q0,Qq,Qf,Qh,Qg,Qt,Qs,Qr,Qm,Qe,cJ,hz,f0,F1,g1,g2,c0,c1,ha,fl1,cst,hcl8,Jy,Xs,Vm,Xt,fl2,Fx,F2,hp,fls,F4,hw,hm5,hsu,g5,g6,X2,lz,lsh,Xd,Zd]
theorem Qse {H:List Ob} {pv:Value} {xs:List Value} {ps:List (List Nat)} (hp:PV (fun i => i < H.length) H pv xs) (hP:HParts (fun i => i < H.length) H xs ps) (hn:xs.length < 2 ^ 50) (hb:ps.flatten.length < 2 ^ 49) :
  ∃ l,V6 T 35 [pv] H = some (.agg (u8s (sha ps.flatten)).toArray,H ++ l,[]):=by
 obtain ⟨H1,hH1⟩:∃ X,X = H ++ [⟨u8s (Qa 64 0),true,true,true,1⟩,hob (.slice none 0 0) 0 Hy]:=⟨_,rfl⟩
 have hl1:H1.length = H.length + 2:=by rw [hH1]; simp
 have hg1:H1[H.length + 1]? = some (hob (.slice none 0 0) 0 Hy):=by rw [hH1,Zh (by omega),Kb]; rfl
 have hz1:H1[H.length]? = some ⟨u8s (Qa 64 0),true,true,true,1⟩:=by rw [hH1,Zh (by omega),Kv]; rfl
 have hf1:∀ i,i < H.length → H1[i]? = H[i]? := fun i hi => by rw [hH1,Qy hi]
 have hp1:PV (fun i => i < H.length + 1) H1 pv xs:=by
  rcases hp with h | ⟨pid,off,cap,o,h1,h2,h3,h4,h5⟩
  ·exact .inl h
  ·exact .inr ⟨pid,off,cap,o,h1,Ql2 h2,(hf1 _ h2).trans h3,h4,h5⟩
 have hP1:HParts (fun i => i < H.length + 1) H1 xs ps:=by
  clear hn hb hp hp1
  induction hP with
  | nil => exact .nil
  | cons a _ ih => exact .cons ⟨a.shape,fun G hG => a.reads G fun i hi => (hG i (Ql2 hi)).trans (hf1 i hi),a.lt,a.le⟩ ih
 obtain ⟨H2,M2,hw,s2,f2,l2,m2⟩:=Ql7 (K:=fun i => i < H.length + 1) (hid:=H.length + 1) (fun i hi => by have:i < H.length + 1:=hi; omega) (Xj _) (Q01 hg1) (by simp) hp1 hP1 hn (by rw [Za]; omega)
 rw [Za] at s2
 obtain ⟨H3,hs3,f3,l3⟩:=Q46 s2 hP.lt hb
 have hm2:Xo H.length [] M2 = []:=Yi fun i hi => by
  have:¬ i < H.length + 1:=m2 i hi
  omega
 have g3:H3[H.length]? = some ⟨u8s (Qa 64 0),true,true,true,1⟩:=by
  rw [f3 _ (by omega),f2 _ (Nat.lt_succ_self _)]; exact hz1
 have hfr:∀ i,i < H.length → (H3.set H.length (⟨u8s (sha ps.flatten),true,true,true,1⟩:Ob))[i]? = H[i]? := fun i hi => by
  rw [Jj (by omega),f3 _ (by omega),f2 _ (Ql2 hi)]; exact hf1 i hi
 have hle:H.length ≤ (H3.set H.length (⟨u8s (sha ps.flatten),true,true,true,1⟩:Ob)).length:=by rw [Xe]; omega
 obtain ⟨l,hl⟩:=Dz hle hfr
 refine ⟨l,?_⟩
 rw [← hl]
 have hz:=Ty
 have lz:(Qa 64 0).length = 64:=Zd
 have lsh:=Hn ps.flatten
 have hnew:=Q5u (H ++ [⟨u8s (Qa 64 0),true,true,true,1⟩])
 have e1:(H ++ [(⟨u8s (Qa 64 0),true,true,true,1⟩:Ob)]).length = H.length + 1:=by simp
 rw [e1,Jx,Zb,Za,← hH1] at hnew
 have g4:∀ o:Ob,(H3.set H.length o)[H.length]? = some o:=fun o => Xp (by omega)
 generalize sha ps.flatten = R at *
 generalize Qa 64 0 = Z64 at *
 rw [Jc (fn:=Q3d) rfl]
 simp only [Q3d,↓Zr,Z0,quiet,cF,↓pF,reduceCtorEq,Qb,Qp,Zi,Zf,Zg,Ze,Zc,Qj,Q3,Qi,Q2,Q6,Q5,↓Zu,↓Zm,↓Z5,↓Z9,↓Z6,↓Z7,cL,Qo,Qn,Qx,Qw,Qu,Ql,Qk,Qv,Qd,Qz,Q0,Qq,Qf,Qh,Qg,Qt,Qs,Qr,Qm,Qe,cJ,hz,hnew,hw,hm2,hs3,g3,g4,Jy,Xs,Vm,Xt,X2,lz,lsh,Xd,Zd]
end Go.Ev.YtgacigcbglflkaaGreat

/- What the law leans on, part 4. -/
import Derived.Test.YtgacigcbglflkaaSS3
set_option linter.unusedSimpArgs false
set_option linter.unusedVariables false
open Bool renaming and_eq_true → Vh, false_eq_true → Zd
open Exists renaming intro → J4
open Int renaming natCast_add → Ga, natCast_mul → B9, natCast_pow → Qle, natCast_zero → V9, reduceAdd → Q1, reduceBEq → Zl, reduceBNe → Zk, reduceEq → Qp, reduceGE → Q6, reduceGT → Q5, reduceLE → Qo, reduceLT → Qn, reduceMul → Q0, reduceNeg → Qz, reducePow → Qy, reduceSub → Qx, reduceTDiv → Qs, reduceTMod → Qr, reduceToNat → Qd, toNat_natCast → Zu
open List renaming all_eq_true → Vq, append_assoc → X1, append_nil → Kw, cons_append → Q3, drop → B1, drop_append_of_le_length → Wk, drop_drop → Mn, drop_eq_getElem?_toList_append → B5, drop_eq_getElem_cons → Us, drop_of_length_le → Wc, drop_succ_cons → Q4, drop_zero → Zc, eq_nil_of_length_eq_zero → Vk, ext_getElem? → Yu, flatten_append → V2, flatten_cons → Ki, flatten_nil → Ys, foldl_cons → Wp, foldl_nil → Bt, getD_eq_getElem?_getD → Jp, getElem?_append_left → Qe, getElem?_append_right → Ze, getElem?_cons_succ → Q9, getElem?_cons_zero → Za, getElem?_drop → Yc, getElem?_eq_getElem → Qq, getElem?_eq_none → Xl, getElem?_eq_some_iff → Qt, getElem?_map → Wj, getElem?_of_mem → W5, getElem?_set → Ue, getElem?_set_ne → Xc, getElem?_set_self → Km, getElem?_take → Kt, length_append → Zn, length_drop → Vw, length_map → D0, length_nil → Zp, length_range → Ry, length_replicate → Zi, length_set → X3, length_take → Ks, map_append → Uu, map_cons → Yf, map_drop → Qrz, map_nil → Wo, map_take → Qry, mem_append → Kf, mem_cons → Wm, mem_cons_of_mem → Qb7, mem_map → Wu, mem_of_getElem? → Zt, mem_of_mem_drop → Yw, mem_of_mem_take → Vd, mem_or_eq_of_mem_set → Re, mem_singleton → Gi, nil_append → Q2, not_mem_nil → Ws, range → Yi, replicate → Qb, replicate_succ → B2, replicate_succ' → Qb6, set_append_right → Hj, set_cons_zero → Qeu, set_set → Qvl, take → Wz, take_add_one → Y6, take_append_drop → Wl, take_append_of_le_length → Yv, take_length → U5, take_of_length_le → Zq, take_succ_cons → Q7, take_zero → Zf, zipWith → Qas
open Nat renaming Coprime → Qyh, add_assoc → Kk, add_comm → Gt, add_mul → Kr, add_sub_cancel_left → X0, add_zero → Z1, and_lt_two_pow → Gh, div_add_mod → Vn, div_div_eq_div_mul → V5, div_eq_of_lt → Wy, div_le_self → Dz, div_one → Uz, eq_zero_or_pos → Yb, le_of_lt → W2, le_refl → Q8, le_trans → Un, lt_add_one → Qod, lt_irrefl → Jz, lt_of_le_of_lt → Bg, lt_of_lt_of_le → Xo, lt_or_ge → Vr, lt_succ_of_lt → Qg4, lt_trans → Uy, min_eq_left → Vx, mod_eq_of_lt → Z6, mod_lt → Jn, mod_mod → Rx, mod_mul_mod → Qlc, mul_assoc → V4, mul_comm → K9, mul_le_mul_left → U4, mul_le_mul_right → Wa, mul_left_comm → Yg, mul_one → Xb, mul_zero → Qg3, not_lt_zero → Z9, one_mul → Wr, or_lt_two_pow → Qg2, pow_add → Y4, pow_le_pow_right → Kx, pow_mul → Ye, pow_pos → Y9, pow_succ → K8, pow_zero → Wn, reduceAdd → Qj, reduceDiv → Qw, reduceEqDiff → Qc, reduceLT → Qm, reduceLeDiff → Ql, reduceMod → Qv, reduceMul → Qi, reducePow → Qu, reduceSub → Qh, sub_self → V8, zero_add → Zh, zero_lt_one → Dy, zero_lt_succ → Qjh
open Option renaming bind_some → Qf, some → Gk
open Option.some renaming inj → Dw
set_option linter.unusedSimpArgs false
set_option linter.unusedVariables false
namespace Go.Ev.Ytgacigcbglflkaa
open Go Go.Ev
attribute [local congr] Um Uw Uj Ux W1
set_option maxRecDepth 100000
def Hq (u v:Go.Fp.Fe):Go.Fp.Fe:=u * (v * v * v) * Go.Fp.pow (u * (v * v * v) * (v * v * v) * v) (2 ^ 252 - 1 - 2)
def jj:Go.Fp.Fe:=Go.Fp.pow 2 (2 ^ 253 - 1 - 4)
theorem jj_eq:jj = Go.Fp.i:=by
 show Go.Fp.pow (Go.Fp.fp 2) _ = Go.Fp.fp Go.Fp.iN
 exact Go.Fp.Qhy (f:=256) (by decide +kernel) (by decide +kernel)
theorem jj_sq:jj * jj = -1:=by rw [jj_eq]; exact Go.Fp.Qjy
theorem quarter:(2 ^ 252 - 1 - 2) + (2 ^ 252 - 1 - 2) + 1 + ((2 ^ 252 - 1 - 2) + (2 ^ 252 - 1 - 2) + 1) = (Go.Fp.P - 1) / 2:=by rw [Go.Fp.Rd]
theorem Qtg {u v s:Go.Fp.Fe} (h1:v * Hq u v * Hq u v ≠ u) (h2:v * Hq u v * Hq u v ≠ -u):v * (s * s) ≠ u:=fun hs => by
 have F:=Go.Fp.fld
 obtain ⟨g,hg⟩:∃ g,g = v * v * v * v * s:=⟨_,rfl⟩
 have ht:u * (v * v * v) * (v * v * v) * v = g * g:=by subst hg; subst hs; grobner
 rcases Go.Fp.Qhz g with h | h
 ·obtain ⟨k,hk⟩:∃ k,k = 2 ^ 252 - 1 - 2:=⟨_,rfl⟩
  have hq:=quarter
  rw [← hk] at hq
  rw [← hq,Go.Fp.pow_add,Go.Fp.pow_add,Go.Fp.pow_add,Go.Fp.pow_one] at h
  have hw:Hq u v = u * (v * v * v) * Go.Fp.pow (g * g) k:=by unfold Hq; rw [ht,hk]
  rw [hw] at h1 h2
  generalize Go.Fp.pow (g * g) k = q at *
  have he:(q * q * (g * g) - 1) * (q * q * (g * g) + 1) = 0:=by clear h1 h2 hw ht hg hs; grobner
  have hv:v * (u * (v * v * v) * q) * (u * (v * v * v) * q) = u * (q * q * (g * g)):=by clear h1 h2 hw hg hs he h; grobner
  rcases F.dom he with h | h
  ·exact h1 (by rw [hv]; clear h1 h2 hw ht hg hs he hv; grobner)
  ·exact h2 (by rw [hv]; clear h1 h2 hw ht hg hs he hv; grobner)
 ·have hu:u * (v * v * v) * (v * v * v) * v = 0:=by rw [ht,h]; grobner
  have hu0:u = 0:=by
   rcases F.dom hu with h0 | h0
   ·rcases F.dom h0 with h0 | h0
    ·rcases F.dom h0 with h0 | h0
     ·exact h0
     ·rcases F.dom h0 with h0 | h0
      ·rcases F.dom h0 with h0 | h0 <;> (rw [← hs,h0]; grobner)
      ·rw [← hs,h0]; grobner
    ·rcases F.dom h0 with h0 | h0
     ·rcases F.dom h0 with h0 | h0 <;> (rw [← hs,h0]; grobner)
     ·rw [← hs,h0]; grobner
   ·rw [← hs,h0]; grobner
  exact h1 (by unfold Hq; rw [hu0]; grobner)
theorem Qs4:V7 T 62 [.int .i64 252,.int .u8 2] = some (.agg (u8s (dig 256 32 (2 ^ 252 - 1 - 2))).toArray):=Qkf (n:=252) (less:=2) (by decide) (by decide) (by decide)
theorem Qs3:V7 T 62 [.int .i64 253,.int .u8 4] = some (.agg (u8s (dig 256 32 (2 ^ 253 - 1 - 4))).toArray):=Qkf (n:=253) (less:=4) (by decide) (by decide) (by decide)
def Qhr (r:List Nat) (ok:Bool):Value := .tuple #[eV r,.bool ok]
theorem Qw3 {u v:List Nat} (Eu:El u (2 ^ 52)) (Ev:El v (2 ^ 52)) :
  ∃ r ok,V7 T 44 [eV u,eV v] = some (Qhr r ok) ∧ El r (2 ^ 52) ∧ (ok = true → fe v * (fe r * fe r) = fe u ∧ ((fe r).val % 2 = 0 ∨ fe r = 0)) ∧ (ok = false → ∀ s,fe v * (s * s) ≠ fe u):=by
 obtain ⟨r1,hr1,Er1,fr1⟩:=D6 (H:=[⟨ns .u64 u,true,true,true,1⟩,⟨ns .u64 v,true,true,true,1⟩,⟨ns .u64 [0,0,0,0,0],true,true,true,1⟩,⟨ns .u64 [v,v,v].flatten,true,true,true,1⟩]) (id:=3) (n:=3) (xs:=[v,v,v]) rfl (by decide) (by intro w hw; simp only [Wm,Ws,or_false] at hw; rcases hw with rfl | rfl | rfl <;> assumption) rfl
 simp only [Yf,Wo,Q3,Q2] at hr1
 simp only [Yf,Wo,Wp,Bt] at fr1
 obtain ⟨r2,hr2,Er2,fr2⟩:=D6 (H:=[⟨ns .u64 u,true,true,true,1⟩,⟨ns .u64 v,true,true,true,1⟩,⟨ns .u64 [0,0,0,0,0],true,true,true,1⟩,⟨ns .u64 [v,v,v].flatten,true,true,true,1⟩,⟨ns .u64 r1,true,true,true,1⟩,⟨ns .u64 r1,true,true,true,1⟩,⟨ns .u64 v,true,true,true,1⟩,⟨ns .u64 v,true,true,true,1⟩,⟨ns .u64 v,true,true,true,1⟩,⟨ns .u64 r1,true,true,true,1⟩,⟨ns .u64 [u,r1,r1,v].flatten,true,true,true,1⟩]) (id:=10) (n:=4) (xs:=[u,r1,r1,v]) rfl (by decide) (by intro w hw; simp only [Wm,Ws,or_false] at hw; rcases hw with rfl | rfl | rfl | rfl <;> assumption) rfl
 simp only [Yf,Wo,Q3,Q2] at hr2
 simp only [Yf,Wo,Wp,Bt] at fr2
 obtain ⟨r3,hr3,Er3,fr3⟩:=Tf (n:=252) (less:=2) Er2 (by decide) (by decide) (by decide)
 obtain ⟨r4,hr4,Er4,fr4⟩:=D6 (H:=[⟨ns .u64 u,true,true,true,1⟩,⟨ns .u64 v,true,true,true,1⟩,⟨ns .u64 [0,0,0,0,0],true,true,true,1⟩,⟨ns .u64 [v,v,v].flatten,true,true,true,1⟩,⟨ns .u64 r1,true,true,true,1⟩,⟨ns .u64 r1,true,true,true,1⟩,⟨ns .u64 v,true,true,true,1⟩,⟨ns .u64 v,true,true,true,1⟩,⟨ns .u64 v,true,true,true,1⟩,⟨ns .u64 r1,true,true,true,1⟩,⟨ns .u64 [u,r1,r1,v].flatten,true,true,true,1⟩,⟨ns .u64 r2,true,true,true,1⟩,⟨ns .u64 r2,true,true,true,1⟩,⟨ns .u64 u,true,true,true,1⟩,⟨ns .u64 r1,true,true,true,1⟩,⟨ns .u64 r1,true,true,true,1⟩,⟨ns .u64 v,true,true,true,1⟩,⟨ns .u64 [u,r1,r3].flatten,true,true,true,1⟩]) (id:=17) (n:=3) (xs:=[u,r1,r3]) rfl (by decide) (by intro w hw; simp only [Wm,Ws,or_false] at hw; rcases hw with rfl | rfl | rfl <;> assumption) rfl
 simp only [Yf,Wo,Q3,Q2] at hr4
 simp only [Yf,Wo,Wp,Bt] at fr4
 obtain ⟨r5,hr5,Er5,fr5⟩:=D6 (H:=[⟨ns .u64 u,true,true,true,1⟩,⟨ns .u64 v,true,true,true,1⟩,⟨ns .u64 [0,0,0,0,0],true,true,true,1⟩,⟨ns .u64 [v,v,v].flatten,true,true,true,1⟩,⟨ns .u64 r1,true,true,true,1⟩,⟨ns .u64 r1,true,true,true,1⟩,⟨ns .u64 v,true,true,true,1⟩,⟨ns .u64 v,true,true,true,1⟩,⟨ns .u64 v,true,true,true,1⟩,⟨ns .u64 r1,true,true,true,1⟩,⟨ns .u64 [u,r1,r1,v].flatten,true,true,true,1⟩,⟨ns .u64 r2,true,true,true,1⟩,⟨ns .u64 r2,true,true,true,1⟩,⟨ns .u64 u,true,true,true,1⟩,⟨ns .u64 r1,true,true,true,1⟩,⟨ns .u64 r1,true,true,true,1⟩,⟨ns .u64 v,true,true,true,1⟩,⟨ns .u64 [u,r1,r3].flatten,true,true,true,1⟩,⟨ns .u64 r4,true,true,true,1⟩,⟨ns .u64 r4,true,true,true,1⟩,⟨ns .u64 u,true,true,true,1⟩,⟨ns .u64 r1,true,true,true,1⟩,⟨ns .u64 r3,true,true,true,1⟩,⟨ns .u64 r4,true,true,true,1⟩,⟨ns .u64 [v,r4,r4].flatten,true,true,true,1⟩]) (id:=24) (n:=3) (xs:=[v,r4,r4]) rfl (by decide) (by intro w hw; simp only [Wm,Ws,or_false] at hw; rcases hw with rfl | rfl | rfl <;> assumption) rfl
 simp only [Yf,Wo,Q3,Q2] at hr5
 simp only [Yf,Wo,Wp,Bt] at fr5
 have k1:=Qua Er5 Eu
 obtain ⟨nu,hnu,Enu,fnu⟩:=Qfj Eu
 have k2:=Qua Er5 Enu
 obtain ⟨two,htwo⟩:∃ two:List Nat,two = [2,0,0,0,0]:=⟨_,rfl⟩
 have Etwo:El two (2 ^ 52):=by rw [htwo]; exact Qov
 have vtwo:V7 T 28 [.int .u32 2] = some (eV two):=by rw [htwo]; exact Qot
 have ftwo:fe two = 2:=by rw [htwo]; exact Qjr
 clear htwo
 obtain ⟨j,hj,Ej,fj⟩:=Tf (n:=253) (less:=4) Etwo (by decide) (by decide) (by decide)
 obtain ⟨q,hq,Eq,fq⟩:=Wq Er4 Ej
 obtain ⟨n1,hn1,En1,fn1⟩:=Qfj Er4
 obtain ⟨n2,hn2,En2,fn2⟩:=Qfj Eq
 have o1:=Qqc Er4
 have o2:=Qqc Eq
 have c1:=Qs4
 have c2:=Qs3
 have g1:=Qiz Ev Ev Ev
 have g2:=Qbv Eu Er1 Er1 Ev
 rw [Qlu] at g2
 have g3:=Qiz Eu Er1 Er3
 have g4:=Qiz Ev Er4 Er4
 have hw:fe r4 = Hq (fe u) (fe v):=by
  rw [fr4,fr3,fr1,fr2,fr1]; unfold Hq
  rw [show (1 * fe u * (1 * fe v * fe v * fe v) * (1 * fe v * fe v * fe v) * fe v) = fe u * (fe v * fe v * fe v) * (fe v * fe v * fe v) * fe v from by grobner]
  generalize Go.Fp.pow _ _ = p
  grobner
 have hjj:fe j = jj:=by rw [fj,ftwo]; rfl
 have l1:=Eu.len
 have l2:=Ev.len
 have l3:=Er1.len
 have l4:=Er4.len
 have l5:=Er5.len
 have l6:=Eq.len
 have l7:=En1.len
 have l8:=En2.len
 have hz5:Qb 5 (Value.int .u64 0) = ns .u64 [0,0,0,0,0]:=rfl
 have hf5:fillL (ns .u64 [0,0,0,0,0]) [] = some (ns .u64 [0,0,0,0,0]):=rfl
 have l0:([0,0,0,0,0]:List Nat).length = 5:=rfl
 clear Ej Etwo ftwo fj
 generalize dig 256 32 (2 ^ 252 - 1 - 2) = K1 at *
 generalize dig 256 32 (2 ^ 253 - 1 - 4) = K2 at *
 have hsq:fe r5 = fe v * Hq (fe u) (fe v) * Hq (fe u) (fe v):=by rw [fr5,hw]; generalize Hq (fe u) (fe v) = w; grobner
 have evn:∀ a:Go.Fp.Fe,a.val % 2 = 1 → (-a).val % 2 = 0 ∨ -a = 0:=by
  intro a ha
  left
  have hlt:=a.isLt
  have h0:(Go.Fp.P - a.val) < Go.Fp.P:=by omega
  have h1:(-a).val = (Go.Fp.P - a.val) % Go.Fp.P:=rfl
  rw [h1,Z6 h0]
  have hP:Go.Fp.P % 2 = 1:=by rw [Go.Fp.Rd]
  omega
 by_cases hA:fe r5 = fe u
 ·rw [decide_eq_true hA] at k1
  have hroot:fe v * (fe r4 * fe r4) = fe u:=by rw [← hA,hsq,hw]; generalize Hq (fe u) (fe v) = w; grobner
  by_cases hO:(fe r4).val % 2 = 1
  ·rw [decide_eq_true hO] at o1
   refine ⟨n1,true,?_,En1,fun _ => ⟨?_,?_⟩,fun h => by cases h⟩
   ·apply Vc
    apply J4
    rw [J3 (fn:=a60) rfl]
    simp only [a60,J2,quiet,cF,↓pF,reduceCtorEq,Qc,Qp,Ja,Je,J5,Jd,Zy,Q7,Zf,Q4,Zc,Zl,Zk,↓Z0,↓Zz,↓Jr,↓Ju,↓Js,↓Jt,cL,Qo,Qn,Q1,Q0,Qx,Qs,Qr,Qz,Qd,Q5,Q6,Qy,Qj,Qi,Qh,Qw,Qv,Qu,Qm,Ql,cJ,hz5,hf5,l0,g1,g2,g3,g4,c1,c2,hr1,hr2,hr3,hr4,hr5,k1,o1,hn1,l1,l2,l3,l4,l5,l7,Zi,Vm,Kv,Vf,Yq,Vg,K3,Yt]
    rfl
   ·rw [fn1,← hroot]; generalize fe r4 = w; grobner
   ·rw [fn1]; exact evn _ hO
  ·rw [decide_eq_false hO] at o1
   refine ⟨r4,true,?_,Er4,fun _ => ⟨hroot,by left; omega⟩,fun h => by cases h⟩
   apply Vc
   apply J4
   rw [J3 (fn:=a60) rfl]
   simp only [a60,J2,quiet,cF,↓pF,reduceCtorEq,Qc,Qp,Ja,Je,J5,Jd,Zy,Q7,Zf,Q4,Zc,Zl,Zk,↓Z0,↓Zz,↓Jr,↓Ju,↓Js,↓Jt,cL,Qo,Qn,Q1,Q0,Qx,Qs,Qr,Qz,Qd,Q5,Q6,Qy,Qj,Qi,Qh,Qw,Qv,Qu,Qm,Ql,cJ,hz5,hf5,l0,g1,g2,g3,g4,c1,c2,hr1,hr2,hr3,hr4,hr5,k1,o1,hn1,l1,l2,l3,l4,l5,l7,Zi,Vm,Kv,Vf,Yq,Vg,K3,Yt]
   rfl
 ·rw [decide_eq_false hA] at k1
  by_cases hB:fe r5 = fe nu
  ·rw [decide_eq_true hB] at k2
   have hroot:fe v * (fe q * fe q) = fe u:=by
    have hs:=jj_sq
    rw [hsq,fnu] at hB
    rw [fq,hw,hjj]
    generalize Hq (fe u) (fe v) = w at *
    clear k1 k2 o1 o2 c1 c2 hA hsq hw fr1 fr2 fr3 fr4 fr5
    grobner
   by_cases hO:(fe q).val % 2 = 1
   ·rw [decide_eq_true hO] at o2
    refine ⟨n2,true,?_,En2,fun _ => ⟨?_,?_⟩,fun h => by cases h⟩
    ·apply Vc
     apply J4
     rw [J3 (fn:=a60) rfl]
     simp only [a60,J2,quiet,cF,↓pF,reduceCtorEq,Qc,Qp,Ja,Je,J5,Jd,Zy,Q7,Zf,Q4,Zc,Zl,Zk,↓Z0,↓Zz,↓Jr,↓Ju,↓Js,↓Jt,cL,Qo,Qn,Q1,Q0,Qx,Qs,Qr,Qz,Qd,Q5,Q6,Qy,Qj,Qi,Qh,Qw,Qv,Qu,Qm,Ql,cJ,hz5,hf5,l0,g1,g2,g3,g4,c1,c2,hr1,hr2,hr3,hr4,hr5,k1,k2,hnu,vtwo,hj,hq,o2,hn2,l1,l2,l3,l4,l5,l6,l8,Zi,Vm,Kv,Vf,Yq,Vg,K3,Yt]
     rfl
    ·rw [fn2,← hroot]; generalize fe q = w; grobner
    ·rw [fn2]; exact evn _ hO
   ·rw [decide_eq_false hO] at o2
    refine ⟨q,true,?_,Eq,fun _ => ⟨hroot,by left; omega⟩,fun h => by cases h⟩
    apply Vc
    apply J4
    rw [J3 (fn:=a60) rfl]
    simp only [a60,J2,quiet,cF,↓pF,reduceCtorEq,Qc,Qp,Ja,Je,J5,Jd,Zy,Q7,Zf,Q4,Zc,Zl,Zk,↓Z0,↓Zz,↓Jr,↓Ju,↓Js,↓Jt,cL,Qo,Qn,Q1,Q0,Qx,Qs,Qr,Qz,Qd,Q5,Q6,Qy,Qj,Qi,Qh,Qw,Qv,Qu,Qm,Ql,cJ,hz5,hf5,l0,g1,g2,g3,g4,c1,c2,hr1,hr2,hr3,hr4,hr5,k1,k2,hnu,vtwo,hj,hq,o2,hn2,l1,l2,l3,l4,l5,l6,l8,Zi,Vm,Kv,Vf,Yq,Vg,K3,Yt]
    rfl
  ·rw [decide_eq_false hB] at k2
   refine ⟨[0,0,0,0,0],false,?_,Qcn,fun h => (by cases h),fun _ s => Qtg (by rw [← hsq]; exact hA) (by rw [← hsq,← fnu]; exact hB)⟩
   apply Vc
   apply J4
   rw [J3 (fn:=a60) rfl]
   simp only [a60,J2,quiet,cF,↓pF,reduceCtorEq,Qc,Qp,Ja,Je,J5,Jd,Zy,Q7,Zf,Q4,Zc,Zl,Zk,↓Z0,↓Zz,↓Jr,↓Ju,↓Js,↓Jt,cL,Qo,Qn,Q1,Q0,Qx,Qs,Qr,Qz,Qd,Q5,Q6,Qy,Qj,Qi,Qh,Qw,Qv,Qu,Qm,Ql,cJ,hz5,hf5,l0,g1,g2,g3,g4,c1,c2,hr1,hr2,hr3,hr4,hr5,k1,k2,hnu,l1,l2,l3,l4,l5,Zi,Vm,Kv,Vf,Yq,Vg,K3,Yt]
   rfl
structure Jac where
 x:Nat
 y:Nat
 z:Nat
 t:Nat
structure JRep (a:Jac) (p:Go.Cv.Pt Go.Fp.P Go.Fp.d):Prop where
 nz:Go.Fp.fp a.z ≠ 0
 x:Go.Fp.fp a.x = p.x * Go.Fp.fp a.z
 y:Go.Fp.fp a.y = p.y * Go.Fp.fp a.z
 t:Go.Fp.fp a.t = p.x * p.y * Go.Fp.fp a.z
def Qih (a b:Nat):Nat:=a + (Go.Fp.P - b % Go.Fp.P)
theorem Rn (a b:Nat):Go.Fp.fp (Qih a b) = Go.Fp.fp a - Go.Fp.fp b:=by
 unfold Qih
 have h:b % Go.Fp.P ≤ Go.Fp.P:=W2 (Jn _ (by rw [Go.Fp.Rd]; decide))
 rw [Go.Fp.Bm,Go.Fp.Qx2 h,Go.Fp.fp_P,Go.Fp.Ha]
 grobner
def Qdk (a b:Jac):Nat:=Qih a.y a.x * Qih b.y b.x % Go.Fp.P
def Qdj (a b:Jac):Nat:=(a.y + a.x) * (b.y + b.x) % Go.Fp.P
def Qdi (a b:Jac):Nat:=1 * 2 * Go.Fp.dN * a.t * b.t % Go.Fp.P
def Qdh (a b:Jac):Nat:=1 * 2 * a.z * b.z % Go.Fp.P
def jfin (a b c e:Nat):Jac:=⟨Qih b a * Qih e c % Go.Fp.P,(e + c) * (b + a) % Go.Fp.P,Qih e c * (e + c) % Go.Fp.P,Qih b a * (b + a) % Go.Fp.P⟩
def Qip (a b:Jac):Jac:=jfin (Qdk a b) (Qdj a b) (Qdi a b) (Qdh a b)
theorem JRep.add {a b:Jac} {p q:Go.Cv.Pt Go.Fp.P Go.Fp.d} (h1:JRep a p) (h2:JRep b q):JRep (Qip a b) (Uf p q):=by
 have ha:Go.Fp.fp (Qdk a b) = (Go.Fp.fp a.y - Go.Fp.fp a.x) * (Go.Fp.fp b.y - Go.Fp.fp b.x):=by
  unfold Qdk; rw [Go.Fp.Ha,Go.Fp.Uh,Rn,Rn]
 have hb:Go.Fp.fp (Qdj a b) = (Go.Fp.fp a.y + Go.Fp.fp a.x) * (Go.Fp.fp b.y + Go.Fp.fp b.x):=by
  unfold Qdj; rw [Go.Fp.Ha,Go.Fp.Uh,Go.Fp.Bm,Go.Fp.Bm]
 have hc:Go.Fp.fp (Qdi a b) = 1 * 2 * Go.Fp.d * Go.Fp.fp a.t * Go.Fp.fp b.t:=by
  unfold Qdi; rw [Go.Fp.Ha,Go.Fp.Uh,Go.Fp.Uh,Go.Fp.Uh,Go.Fp.Uh,Go.Fp.Qgt,Go.Fp.Qq3]; rfl
 have hd:Go.Fp.fp (Qdh a b) = 1 * 2 * Go.Fp.fp a.z * Go.Fp.fp b.z:=by
  unfold Qdh; rw [Go.Fp.Ha,Go.Fp.Uh,Go.Fp.Uh,Go.Fp.Uh,Go.Fp.Qgt,Go.Fp.Qq3]
 have hx:Go.Fp.fp (Qip a b).x = (Go.Fp.fp (Qdj a b) - Go.Fp.fp (Qdk a b)) * (Go.Fp.fp (Qdh a b) - Go.Fp.fp (Qdi a b)):=by
  show Go.Fp.fp (_ % _) = _; rw [Go.Fp.Ha,Go.Fp.Uh,Rn,Rn]
 have hy:Go.Fp.fp (Qip a b).y = (Go.Fp.fp (Qdh a b) + Go.Fp.fp (Qdi a b)) * (Go.Fp.fp (Qdj a b) + Go.Fp.fp (Qdk a b)):=by
  show Go.Fp.fp (_ % _) = _; rw [Go.Fp.Ha,Go.Fp.Uh,Go.Fp.Bm,Go.Fp.Bm]
 have hz:Go.Fp.fp (Qip a b).z = (Go.Fp.fp (Qdh a b) - Go.Fp.fp (Qdi a b)) * (Go.Fp.fp (Qdh a b) + Go.Fp.fp (Qdi a b)):=by
  show Go.Fp.fp (_ % _) = _; rw [Go.Fp.Ha,Go.Fp.Uh,Go.Fp.Bm,Rn]
 have ht:Go.Fp.fp (Qip a b).t = (Go.Fp.fp (Qdj a b) - Go.Fp.fp (Qdk a b)) * (Go.Fp.fp (Qdj a b) + Go.Fp.fp (Qdk a b)):=by
  show Go.Fp.fp (_ % _) = _; rw [Go.Fp.Ha,Go.Fp.Uh,Go.Fp.Bm,Rn]
 obtain ⟨g1,g2,g3,g4⟩:=Qfc h1.x h1.y h1.t h2.x h2.y h2.t ha hb hc hd hx hy hz ht (Go.Cv.Qaj Go.Fp.fld p q) (Go.Cv.Qai Go.Fp.fld p q)
 refine ⟨?_,g1,g2,g3⟩
 rw [g4]
 have F:=Go.Fp.fld
 have w:=F.mul_ne (F.mul_ne F.two h1.nz) h2.nz
 exact F.mul_ne (F.mul_ne w w) (F.mul_ne (F.denM p.on q.on) (F.denP p.on q.on))
def Qks (p:Jac):Nat → Nat → Jac
 | 0,_ => ⟨0,1,1,0⟩
 | f + 1,k => (fun r => if k % 2 = 1 then Qip (Qip r r) p else Qip r r) (Qks p f (k / 2))
theorem JRep.mul {a:Jac} {p:Go.Cv.Pt Go.Fp.P Go.Fp.d} (h:JRep a p):∀ {f k:Nat},k < 2 ^ f → JRep (Qks a f k) (Yl k p)
 | 0,k,hk => by
  have:k = 0:=by omega
  subst this
  exact ⟨Go.Fp.My,by show (0:Go.Fp.Fe) = 0 * 1; grobner,by show (1:Go.Fp.Fe) = 1 * 1; grobner,by show (0:Go.Fp.Fe) = 0 * 1 * 1; grobner⟩
 | f + 1,k,hk => by
  have ih:=JRep.mul h (f:=f) (k:=k / 2) (by omega)
  have hb:=Jn k (by decide:0 < 2)
  have e:Yl k p = Yl (2 * (k / 2) + k % 2) p:=by rw [Vn]
  rw [e,Qfb p (k / 2) (k % 2) hb]
  simp only [Qks]
  split
  ·exact (ih.add ih).add h
  ·exact ih.add ih
def Qio:Jac:=⟨bxN,byN,1,bxN * byN % Go.Fp.P⟩
theorem Qbb:JRep Qio We:=by
 have h1:Go.Fp.fp 1 = (1:Go.Fp.Fe):=rfl
 refine ⟨Go.Fp.My,?_,?_,?_⟩
 ·show Go.Fp.fp bxN = Go.Fp.fp bxN * Go.Fp.fp 1; rw [h1]; grobner
 ·show Go.Fp.fp byN = Go.Fp.fp byN * Go.Fp.fp 1; rw [h1]; grobner
 ·show Go.Fp.fp (bxN * byN % Go.Fp.P) = Go.Fp.fp bxN * Go.Fp.fp byN * Go.Fp.fp 1; rw [h1,Go.Fp.Ha,Go.Fp.Uh]; grobner
theorem Qk1:Yl 8 We ≠ U0:=fun h => by
 have r:=Qbb.mul (f:=4) (k:=8) (by decide)
 rw [h] at r
 have hx:=r.x
 rw [show (U0:Go.Cv.Pt Go.Fp.P Go.Fp.d).x = 0 from rfl] at hx
 have h0:Go.Fp.fp (Qks Qio 4 8).x = Go.Fp.fp 0:=by rw [hx]; show _ = (0:Go.Fp.Fe); grobner
 have h1:=Go.Fp.Qdm.1 h0
 have h2:(Qks Qio 4 8).x % Go.Fp.P ≠ 0 % Go.Fp.P:=by decide +kernel
 exact h2 h1
theorem Qql {a:Jac} {q:Go.Cv.Pt Go.Fp.P Go.Fp.d} (r:JRep a q) (c1:a.x % Go.Fp.P = 0 % Go.Fp.P) (c2:a.y % Go.Fp.P = a.z % Go.Fp.P):q = U0:=by
 have d1:=Go.Fp.Qdm.2 c1
 have d2:=Go.Fp.Qdm.2 c2
 have F:=Go.Fp.fld
 have hx:=r.x
 have hy:=r.y
 have hz:=r.nz
 rw [d1] at hx
 rw [d2] at hy
 generalize Go.Fp.fp a.z = z at *
 apply Go.Cv.Pt.ext
 ·show _ = (0:Go.Fp.Fe)
  have h0:Go.Fp.fp 0 = (0:Go.Fp.Fe):=rfl
  rw [h0] at hx
  refine F.cancel hz ?_
  generalize q.x = w at *
  clear r hy d1 d2
  grobner
 ·show _ = (1:Go.Fp.Fe)
  refine F.cancel hz ?_
  generalize q.y = w at *
  clear r hx d1 d2
  grobner
def Ql7 (a:Jac):Bool:=Nat.beq (a.x % Go.Fp.P) 0 && Nat.beq (a.y % Go.Fp.P) (a.z % Go.Fp.P)
theorem Qra:Ql7 (Qks Qio 253 ell) = true:=by decide +kernel
theorem By:Yl ell We = U0:=by
 have h:=Qra
 simp only [Ql7,Vh] at h
 exact Qql (Qbb.mul (f:=253) (k:=ell) (by decide +kernel)) (Nat.eq_of_beq_eq_true h.1) (Nat.eq_of_beq_eq_true h.2)
theorem K4 {α:Type} {x y:Option α}:Gn (.bool true) true x y = x:=Eq.trans rfl rfl
theorem K7 {α:Type} {x y:Option α}:Gn (.bool false) false x y = x:=Eq.trans rfl rfl
theorem K5 {α:Type} {x y:Option α}:Gn (.bool true) false x y = y:=Eq.trans rfl rfl
theorem K6 {α:Type} {x y:Option α}:Gn (.bool false) true x y = y:=Eq.trans rfl rfl
theorem Kn {t:Nat} {v:Value} {l:Env}:Qqk t (some v) l = (t,v) :: l:=Eq.trans rfl rfl
theorem Kd {α:Type} {v:α} {y:Option α}:Qbr (some v) y = some v:=Eq.trans rfl rfl
theorem Qay {T:Tab} {b:Nat} {q:Bool}:∀ (o1 o2:List AOper) (s:St),steps T b q (o1 ++ o2) s = (steps T b q o1 s).bind (steps T b q o2)
 | [],o2,s => rfl
 | o :: o1,o2,s => by
  rw [Q3]
  unfold steps
  cases hg:guardOf s.env o.guard with
  | none => rfl
  | some g =>
   cases g with
   | true =>
    simp only
    cases hx:Vy T o.op s.env s.h with
    | none => rfl
    | some x =>
     simp only [Qf]
     split
     ·rfl
     ·exact Qay o1 o2 _
   | false => exact Qay o1 o2 _
theorem Ke {T:Tab} {b:Nat} {q:Bool} {a1 a2 a3 a4 a5 a6 a7:AOper} {r:List AOper} {s:St}:steps T b q (a1 :: a2 :: a3 :: a4 :: a5 :: a6 :: a7 :: r) s = (steps T b q [a1,a2,a3,a4,a5,a6] s).bind fun s' => steps T b q (a7 :: r) s':=by
 rw [← Qay]; rfl
theorem Qlr {a:Go.Fp.Fe} (h0:a ≠ 0):(-a).val % 2 ≠ a.val % 2:=by
 have hlt:=a.isLt
 have hne:a.val ≠ 0:=fun h => h0 (Fin.ext h)
 have h1:(-a).val = (Go.Fp.P - a.val) % Go.Fp.P:=rfl
 have h2:(Go.Fp.P - a.val) < Go.Fp.P:=by omega
 rw [h1,Z6 h2]
 have hP:Go.Fp.P % 2 = 1:=by rw [Go.Fp.Rd]
 omega
theorem Qvu {a b:Go.Fp.Fe} (h:a * a = b * b):a = b ∨ a = -b:=by
 have F:=Go.Fp.fld
 have:(a - b) * (a + b) = 0:=by grobner
 rcases F.dom this with h1 | h1
 ·left; clear h this; grobner
 ·right; clear h this; grobner
theorem Qxf (dd z:Go.Fp.Fe) (hz:z = 0):dd * (z * z) + 1 = 1:=by grobner
theorem Qrf (y:Go.Fp.Fe):Go.Fp.d * (y * y) + 1 ≠ 0:=fun h => by
 have F:=Go.Fp.fld
 have hy:y ≠ 0:=by
  intro h0
  rw [Qxf _ _ h0] at h
  exact Go.Fp.My h
 have hi:=Go.Fp.Qkt hy
 have hr:=Go.Fp.Qjy
 apply Go.Fp.nosq (Go.Fp.i * Go.Fp.iv y)
 generalize Go.Fp.d = dd at *
 generalize Go.Fp.i = ii at *
 generalize Go.Fp.iv y = w at *
 clear F hy
 have e1:dd * (y * w) * (y * w) + w * w = 0:=by
  have:dd * (y * w) * (y * w) + w * w = (dd * (y * y) + 1) * (w * w):=by clear h hi hr; grobner
  rw [this,h]; clear this h hi hr; grobner
 rw [hi] at e1
 have e2:ii * w * (ii * w) = (ii * ii) * (w * w):=by clear h hi hr e1; grobner
 rw [e2,hr]
 clear h hi hr e2
 grobner
theorem Qv5 (p:Go.Cv.Pt Go.Fp.P Go.Fp.d):(Go.Fp.d * (p.y * p.y) + 1) * (p.x * p.x) = p.y * p.y - 1:=by
 have h:=p.on
 unfold Go.Cv.On at h
 generalize Go.Fp.d = dd at *
 generalize p.x = x at *
 generalize p.y = y at *
 grobner
theorem Qq9 {p q:Go.Cv.Pt Go.Fp.P Go.Fp.d} (h:Qbf p = Qbf q):p = q:=by
 unfold Qbf at h
 have h1:=Qcp p.y
 have h2:=Qcp q.y
 have h3:=Jn p.x.val (by decide:0 < 2)
 have h4:=Jn q.x.val (by decide:0 < 2)
 have hy:p.y.val = q.y.val:=by omega
 have hx:p.x.val % 2 = q.x.val % 2:=by omega
 have hy':p.y = q.y:=Fin.ext hy
 have e1:=Qv5 p
 have e2:=Qv5 q
 rw [hy',← e2] at e1
 have e3:=Go.Fp.fld.cancel (Qrf q.y) e1
 refine Go.Cv.Pt.ext ?_ hy'
 rcases Qvu e3 with h | h
 ·exact h
 ·by_cases h0:q.x = 0
  ·rw [h,h0]; grobner
  ·exfalso
   have:=Qlr h0
   rw [← h] at this
   exact this hx
theorem Ql5 (p q:Go.Cv.Pt Go.Fp.P Go.Fp.d):(enc p == enc q) = decide (p = q):=by
 unfold enc
 rw [key_inj (Qgv p) (Qgv q)]
 by_cases h:p = q
 ·subst h; rw [decide_eq_true rfl,decide_eq_true rfl]
 ·rw [decide_eq_false h,decide_eq_false (fun e => h (Qq9 e))]
theorem Qx3 {a b:List Nat} {p q:Go.Cv.Pt Go.Fp.P Go.Fp.d} (ha:RepL a p) (hb:RepL b q):fillL (Qb 40 (Value.int .u64 0)) [(0,20,eV a),(20,20,eV b)] = some (ns .u64 [a,b].flatten):=by
 obtain ⟨x1,y1,z1,t1,rfl,h1⟩:=ha
 obtain ⟨x2,y2,z2,t2,rfl,h2⟩:=hb
 obtain ⟨a0,a1,a2,a3,a4,rfl,-⟩:=h1.ex.five
 obtain ⟨b0,b1,b2,b3,b4,rfl,-⟩:=h1.ey.five
 obtain ⟨c0,c1,c2,c3,c4,rfl,-⟩:=h1.ez.five
 obtain ⟨d0,d1,d2,d3,d4,rfl,-⟩:=h1.et.five
 obtain ⟨e0,e1,e2,e3,e4,rfl,-⟩:=h2.ex.five
 obtain ⟨f0,f1,f2,f3,f4,rfl,-⟩:=h2.ey.five
 obtain ⟨g0,g1,g2,g3,g4,rfl,-⟩:=h2.ez.five
 obtain ⟨i0,i1,i2,i3,i4,rfl,-⟩:=h2.et.five
 rfl
theorem Qa4 (p q:Go.Cv.Pt Go.Fp.P Go.Fp.d):Uf p q = Uf q p:=Go.Cv.add_comm Go.Fp.fld p q
theorem Ti (p q r:Go.Cv.Pt Go.Fp.P Go.Fp.d):Uf (Uf p q) r = Uf p (Uf q r):=Go.Cv.add_assoc Go.Fp.fld p q r
theorem Quc {k:List Nat} (lk:k.length = 32) (xk:∀ x ∈ k,x < 256) {p:Go.Cv.Pt Go.Fp.P Go.Fp.d}:enc p = k ↔ Qbf p = num 256 k:=by
 have h1:=num_lt xk
 rw [lk] at h1
 have h2:=Mc (by decide:0 < 256) xk
 rw [lk] at h2
 constructor
 ·intro h
  have:=Uk (B:=256) (by decide) 32 (Qbf p)
  rw [Z6 (Qgv p)] at this
  rw [← this,← h]; rfl
 ·intro h
  unfold enc
  rw [h,h2]
theorem Qnx {p:Go.Cv.Pt Go.Fp.P Go.Fp.d} {V:Nat}:Qbf p = V ↔ p.y.val = V % 2 ^ 255 ∧ p.x.val % 2 = V / 2 ^ 255:=by
 have h1:=Qcp p.y
 have h3:=Jn p.x.val (by decide:0 < 2)
 unfold Qbf
 constructor
 ·intro h; omega
 ·rintro ⟨h,h'⟩; rw [h,h',K9,Nat.mod_add_div]
theorem Qvz {u v x y:Go.Fp.Fe} (hu:u = y * y - 1) (hv:v = Go.Fp.d * (y * y) + 1) (h:v * (x * x) = u):Go.Cv.On Go.Fp.d x y:=by
 unfold Go.Cv.On
 generalize Go.Fp.d = dd at *
 subst hu hv
 grobner
theorem Qtr {k:List Nat} (lk:k.length = 32) (xk:∀ x ∈ k,x < 256):∃ w,k[31]? = some w ∧ w < 256 ∧ w / 128 = num 256 k / 2 ^ 255 ∧ num 256 (k.set 31 (w &&& 127)) = num 256 k % 2 ^ 255 ∧ (∀ x ∈ k.set 31 (w &&& 127),x < 256) ∧ (k.set 31 (w &&& 127)).length = 32:=by
 obtain ⟨w,hw⟩:∃ w,k[31]? = some w:=⟨_,Qq (by omega)⟩
 have hw':w < 256:=xk w (Zt hw)
 have hV:=num_lt xk
 rw [lk] at hV
 have hg:=Gr (by decide:0 < 256) xk hw
 have hs:=Hr (B:=256) (w &&& 127) hw
 have ha:w &&& 127 = w % 128:=Nat.and_two_pow_sub_one_eq_mod w 7
 refine ⟨w,hw,hw',?_⟩
 rw [ha] at hs ⊢
 have e31:(256:Nat) ^ 31 = 452312848583266388373324160190187140051835877600158453279131187530910662656:=by decide
 have e32:(256:Nat) ^ 32 = 115792089237316195423570985008687907853269984665640564039457584007913129639936:=by decide
 have e255:(2:Nat) ^ 255 = 57896044618658097711785492504343953926634992332820282019728792003956564819968:=by decide
 rw [e31] at hg hs
 rw [e32] at hV
 rw [e255]
 refine ⟨by omega,by omega,?_,by rw [X3]; exact lk⟩
 intro x hx
 rcases Re hx with h | h
 ·exact xk x h
 ·omega
def Qnz (l:List Nat) (c:Int):Value := .tuple #[eV l,.int .i64 c]
theorem Qi3 {k:List Nat} (lk:k.length = 32) (xk:∀ x ∈ k,x < 256) :
  (∃ l p,V7 T 19 [.agg (u8s k).toArray] = some (Qnz l 0) ∧ RepL l p ∧ enc p = k) ∨ (∃ l,V7 T 19 [.agg (u8s k).toArray] = some (Qnz l 60) ∧ l.length = 20 ∧ ∀ p,enc p ≠ k):=by
 obtain ⟨w,hw,hw',ht,hm,xm,lm⟩:=Qtr lk xk
 have hwc:=Ud hw
 have hset:=Gp k 31 (w &&& 127)
 have o1:Vj .and .u8 (w:Int) 127 = ((w &&& 127:Nat):Int):=Dv (k := .u8) (a:=w) (b:=127) rfl hw' (by decide)
 have hof:=Qqb lm xm
 have hcan:=Qi7 lm xm
 rw [hm] at hof hcan
 rw [Rx] at hof
 have hkey:∀ p:Go.Cv.Pt Go.Fp.P Go.Fp.d,enc p = k ↔ p.y.val = num 256 k % 2 ^ 255 ∧ p.x.val % 2 = num 256 k / 2 ^ 255:=fun p => by rw [Quc lk xk,Qnx]
 rw [← ht] at hkey
 have Ey:=Qif (V:=num 256 k % 2 ^ 255)
 have fy:fe (dig (2 ^ 51) 5 (num 256 k % 2 ^ 255)) = Go.Fp.fp (num 256 k % 2 ^ 255):=by unfold fe; rw [Qc9]
 generalize k.set 31 (w &&& 127) = km at *
 generalize dig (2 ^ 51) 5 (num 256 k % 2 ^ 255) = Y at *
 generalize num 256 k % 2 ^ 255 = V at *
 have hz20:∃ O,Qb 20 (Value.int .u64 0) = ns .u64 O ∧ O.length = 20 ∧ fillL (ns .u64 O) [] = some (ns .u64 O):=⟨Qb 20 0,rfl,rfl,rfl⟩
 obtain ⟨O,hz20,l0,hf0⟩:=hz20
 have l1:=Ey.len
 have hz5:Qb 5 (Value.int .u64 0) = ns .u64 [0,0,0,0,0]:=rfl
 have l5:([0,0,0,0,0]:List Nat).length = 5:=rfl
 have hbit:((((w / 128:Nat):Int)) == 1) = decide (w / 128 = 1):=by
  by_cases h:w / 128 = 1
  ·rw [h]; rfl
  ·have:¬ (((w / 128:Nat):Int) = 1):=by omega
   rw [decide_eq_false h,beq_eq_false_iff_ne.2 this]
 have hshr:((w:Int) / 128) = ((w / 128:Nat):Int):=rfl
 by_cases hV:V < Go.Fp.P
 ·rw [decide_eq_true hV] at hcan
  have hYv:(Go.Fp.fp V).val = V:=Z6 hV
  obtain ⟨one,hone⟩:∃ O:List Nat,O = [1,0,0,0,0]:=⟨_,rfl⟩
  have Eone:El one (2 ^ 52):=by rw [hone]; exact Qa8
  have vone:V7 T 28 [.int .u32 1] = some (eV one):=by rw [hone]; exact Qp0
  have fone:fe one = 1:=by rw [hone]; exact Qa7
  clear hone
  obtain ⟨yy,hyy,Eyy,fyy⟩:=Wq Ey Ey
  obtain ⟨D,hD,ED,fD⟩:=Qdo
  obtain ⟨uu,huu,Euu,fuu⟩:=Qbo Eyy Eone
  obtain ⟨dy,hdy,Edy,fdy⟩:=Wq ED Eyy
  obtain ⟨vv,sv,hvv,Evv,fvv⟩:=H4 (H:=[⟨u8s km,true,true,true,1⟩,⟨ns .u64 O,true,true,true,1⟩,⟨ns .u64 Y,true,true,true,1⟩,⟨ns .u64 yy,true,true,true,1⟩,⟨ns .u64 (dy ++ one),true,true,true,1⟩]) (id:=4) Edy Eone rfl
  simp only [Q3,Q2] at hvv
  obtain ⟨r,ok,hr,Er,hok,hno⟩:=Qw3 Euu Evv
  have hf2:=Qbw Edy Eone
  have l6:=Eyy.len
  have l7:=Er.len
  have kz:=Qqm Er
  obtain ⟨nr,hnr,Enr,fnr⟩:=Qfj Er
  obtain ⟨t1,ht1,Et1,ft1⟩:=Wq Er Ey
  obtain ⟨t2,ht2,Et2,ft2⟩:=Wq Enr Ey
  have g1:=Qbv Er Ey Eone Et1
  have g2:=Qbv Enr Ey Eone Et2
  rw [hz20] at g1 g2
  have q1:=Bw Er Ey Eone Et1
  have q2:=Bw Enr Ey Eone Et2
  have l8:=Enr.len
  have hu:fe uu = Go.Fp.fp V * Go.Fp.fp V - 1:=by rw [fuu,fyy,fy,fone]
  have hv:fe vv = Go.Fp.d * (Go.Fp.fp V * Go.Fp.fp V) + 1:=by rw [fvv,fdy,fD,fyy,fy,fone]
  have hyp:∀ p:Go.Cv.Pt Go.Fp.P Go.Fp.d,enc p = k → p.y = Go.Fp.fp V:=fun p hp => Fin.ext (by rw [hYv]; exact ((hkey p).1 hp).1)
  have hxx:∀ p:Go.Cv.Pt Go.Fp.P Go.Fp.d,enc p = k → fe vv * (p.x * p.x) = fe uu:=fun p hp => by
   have:=Qv5 p
   rw [hyp p hp] at this
   rw [hu,hv]; exact this
  have rft:∀ b:Bool,rf (Value.tuple #[eV r,.bool b]) = true:=fun b => Qf4 (a:=eV r) (b := .bool b) (Yt r) rfl
  cases ok with
  | false =>
   refine .inr ⟨O,?_,l0,fun p hp => hno rfl p.x (hxx p hp)⟩
   apply Vc
   apply J4
   rw [J3 (fn:=a31) rfl]
   simp only [a31,↓Ke,J2,quiet,cF,↓pF,reduceCtorEq,Qc,Qp,Ja,Je,J5,Jd,Zy,Q7,Zf,Q4,Zc,Zl,Zk,↓Kn,↓Kd,↓K4,↓K7,↓K5,↓K6,cL,Qo,Qn,Q1,Q0,Qx,Qs,Qr,Qz,Qd,Q5,Q6,Qy,Qj,Qi,Qh,Qw,Qv,Qu,Qm,Ql,cJ,cU,hz20,hf0,hz5,hwc,hset,o1,hof,hcan,hbit,hshr,vone,hyy,hD,huu,hdy,hf2,hvv,hr,Zi,Vm,Kv,Vf,Yq,Vg,K3,Ky,lk,lm,l0,l1,l5,l6,l7,Gx,Qhr,rft,Yt]
   rfl
  | true =>
   obtain ⟨hroot,hev⟩:=hok rfl
   have hev':(fe r).val % 2 = 0:=by
    rcases hev with h | h
    ·exact h
    ·rw [h]; rfl
   by_cases hb:w / 128 = 1
   ·rw [decide_eq_true hb] at hbit
    by_cases h0:fe r = 0
    ·rw [decide_eq_true h0] at kz
     refine .inr ⟨O,?_,l0,fun p hp => ?_⟩
     ·apply Vc
      apply J4
      rw [J3 (fn:=a31) rfl]
      simp only [a31,↓Ke,J2,quiet,cF,↓pF,reduceCtorEq,Qc,Qp,Ja,Je,J5,Jd,Zy,Q7,Zf,Q4,Zc,Zl,Zk,↓Kn,↓Kd,↓K4,↓K7,↓K5,↓K6,cL,Qo,Qn,Q1,Q0,Qx,Qs,Qr,Qz,Qd,Q5,Q6,Qy,Qj,Qi,Qh,Qw,Qv,Qu,Qm,Ql,cJ,cU,hz20,hf0,hz5,hwc,hset,o1,hof,hcan,hbit,hshr,vone,hyy,hD,huu,hdy,hf2,hvv,hr,Zi,Vm,Kv,Vf,Yq,Vg,K3,Ky,lk,lm,l0,l1,l5,l6,l7,Gx,Qhr,rft,Yt,kz]
      rfl
     ·have h2:=((hkey p).1 hp).2
      have h3:=hxx p hp
      rw [← hroot,h0] at h3
      have h4:p.x * p.x = 0 * 0:=Go.Fp.fld.cancel (by rw [hv]; exact Qrf _) h3
      rcases Qvu h4 with h5 | h5
      ·rw [h5,hb] at h2; exact absurd h2 (by decide)
      ·rw [h5,hb] at h2; exact absurd h2 (by decide)
    ·rw [decide_eq_false h0] at kz
     have hroot':fe vv * (-fe r * -fe r) = fe uu:=by rw [← hroot]; generalize fe r = a; generalize fe vv = b; grobner
     refine .inl ⟨pL nr Y one t2,⟨-fe r,Go.Fp.fp V,Qvz hu hv hroot'⟩,?_,⟨nr,Y,one,t2,rfl,Enr,Ey,Eone,Et2,by rw [fone]; exact Go.Fp.My,?_,?_,?_⟩,(hkey _).2 ⟨hYv,?_⟩⟩
     ·generalize pL nr Y one t2 = L at *
      apply Vc
      apply J4
      rw [J3 (fn:=a31) rfl]
      simp only [a31,↓Ke,J2,quiet,cF,↓pF,reduceCtorEq,Qc,Qp,Ja,Je,J5,Jd,Zy,Q7,Zf,Q4,Zc,Zl,Zk,↓Kn,↓Kd,↓K4,↓K7,↓K5,↓K6,cL,Qo,Qn,Q1,Q0,Qx,Qs,Qr,Qz,Qd,Q5,Q6,Qy,Qj,Qi,Qh,Qw,Qv,Qu,Qm,Ql,cJ,cU,hz20,hf0,hz5,hwc,hset,o1,hof,hcan,hbit,hshr,vone,hyy,hD,huu,hdy,hf2,hvv,hr,Zi,Vm,Kv,Vf,Yq,Vg,K3,Ky,lk,lm,l0,l1,l5,l6,l7,Gx,Qhr,rft,Yt,kz,hnr,ht2,g2,q2,l8]
      rfl
     ·rw [fnr,fone]; show -fe r = -fe r * 1; generalize fe r = a; grobner
     ·rw [fy,fone]; show Go.Fp.fp V = Go.Fp.fp V * 1; generalize Go.Fp.fp V = a; grobner
     ·rw [ft2,fnr,fy,fone]; show -fe r * Go.Fp.fp V = -fe r * Go.Fp.fp V * 1; generalize Go.Fp.fp V = a; generalize fe r = b; grobner
     ·have:=Qlr h0
      rw [hev'] at this
      show (-fe r).val % 2 = _
      rw [hb]; omega
   ·rw [decide_eq_false hb] at hbit
    refine .inl ⟨pL r Y one t1,⟨fe r,Go.Fp.fp V,Qvz hu hv hroot⟩,?_,⟨r,Y,one,t1,rfl,Er,Ey,Eone,Et1,by rw [fone]; exact Go.Fp.My,?_,?_,?_⟩,(hkey _).2 ⟨hYv,?_⟩⟩
    ·generalize pL r Y one t1 = L at *
     apply Vc
     apply J4
     rw [J3 (fn:=a31) rfl]
     simp only [a31,↓Ke,J2,quiet,cF,↓pF,reduceCtorEq,Qc,Qp,Ja,Je,J5,Jd,Zy,Q7,Zf,Q4,Zc,Zl,Zk,↓Kn,↓Kd,↓K4,↓K7,↓K5,↓K6,cL,Qo,Qn,Q1,Q0,Qx,Qs,Qr,Qz,Qd,Q5,Q6,Qy,Qj,Qi,Qh,Qw,Qv,Qu,Qm,Ql,cJ,cU,hz20,hf0,hz5,hwc,hset,o1,hof,hcan,hbit,hshr,vone,hyy,hD,huu,hdy,hf2,hvv,hr,Zi,Vm,Kv,Vf,Yq,Vg,K3,Ky,lk,lm,l0,l1,l5,l6,l7,Gx,Qhr,rft,Yt,ht1,g1,q1]
     rfl
    ·rw [fone]; show fe r = fe r * 1; generalize fe r = a; grobner
    ·rw [fy,fone]; show Go.Fp.fp V = Go.Fp.fp V * 1; generalize Go.Fp.fp V = a; grobner
    ·rw [ft1,fy,fone]; show fe r * Go.Fp.fp V = fe r * Go.Fp.fp V * 1; generalize Go.Fp.fp V = a; generalize fe r = b; grobner
    ·show (fe r).val % 2 = _
     rw [hev']; omega
 ·rw [decide_eq_false hV] at hcan
  refine .inr ⟨O,?_,l0,fun p hp => hV ?_⟩
  ·apply Vc
   apply J4
   rw [J3 (fn:=a31) rfl]
   simp only [a31,↓Ke,J2,quiet,cF,↓pF,reduceCtorEq,Qc,Qp,Ja,Je,J5,Jd,Zy,Q7,Zf,Q4,Zc,Zl,Zk,↓Kn,↓Kd,↓K4,↓K7,↓K5,↓K6,cL,Qo,Qn,Q1,Q0,Qx,Qs,Qr,Qz,Qd,Q5,Q6,Qy,Qj,Qi,Qh,Qw,Qv,Qu,Qm,Ql,cJ,cU,hz20,hf0,hz5,hwc,hset,o1,hof,hcan,hbit,hshr,Zi,Vm,Kv,Vf,Yq,Vg,K3,Ky,lk,lm,l0,l1,l5,Yt]
   rfl
  ·rw [← ((hkey p).1 hp).1]; exact p.y.isLt
def pf (n:Nat) (L:List Nat) (i:Nat):List Nat:=L.take i ++ Qb (n - i) 0
theorem Qlo (n:Nat) (L:List Nat):pf n L 0 = Qb n 0:=by simp [pf]
theorem Qlp {n:Nat} {L:List Nat} (h:L.length = n):pf n L n = L:=by simp [pf,← h]
theorem Qj4 {n:Nat} {L:List Nat} (h:L.length = n) {i:Nat} (hi:i ≤ n):(pf n L i).length = n:=by simp [pf]; omega
theorem Qf9 {n i x:Nat} {L:List Nat} (h:L.length = n) (hi:i < n) (hx:L[i]? = some x):(pf n L i).set i x = pf n L (i + 1):=by
 unfold pf
 rw [Hj _ _ (by simp; omega)]
 have e1:(L.take i).length = i:=by simp; omega
 rw [e1,V8]
 have e2:n - i = (n - (i + 1)) + 1:=by omega
 rw [e2,B2,Qeu,Y6,hx]
 simp
structure Nm (l:List Nat):Prop where
 len:l.length = 16
 lt:∀ x ∈ l,x < 65536
theorem Nm.num_lt {l:List Nat} (h:Nm l):num 65536 l < 2 ^ 256:=by
 have:=Go.Ev.num_lt h.lt
 rw [h.len] at this
 exact this
theorem Nm.dig (v:Nat):Nm (dig 65536 16 v):=⟨Ku _ _ _,fun x h => Bi (by decide) h⟩
theorem Nm.eq {l:List Nat} (h:Nm l):l = Go.Ev.dig 65536 16 (num 65536 l):=by
 have:=Mc (B:=65536) (by decide) h.lt
 rw [h.len] at this
 exact this.symm
theorem Nm.inj {l m:List Nat} (h:Nm l) (h':Nm m) (e:num 65536 l = num 65536 m):l = m:=by rw [h.eq,h'.eq,e]
theorem wn {n:Nat} (h:n < 9223372036854775808):IntKind.i64.wrap (n:Int) = n:=Vt h
theorem Qr3 {n:Nat} (h:n < 18446744073709551616):IntKind.u64.wrap (n:Int) = n:=by rw [Qly,Z6 h]
theorem Qr4 {a b:Nat} (h:a + b < 18446744073709551616):IntKind.u64.wrap ((a:Int) + (b:Int)) = ((a + b:Nat):Int):=by rw [← Ga]; exact Qr3 h
theorem Qli {a b:Nat} (h:a * b < 18446744073709551616):IntKind.u64.wrap ((a:Int) * (b:Int)) = ((a * b:Nat):Int):=by rw [← B9]; exact Qr3 h
theorem B3 {a b:Nat} (h:a + b < 9223372036854775808):IntKind.i64.wrap ((a:Int) + (b:Int)) = ((a + b:Nat):Int):=by rw [← Ga]; exact wn h
theorem Qjl {a b:Nat} (h:a * b < 9223372036854775808):IntKind.i64.wrap ((a:Int) * (b:Int)) = ((a * b:Nat):Int):=by rw [← B9]; exact wn h
def Wt (x r:Nat):Nat:=x / 2 ^ r + x * 2 ^ (64 - r) % 18446744073709551616
def sg0 (x:Nat):Nat:=Wt x 1 ^^^ Wt x 8 ^^^ (x / 2 ^ 7)
def sg1 (x:Nat):Nat:=Wt x 19 ^^^ Wt x 61 ^^^ (x / 2 ^ 6)
def Sg0 (x:Nat):Nat:=Wt x 28 ^^^ Wt x 34 ^^^ Wt x 39
def Sg1 (x:Nat):Nat:=Wt x 14 ^^^ Wt x 18 ^^^ Wt x 41
def chO (e f g:Nat):Nat:=(e &&& f) ^^^ ((18446744073709551615 ^^^ e) &&& g)
def maO (a b c:Nat):Nat:=(a &&& b) ^^^ (a &&& c) ^^^ (b &&& c)
def be (l:List Nat):Nat:=l.foldl (fun a x => a * 256 + x) 0
def Qvp (w:List Nat):Nat:=(w.getD (w.length - 16) 0 + w.getD (w.length - 7) 0 + sg0 (w.getD (w.length - 15) 0) + sg1 (w.getD (w.length - 2) 0)) % 18446744073709551616
def Mq:Nat → List Nat → List Nat
 | 0,l => l
 | n + 1,l => Mq n l ++ [Qvp (Mq n l)]
def Qew (b:List Nat):List Nat:=(Yi 16).map fun i => be ((b.drop (8 * i)).take 8)
def Ww (b:List Nat):List Nat:=Mq 64 (Qew b)
def Qb3:List Nat:=[4794697086780616226,8158064640168781261,13096744586834688815,16840607885511220156,4131703408338449720,6480981068601479193,10538285296894168987,12329834152419229976,15566598209576043074,1334009975649890238,2608012711638119052,6128411473006802146,8268148722764581231,9286055187155687089,11230858885718282805,13951009754708518548,16472876342353939154,17275323862435702243,1135362057144423861,2597628984639134821,3308224258029322869,5365058923640841347,6679025012923562964,8573033837759648693,10970295158949994411,12119686244451234320,12683024718118986047,13788192230050041572,14330467153632333762,15395433587784984357,489312712824947311,1452737877330783856,2861767655752347644,3322285676063803686,5560940570517711597,5996557281743188959,7280758554555802590,8532644243296465576,9350256976987008742,10552545826968843579,11727347734174303076,12113106623233404929,14000437183269869457,14369950271660146224,15101387698204529176,15463397548674623760,17586052441742319658,1182934255886127544,1847814050463011016,2177327727835720531,2830643537854262169,3796741975233480872,4115178125766777443,5681478168544905931,6601373596472566643,7507060721942968483,8399075790359081724,8693463985226723168,9568029438360202098,10144078919501101548,10430055236837252648,11840083180663258601,13761210420658862357,14299343276471374635,14566680578165727644,15097957966210449927,16922976911328602910,17689382322260857208,500013540394364858,748580250866718886,1242879168328830382,1977374033974150939,2944078676154940804,3659926193048069267,4368137639120453308,4836135668995329356,5532061633213252278,6448918945643986474,6902733635092675308,7801388544844847127]
def t1O (s:List Nat) (k w:Nat):Nat:=(s.getD 7 0 + Sg1 (s.getD 4 0) + chO (s.getD 4 0) (s.getD 5 0) (s.getD 6 0) + k + w) % 18446744073709551616
def t2O (s:List Nat):Nat:=(Sg0 (s.getD 0 0) + maO (s.getD 0 0) (s.getD 1 0) (s.getD 2 0)) % 18446744073709551616
def rnd (s:List Nat) (k w:Nat):List Nat:=[(t1O s k w + t2O s) % 18446744073709551616,s.getD 0 0,s.getD 1 0,s.getD 2 0,(s.getD 3 0 + t1O s k w) % 18446744073709551616,s.getD 4 0,s.getD 5 0,s.getD 6 0]
def Qb0:Nat → List Nat → List Nat → List Nat
 | 0,_,s => s
 | n + 1,w,s => rnd (Qb0 n w s) (Qb3.getD n 0) (w.getD n 0)
def blk (s b:List Nat):List Nat:=Qas (fun x y => (x + y) % 18446744073709551616) s (Qb0 80 (Ww b) s)
def R3:List Nat:=[7640891576956012808,13503953896175478587,4354685564936845355,11912009170470909681,5840696475078001361,11170449401992604703,2270897969802886507,6620516959819538809]
def stK:Nat → List Nat → List Nat
 | 0,_ => R3
 | n + 1,b => blk (stK n b) ((b.drop (128 * n)).take 128)
def G7 (n:Nat):Nat:=(239 - n % 128) % 128
def Qa5 (n:Nat):List Nat:=128 :: (Qb (G7 n) 0 ++ ((Yi 16).map fun i => 8 * n / 256 ^ (15 - i) % 256))
def sha (b:List Nat):List Nat:=(Yi 64).map fun i => (stK ((b ++ Qa5 b.length).length / 128) (b ++ Qa5 b.length)).getD (i / 8) 0 / 256 ^ (7 - i % 8) % 256
theorem Qdg:Qb3.length = 80:=rfl
theorem B6 {x r:Nat} (hx:x < 18446744073709551616) (hr:0 < r) (hr':r ≤ 63):Wt x r < 18446744073709551616:=by
 unfold Wt
 have e:(18446744073709551616:Nat) = 2 ^ r * 2 ^ (64 - r):=by rw [← Y4,show r + (64 - r) = 64 by omega]
 have h1:x / 2 ^ r < 2 ^ (64 - r):=Nat.div_lt_of_lt_mul (by rw [← e]; exact hx)
 have h2:x * 2 ^ (64 - r) % 18446744073709551616 = (x % 2 ^ r) * 2 ^ (64 - r):=by rw [e,Nat.mul_mod_mul_right]
 rw [h2]
 have h3:x % 2 ^ r + 1 ≤ 2 ^ r:=Jn _ (Y9 (by decide))
 have h4:=Wa (2 ^ (64 - r)) h3
 rw [← e,Kr,Wr] at h4
 omega
theorem Qsi {x r:Nat} (hx:x < 18446744073709551616) (hr:0 < r) (hr':r ≤ 63):(x * 2 ^ (64 - r) % 18446744073709551616) ||| (x / 2 ^ r) = Wt x r:=by
 have e:(18446744073709551616:Nat) = 2 ^ r * 2 ^ (64 - r):=by rw [← Y4,show r + (64 - r) = 64 by omega]
 have h1:x / 2 ^ r < 2 ^ (64 - r):=Nat.div_lt_of_lt_mul (by rw [← e]; exact hx)
 have h2:x * 2 ^ (64 - r) % 18446744073709551616 = (x % 2 ^ r) * 2 ^ (64 - r):=by rw [e,Nat.mul_mod_mul_right]
 unfold Wt
 rw [h2,Mw h1,Gt]
theorem R4 {x r:Nat} (hx:x < 18446744073709551616) (hr:0 < r) (hr':r ≤ 63):V7 T 71 [.int .u64 x,.int .i64 (-(r:Int))] = some (.int .u64 (Wt x r:Nat)):=by
 have hw:IntKind.u64.wrap (-(r:Int)) = ((18446744073709551616 - r:Nat):Int):=by rw [Mp]; omega
 have hm:Vj .and .u64 ((18446744073709551616 - r:Nat):Int) 63 = ((64 - r:Nat):Int):=by
  have:=Tk .u64 rfl 6 (18446744073709551616 - r) (by decide)
  have e:((2 ^ 6 - 1:Nat):Int) = 63:=by decide
  rw [e] at this
  rw [this]
  have:(18446744073709551616 - r) % 2 ^ 6 = 64 - r:=by omega
  rw [this]
 have n1:(((64 - r:Nat):Int) < 0) = False:=eq_false (by omega)
 have h64:min (64 - r) IntKind.u64.bits = 64 - r:=Vx (by show 64 - r ≤ 64; omega)
 have hr64:min r IntKind.u64.bits = r:=Vx (by show r ≤ 64; omega)
 have hs1:IntKind.u64.wrap ((x:Int) * 2 ^ (64 - r)) = ((x * 2 ^ (64 - r) % 18446744073709551616:Nat):Int):=by
  rw [← Qly,B9,Qle]; rfl
 have hsub:IntKind.u64.wrap (64 - ((64 - r:Nat):Int)) = (r:Int):=by rw [Mp]; omega
 have n2:((r:Int) < 0) = False:=eq_false (by omega)
 have hs2:(x:Int).fdiv (2 ^ r) = ((x / 2 ^ r:Nat):Int):=by
  rw [← Qgl,Qle]; rfl
 have hlt1:x * 2 ^ (64 - r) % 18446744073709551616 < 2 ^ IntKind.u64.bits:=Jn _ (by decide)
 have hlt2:x / 2 ^ r < 2 ^ IntKind.u64.bits:=Bg (Dz _ _) hx
 have ho:Vj .or .u64 ((x * 2 ^ (64 - r) % 18446744073709551616:Nat):Int) ((x / 2 ^ r:Nat):Int) = ((Wt x r:Nat):Int):=by
  rw [B0 rfl hlt1 hlt2,Qsi hx hr hr']
 generalize hq:64 - r = q at *
 generalize hu:18446744073709551616 - r = u at *
 apply Vc
 apply J4
 rw [J3 (fn:=Qu7) rfl]
 simp only [Qu7,↓Ke,J2,quiet,cF,↓pF,reduceCtorEq,Qc,Qp,Ja,Je,J5,Jd,Zy,Q7,Zf,Q4,Zc,Zl,Zk,↓Z0,↓Zz,↓Jr,↓Ju,↓Js,↓Jt,cL,Qo,Qn,Q1,Q0,Qx,Qs,Qr,Qz,Qd,Q5,Q6,Qy,Qj,Qi,Qh,Qw,Qv,Qu,Qm,Ql,cJ,hw,hm,n1,h64,hs1,hsub,n2,hr64,hs2,ho,Zu]
 rfl
theorem Qnh:fillL (Qb 80 (Value.int .u64 0)) [(0,1,.int .u64 4794697086780616226),(1,1,.int .u64 8158064640168781261),(2,1,.int .u64 13096744586834688815),(3,1,.int .u64 16840607885511220156),(4,1,.int .u64 4131703408338449720),(5,1,.int .u64 6480981068601479193),(6,1,.int .u64 10538285296894168987),(7,1,.int .u64 12329834152419229976),(8,1,.int .u64 15566598209576043074),(9,1,.int .u64 1334009975649890238),(10,1,.int .u64 2608012711638119052),(11,1,.int .u64 6128411473006802146),(12,1,.int .u64 8268148722764581231),(13,1,.int .u64 9286055187155687089),(14,1,.int .u64 11230858885718282805),(15,1,.int .u64 13951009754708518548),(16,1,.int .u64 16472876342353939154),(17,1,.int .u64 17275323862435702243),(18,1,.int .u64 1135362057144423861),(19,1,.int .u64 2597628984639134821),(20,1,.int .u64 3308224258029322869),(21,1,.int .u64 5365058923640841347),(22,1,.int .u64 6679025012923562964),(23,1,.int .u64 8573033837759648693),(24,1,.int .u64 10970295158949994411),(25,1,.int .u64 12119686244451234320),(26,1,.int .u64 12683024718118986047),(27,1,.int .u64 13788192230050041572),(28,1,.int .u64 14330467153632333762),(29,1,.int .u64 15395433587784984357),(30,1,.int .u64 489312712824947311),(31,1,.int .u64 1452737877330783856),(32,1,.int .u64 2861767655752347644),(33,1,.int .u64 3322285676063803686),(34,1,.int .u64 5560940570517711597),(35,1,.int .u64 5996557281743188959),(36,1,.int .u64 7280758554555802590),(37,1,.int .u64 8532644243296465576),(38,1,.int .u64 9350256976987008742),(39,1,.int .u64 10552545826968843579),(40,1,.int .u64 11727347734174303076),(41,1,.int .u64 12113106623233404929),(42,1,.int .u64 14000437183269869457),(43,1,.int .u64 14369950271660146224),(44,1,.int .u64 15101387698204529176),(45,1,.int .u64 15463397548674623760),(46,1,.int .u64 17586052441742319658),(47,1,.int .u64 1182934255886127544),(48,1,.int .u64 1847814050463011016),(49,1,.int .u64 2177327727835720531),(50,1,.int .u64 2830643537854262169),(51,1,.int .u64 3796741975233480872),(52,1,.int .u64 4115178125766777443),(53,1,.int .u64 5681478168544905931),(54,1,.int .u64 6601373596472566643),(55,1,.int .u64 7507060721942968483),(56,1,.int .u64 8399075790359081724),(57,1,.int .u64 8693463985226723168),(58,1,.int .u64 9568029438360202098),(59,1,.int .u64 10144078919501101548),(60,1,.int .u64 10430055236837252648),(61,1,.int .u64 11840083180663258601),(62,1,.int .u64 13761210420658862357),(63,1,.int .u64 14299343276471374635),(64,1,.int .u64 14566680578165727644),(65,1,.int .u64 15097957966210449927),(66,1,.int .u64 16922976911328602910),(67,1,.int .u64 17689382322260857208),(68,1,.int .u64 500013540394364858),(69,1,.int .u64 748580250866718886),(70,1,.int .u64 1242879168328830382),(71,1,.int .u64 1977374033974150939),(72,1,.int .u64 2944078676154940804),(73,1,.int .u64 3659926193048069267),(74,1,.int .u64 4368137639120453308),(75,1,.int .u64 4836135668995329356),(76,1,.int .u64 5532061633213252278),(77,1,.int .u64 6448918945643986474),(78,1,.int .u64 6902733635092675308),(79,1,.int .u64 7801388544844847127)] = some (ns .u64 Qb3):=rfl
theorem Qsf:V7 T 72 [] = some (eV Qb3):=by
 have hf:=Qnh
 have lk:=Qdg
 generalize Qb3 = K at *
 apply Vc
 apply J4
 rw [J3 (fn:=Qu6) rfl]
 simp only [Qu6,J2,quiet,cF,↓pF,reduceCtorEq,Qc,Qp,Ja,Je,J5,Jd,Zy,Q7,Zf,Q4,Zc,Zl,Zk,↓Z0,↓Zz,↓Jr,↓Ju,↓Js,↓Jt,cL,Qo,Qn,Q1,Q0,Qx,Qs,Qr,Qz,Qd,Q5,Q6,Qy,Qj,Qi,Qh,Qw,Qv,Qu,Qm,Ql,cJ,hf,Zi,Vm,Kv,Vf,Yq,Vg,K3,lk,Yt]
 rfl
theorem Rf (l:List Nat):∀ n,(Mq n l).length = l.length + n
 | 0 => rfl
 | n + 1 => by rw [Mq,Zn,Rf l n]; rfl
theorem Rg (l:List Nat) {n j:Nat} (hj:j < l.length + n):∀ m,n ≤ m → (Mq m l)[j]? = (Mq n l)[j]?
 | 0,h => by rw [show n = 0 by omega]
 | m + 1,h => by
  by_cases e:n = m + 1
  ·rw [e]
  ·rw [Mq,Qe (by rw [Rf]; omega),Rg l hj m (by omega)]
theorem Qau (b:List Nat):(Qew b).length = 16:=by simp [Qew]
theorem Mr (b:List Nat):(Ww b).length = 80:=by rw [Ww,Rf,Qau]
theorem Qey {b:List Nat} {i:Nat} (hi:i < 16):(Ww b)[i]? = some (be ((b.drop (8 * i)).take 8)):=by
 rw [Ww,Rg _ (n:=0) (by rw [Qau]; omega) 64 (by omega)]
 simp [Mq,Qew,hi]
theorem Qex {b:List Nat} {i:Nat} (hi:16 ≤ i) (hi':i < 80):(Ww b)[i]? = some (((Ww b).getD (i - 16) 0 + (Ww b).getD (i - 7) 0 + sg0 ((Ww b).getD (i - 15) 0) + sg1 ((Ww b).getD (i - 2) 0)) % 18446744073709551616):=by
 obtain ⟨n,rfl⟩:∃ n,i = 16 + n:=⟨i - 16,by omega⟩
 have hl:=Qau b
 have hn:=Rf (Qew b) n
 rw [hl] at hn
 have hg:∀ j,j < 16 + n → (Ww b).getD j 0 = (Mq n (Qew b)).getD j 0:=fun j hj => by
  rw [Jp,Jp,Ww,Rg _ (n:=n) (by rw [hl]; omega) 64 (by omega)]
 rw [hg _ (by omega),hg _ (by omega),hg _ (by omega),hg _ (by omega)]
 rw [Ww,Rg _ (n:=n + 1) (by rw [hl]; omega) 64 (by omega),Mq,Ze (by omega),hn,V8]
 simp only [Qvp,hn,Za]
theorem Qmb (l:List Nat) (x:Nat):be (l ++ [x]) = be l * 256 + x:=by simp [be]
theorem Qrs:∀ (n:Nat) (l:List Nat),l.length = n → (∀ x ∈ l,x < 256) → be l < 256 ^ n
 | 0,l,h,_ => by rw [Vk h]; decide
 | n + 1,l,h,hx => by
  obtain ⟨m,x,rfl⟩:∃ m x,l = m ++ [x]:=⟨l.dropLast,l.getLast (by intro e; rw [e] at h; cases h),(List.dropLast_concat_getLast _).symm⟩
  rw [Zn] at h
  have h1:=Qrs n m (by simpa using h) (fun y hy => hx y (List.mem_append_left _ hy))
  have h2:=hx x (by simp)
  rw [Qmb,K8]
  omega
theorem Qlh {b:List Nat} (hb:∀ x ∈ b,x < 256) {i x:Nat} (hx:(Ww b)[i]? = some x):x < 18446744073709551616:=by
 have hi:i < 80:=by have:=(Qt.1 hx).1; rwa [Mr] at this
 by_cases h:i < 16
 ·rw [Qey h] at hx
  cases hx
  have hl:((b.drop (8 * i)).take 8).length ≤ 8:=by rw [Ks]; omega
  have:=Qrs _ _ rfl (fun y hy => hb y (Yw (Vd hy)):∀ y ∈ (b.drop (8 * i)).take 8,y < 256)
  exact Xo this (Kx (n:=256) (by decide) hl)
 ·rw [Qex (by omega) hi] at hx
  cases hx
  exact Jn _ (by decide)
theorem Qga {n i j:Nat} {L:List Nat} (hj:j < i) (hi:i ≤ L.length):(pf n L i)[j]? = L[j]? := by
 unfold pf
 rw [Qe (by rw [Ks]; omega),Kt,if_pos hj]
theorem Qo6 {l:List Nat} {i x:Nat} (h:l[i]? = some x):l.set i x = l:=by
 apply Yu
 intro k
 rw [Ue]
 by_cases c:i = k
 ·rw [if_pos c,← c,h,if_pos (Qt.1 h).1]
 ·rw [if_neg c]
theorem Qj3 {n i:Nat} {L:List Nat} (hi:i < n) (hl:L.length = n):(pf n L i)[i]? = some 0:=by
 unfold pf
 rw [Ze (by rw [Ks]; omega),Ks,Vx (by omega),V8,List.getElem?_replicate,if_pos (by omega)]
theorem Qco (a b:Nat):IntKind.u64.wrap ((a:Int) + (b:Int)) = (((a + b) % 18446744073709551616:Nat):Int):=by rw [← Ga,Qly]
theorem Mg {a b:Nat} (ha:a < 18446744073709551616) (hb:b < 18446744073709551616):Vj .xor .u64 (a:Int) (b:Int) = ((a ^^^ b:Nat):Int):=Qro rfl ha hb
theorem Qjc {a b:Nat} (ha:a < 18446744073709551616) (hb:b < 18446744073709551616):Vj .and .u64 (a:Int) (b:Int) = ((a &&& b:Nat):Int):=Dv rfl ha hb
theorem Di {a b:Nat} (ha:a < 18446744073709551616) (hb:b < 18446744073709551616):a ^^^ b < 18446744073709551616:=Nat.xor_lt_two_pow (n:=64) ha hb
theorem Hf {a b:Nat} (hb:b < 18446744073709551616):a &&& b < 18446744073709551616:=Gh (n:=64) a hb
theorem Qe3 {x r:Nat} (hr:r ≤ 64):(x:Int).fdiv (2 ^ min r IntKind.u64.bits) = ((x / 2 ^ r:Nat):Int):=by
 rw [show min r IntKind.u64.bits = r from Vx hr,← Qgl,Qle]; rfl
theorem Qi1 {x r:Nat} (hx:x < 18446744073709551616):x / 2 ^ r < 18446744073709551616:=Bg (Dz _ _) hx
structure BB (H:List Ob) (id off:Nat) (b:List Nat):Prop where
 ob:∃ all:List Nat,H[id]? = some ⟨u8s all,true,true,false,1⟩ ∧ ∀ i,i < b.length → all[off + i]? = b[i]?
 lt:∀ x ∈ b,x < 256
theorem BB.app {H l:List Ob} {id off:Nat} {b:List Nat} (h:BB H id off b):BB (H ++ l) id off b:=by
 obtain ⟨⟨all,h1,h2⟩,h3⟩:=h
 exact ⟨⟨all,by rw [Qe (Qt.1 h1).1]; exact h1,h2⟩,h3⟩
def w2I (H:List Ob) (P:Value) (id off cap:Nat) (w:List Nat) (i:Int) (o8 c8:Nat) (j:Int) (ex:Env):St:=⟨[(0,P),(1,.slice (some ⟨id,off,none⟩) 128 cap),(4,.pointer (some ⟨H.length,0,none⟩)),(5,.int .i64 i),(17,.int .i64 i),(28,.slice (some ⟨id,o8,none⟩) 8 c8),(29,.int .i64 8),(30,.int .i64 j)] ++ ex,H ++ [⟨ns .u64 w,true,true,true,1⟩],[]⟩
theorem Qoi {H:List Ob} {P:Value} {id off cap c8 i:Nat} {b:List Nat} (hb:BB H id off b) (hl:b.length = 128) (hi:i < 16) :
  Xa T H.length (.block 2 (.loop Qal)) (w2I H P id off cap (pf 80 (Ww b) i) i (off + 8 * i) c8 0 []) = some (.normal,w2I H P id off cap (pf 80 (Ww b) (i + 1)) i (off + 8 * i) c8 8 [(31,.bool false)]):=by
 obtain ⟨⟨all,h1,h2⟩,h3⟩:=hb
 have hWl:=Mr b
 have h8:((b.drop (8 * i)).take 8).length = 8:=by rw [Ks,Vw]; omega
 have hz:=Qj3 (L:=Ww b) (by omega:i < 80) hWl
 have hpl:=Qj4 hWl (by omega:i ≤ 80)
 have Qqp:(pf 80 (Ww b) i).set i (be []) = pf 80 (Ww b) i:=Qo6 hz
 have hW:=Qey (b:=b) hi
 have hstep:=Qf9 hWl (by omega:i < 80) hW
 have h:=Bc (T:=T) (base:=H.length) (id:=2) (body:=Qal) (fun j => w2I H P id off cap ((pf 80 (Ww b) i).set i (be (((b.drop (8 * i)).take 8).take j))) i (off + 8 * i) c8 j []) (s':=w2I H P id off cap (pf 80 (Ww b) (i + 1)) i (off + 8 * i) c8 8 [(31,.bool false)]) 8
  (fun j hj => by
   obtain ⟨x,hx⟩:∃ x,((b.drop (8 * i)).take 8)[j]? = some x:=⟨_,Qq (by omega)⟩
   have hxb:b[8 * i + j]? = some x:=by
    rw [Kt,if_pos hj,Yc] at hx; exact hx
   have hx':=h3 x (Zt hxb)
   have hxa:(u8s all)[off + 8 * i + j]? = some (.int .u8 (x:Nat)):=Ud (by rw [show off + 8 * i + j = off + (8 * i + j) by omega,h2 _ (by omega)]; exact hxb)
   have hbel:=Qrs j (((b.drop (8 * i)).take 8).take j) (by rw [Ks]; omega) (fun y hy => h3 y (Yw (Vd (Vd hy))))
   have hbes:be (((b.drop (8 * i)).take 8).take (j + 1)) = be (((b.drop (8 * i)).take 8).take j) * 256 + x:=by rw [Y6,hx]; exact Qmb _ _
   rw [hbes]
   have h256:(256:Nat) ^ j ≤ 256 ^ 7:=Kx (by decide) (by omega)
   have e7:(256:Nat) ^ 7 = 72057594037927936:=by decide
   rw [e7] at h256
   generalize be (((b.drop (8 * i)).take 8).take j) = a at *
   have hg:((pf 80 (Ww b) i).set i a)[i]? = some a:=by rw [Km (by rw [hpl]; omega)]
   have hgc:=U8 (k := .u64) hg
   have hss:=Qdb .u64 ((pf 80 (Ww b) i).set i a) i (a * 256 + x)
   rw [Qvl] at hss
   have hln:((pf 80 (Ww b) i).set i a).length = 80:=by rw [X3]; exact hpl
   have w1:IntKind.i64.wrap ((j:Int) + 1) = ((j + 1:Nat):Int):=B3 (b:=1) (by omega)
   have w2:IntKind.u64.wrap (x:Int) = (x:Int):=Qr3 (by omega)
   have w3:IntKind.u64.wrap ((a:Int) * 2 ^ min 8 IntKind.u64.bits) = ((a * 256:Nat):Int):=Qli (b:=256) (by omega)
   have w4:Vj .or .u64 ((a * 256:Nat):Int) (x:Int) = ((a * 256 + x:Nat):Int):=by
    rw [B0 rfl (show a * 256 < 2 ^ 64 by omega) (show x < 2 ^ 64 by omega)]
    have:=Mw (a:=x) (b:=a) (n:=8) (by omega)
    rw [show (2:Nat) ^ 8 = 256 from rfl] at this
    rw [this]
   have e1:((j:Int) < 8) = True:=eq_true (by omega)
   have e2:((i:Int) < 80) = True:=eq_true (by omega)
   have e4:(i ≤ 79) = True:=eq_true (by omega)
   have hl1:liveAt (H ++ [⟨ns .u64 ((pf 80 (Ww b) i).set i a),true,true,true,1⟩]) id = some ⟨u8s all,true,true,false,1⟩:=Uv (V0 h1 rfl)
   generalize (pf 80 (Ww b) i).set i a = O1 at *
   generalize (pf 80 (Ww b) i).set i (a * 256 + x) = O2 at *
   generalize hv:a * 256 + x = v at *
   generalize a * 256 = v2 at *
   simp only [liveAt] at hl1
   generalize hoo:off + 8 * i = oo at *
   have hget:(H ++ [⟨ns .u64 O1,true,true,true,1⟩])[id]? = some ⟨u8s all,true,true,false,1⟩:=by rw [Qe (Qt.1 h1).1]; exact h1
   simp only [w2I,Qal,J2,quiet,cF,↓pF,reduceCtorEq,Qc,Qp,Ja,Je,J5,Jd,Zy,Q7,Zf,Q4,Zc,Zl,Zk,↓Z0,↓Zz,↓Jr,↓Ju,↓Js,↓Jt,cL,Qo,Qn,Q1,Q0,Qx,Qs,Qr,Qz,Qd,Q5,Q6,Qy,Qj,Qi,Qh,Qw,Qv,Qu,Qm,Ql,cJ,hget,hxa,hgc,w1,w2,w3,w4,e1,e2,e4,hss,K3,hln])
  (by
   rw [Zq (by omega),hstep]
   simp only [w2I,Qal,J2,quiet,cF,↓pF,reduceCtorEq,Qc,Qp,Ja,Je,J5,Jd,Zy,Q7,Zf,Q4,Zc,Zl,Zk,↓Z0,↓Zz,↓Jr,↓Ju,↓Js,↓Jt,cL,Qo,Qn,Q1,Q0,Qx,Qs,Qr,Qz,Qd,Q5,Q6,Qy,Qj,Qi,Qh,Qw,Qv,Qu,Qm,Ql,cJ])
 rw [Zf,Qqp] at h
 exact h
end Go.Ev.Ytgacigcbglflkaa
set_option linter.unusedSimpArgs false
set_option linter.unusedVariables false
namespace Go.Ev.Ytgacigcbglflkaa
open Go Go.Ev
attribute [local congr] Um Uw Uj Ux W1
set_option maxRecDepth 100000
theorem Gw {k:IntKind} {n y d:Nat} (h:n ≤ y):Gc (some (.int k (n:Int))) y d = some n:=by
 have e:(0:Int) ≤ (n:Int) ∧ (n:Int) ≤ (y:Int):=⟨by omega,by omega⟩
 simp only [Gc,if_pos e,Zu]
def w3I (H:List Ob) (P:Value) (id off cap:Nat) (w:List Nat) (i:Int) (ex:Env):St:=⟨[(0,P),(1,.slice (some ⟨id,off,none⟩) 128 cap),(4,.pointer (some ⟨H.length,0,none⟩)),(17,.int .i64 i)] ++ ex,H ++ [⟨ns .u64 w,true,true,true,1⟩],[]⟩
theorem Qv6 {H:List Ob} {P:Value} {id off cap i:Nat} {b:List Nat} (hb:BB H id off b) (hl:b.length = 128) (hc:128 ≤ cap) (hi:i < 16) :
  Xa T H.length H9 (w3I H P id off cap (pf 80 (Ww b) i) i []) = some (.normal,w3I H P id off cap (pf 80 (Ww b) (i + 1)) ((i + 1:Nat):Int) []):=by
 have h2:=Qoi (P:=P) (cap:=cap) (c8:=cap - 8 * i) hb hl hi
 obtain ⟨⟨all,h1,-⟩,h3⟩:=hb
 simp only [w2I,Q3,Q2,V9] at h2
 have e1:((i:Int) < 80) = True:=eq_true (by omega)
 have e2:((i:Int) < 16) = True:=eq_true (by omega)
 have w1:IntKind.i64.wrap (8 * (i:Int)) = ((8 * i:Nat):Int):=Qjl (a:=8) (by omega)
 have w2:IntKind.i64.wrap (((8 * i:Nat):Int) + 8) = ((8 * i + 8:Nat):Int):=B3 (b:=8) (by omega)
 have w3:IntKind.i64.wrap ((i:Int) + 1) = ((i + 1:Nat):Int):=B3 (b:=1) (by omega)
 have b1:Wi 128 cap (some (.int .i64 ((8 * i:Nat):Int))) (some (.int .i64 ((8 * i + 8:Nat):Int))) none = some (8 * i,8 * i + 8,cap):=by
  have n1:Gc (some (.int .i64 ((8 * i + 8:Nat):Int))) cap 128 = some (8 * i + 8):=Gw (by omega)
  have n2:Gc (some (.int .i64 ((8 * i:Nat):Int))) (8 * i + 8) 0 = some (8 * i):=Gw (by omega)
  rw [Bq,n1,Qf,n2,Qf]
 have hs:8 * i + 8 - 8 * i = 8:=by omega
 have hget:∀ l:List Ob,(H ++ l)[id]? = some ⟨u8s all,true,true,false,1⟩:=fun l => by rw [Qe (Qt.1 h1).1]; exact h1
 generalize pf 80 (Ww b) i = O1 at *
 generalize pf 80 (Ww b) (i + 1) = O2 at *
 generalize hk8:8 * i + 8 = k8 at *
 generalize hk:8 * i = k at *
 generalize i + 1 = i1 at *
 simp only [w3I,H9,J2,quiet,cF,↓pF,reduceCtorEq,Qc,Qp,Ja,Je,J5,Jd,Zy,Q7,Zf,Q4,Zc,Zl,Zk,↓Z0,↓Zz,↓Jr,↓Ju,↓Js,↓Jt,cL,Qo,Qn,Q1,Q0,Qx,Qs,Qr,Qz,Qd,Q5,Q6,Qy,Qj,Qi,Qh,Qw,Qv,Qu,Qm,Ql,cJ,e1,e2,w1,w2,w3,b1,hs,hget,h2]
theorem B8 {l:List Nat} {i x:Nat} (h:l[i]? = some x):l.getD i 0 = x:=by rw [Jp,h]; rfl
theorem Qr5 {H:List Ob} {P:Value} {id off cap i:Nat} {b:List Nat} (hb:∀ x ∈ b,x < 256) (hi:16 ≤ i) (hi':i < 80) :
  Xa T H.length H9 (w3I H P id off cap (pf 80 (Ww b) i) i []) = some (.normal,w3I H P id off cap (pf 80 (Ww b) (i + 1)) ((i + 1:Nat):Int) []):=by
 have hWl:=Mr b
 have hW:=Qex (b:=b) hi hi'
 have hstep:=Qf9 hWl hi' hW
 have hpl:=Qj4 hWl (W2 hi')
 obtain ⟨x,hx⟩:∃ x,(Ww b)[i - 15]? = some x:=⟨_,Qq (by omega)⟩
 obtain ⟨y,hy⟩:∃ x,(Ww b)[i - 2]? = some x:=⟨_,Qq (by omega)⟩
 obtain ⟨u,hu⟩:∃ x,(Ww b)[i - 16]? = some x:=⟨_,Qq (by omega)⟩
 obtain ⟨v,hv⟩:∃ x,(Ww b)[i - 7]? = some x:=⟨_,Qq (by omega)⟩
 have lx:=Qlh hb hx
 have ly:=Qlh hb hy
 have cx:=U8 (k := .u64) ((Qga (n:=80) (by omega:i - 15 < i) (by omega)).trans hx)
 have cy:=U8 (k := .u64) ((Qga (n:=80) (by omega:i - 2 < i) (by omega)).trans hy)
 have cu:=U8 (k := .u64) ((Qga (n:=80) (by omega:i - 16 < i) (by omega)).trans hu)
 have cv:=U8 (k := .u64) ((Qga (n:=80) (by omega:i - 7 < i) (by omega)).trans hv)
 rw [B8 hx,B8 hy,B8 hu,B8 hv] at hstep
 have r1:V7 T 71 [.int .u64 x,.int .i64 (-1)] = some (.int .u64 (Wt x 1:Nat)):=R4 (r:=1) lx (by decide) (by decide)
 have r8:V7 T 71 [.int .u64 x,.int .i64 (-8)] = some (.int .u64 (Wt x 8:Nat)):=R4 (r:=8) lx (by decide) (by decide)
 have r19:V7 T 71 [.int .u64 y,.int .i64 (-19)] = some (.int .u64 (Wt y 19:Nat)):=R4 (r:=19) ly (by decide) (by decide)
 have r61:V7 T 71 [.int .u64 y,.int .i64 (-61)] = some (.int .u64 (Wt y 61:Nat)):=R4 (r:=61) ly (by decide) (by decide)
 have b1:=B6 (r:=1) lx (by decide) (by decide)
 have b8:=B6 (r:=8) lx (by decide) (by decide)
 have b19:=B6 (r:=19) ly (by decide) (by decide)
 have b61:=B6 (r:=61) ly (by decide) (by decide)
 have x1:=Mg b1 b8
 have x2:Vj .xor .u64 ((Wt x 1 ^^^ Wt x 8:Nat):Int) ((x / 2 ^ 7:Nat):Int) = ((sg0 x:Nat):Int):=Mg (Di b1 b8) (Qi1 lx)
 have y1:=Mg b19 b61
 have y2:Vj .xor .u64 ((Wt y 19 ^^^ Wt y 61:Nat):Int) ((y / 2 ^ 6:Nat):Int) = ((sg1 y:Nat):Int):=Mg (Di b19 b61) (Qi1 ly)
 have s7:(x:Int).fdiv (2 ^ min 7 IntKind.u64.bits) = ((x / 2 ^ 7:Nat):Int):=Qe3 (by decide)
 have s6:(y:Int).fdiv (2 ^ min 6 IntKind.u64.bits) = ((y / 2 ^ 6:Nat):Int):=Qe3 (by decide)
 have m1:=Qco u v
 have m2:=Qco ((u + v) % 18446744073709551616) (sg0 x)
 have m3:=Qco (((u + v) % 18446744073709551616 + sg0 x) % 18446744073709551616) (sg1 y)
 have hsum:(((u + v) % 18446744073709551616 + sg0 x) % 18446744073709551616 + sg1 y) % 18446744073709551616 = (u + v + sg0 x + sg1 y) % 18446744073709551616:=by omega
 rw [hsum] at m3
 have hset:=Qdb .u64 (pf 80 (Ww b) i) i ((u + v + sg0 x + sg1 y) % 18446744073709551616)
 rw [hstep] at hset
 have e1:((i:Int) < 80) = True:=eq_true (by omega)
 have e2:((i:Int) < 16) = False:=eq_false (by omega)
 have i15:IntKind.i64.wrap ((i:Int) - 15) = ((i - 15:Nat):Int):=by rw [Ya (by omega) (by omega)]; omega
 have i2:IntKind.i64.wrap ((i:Int) - 2) = ((i - 2:Nat):Int):=by rw [Ya (by omega) (by omega)]; omega
 have i16:IntKind.i64.wrap ((i:Int) - 16) = ((i - 16:Nat):Int):=by rw [Ya (by omega) (by omega)]; omega
 have i7:IntKind.i64.wrap ((i:Int) - 7) = ((i - 7:Nat):Int):=by rw [Ya (by omega) (by omega)]; omega
 have j15:(((i - 15:Nat):Int) < 80) = True:=eq_true (by omega)
 have j2:(((i - 2:Nat):Int) < 80) = True:=eq_true (by omega)
 have j16:(((i - 16:Nat):Int) < 80) = True:=eq_true (by omega)
 have j7:(((i - 7:Nat):Int) < 80) = True:=eq_true (by omega)
 have w3:IntKind.i64.wrap ((i:Int) + 1) = ((i + 1:Nat):Int):=B3 (b:=1) (by omega)
 have e4:(i ≤ 79) = True:=eq_true (by omega)
 clear hsum hstep hW hx hy hu hv hWl
 generalize pf 80 (Ww b) i = O1 at *
 generalize pf 80 (Ww b) (i + 1) = O2 at *
 generalize (u + v + sg0 x + sg1 y) % 18446744073709551616 = z at *
 generalize ((u + v) % 18446744073709551616 + sg0 x) % 18446744073709551616 = z2 at *
 generalize (u + v) % 18446744073709551616 = z3 at *
 generalize sg0 x = gx at *
 generalize sg1 y = gy at *
 generalize Wt x 1 ^^^ Wt x 8 = xx at *
 generalize Wt y 19 ^^^ Wt y 61 = yy at *
 generalize Wt x 1 = x1v at *
 generalize Wt x 8 = x8v at *
 generalize Wt y 19 = y19v at *
 generalize Wt y 61 = y61v at *
 generalize x / 2 ^ 7 = x7v at *
 generalize y / 2 ^ 6 = y6v at *
 generalize i - 15 = k15 at *
 generalize i - 2 = k2 at *
 generalize i - 16 = k16 at *
 generalize i - 7 = k7 at *
 generalize i + 1 = i1 at *
 simp only [w3I,H9,↓Ke,J2,quiet,cF,↓pF,reduceCtorEq,Qc,Qp,Ja,Je,J5,Jd,Zy,Q7,Zf,Q4,Zc,Zl,Zk,↓Kn,↓Kd,↓K4,↓K7,↓K5,↓K6,cL,Qo,Qn,Q1,Q0,Qx,Qs,Qr,Qz,Qd,Q5,Q6,Qy,Qj,Qi,Qh,Qw,Qv,Qu,Qm,Ql,cJ,e1,e2,e4,i15,i2,i16,i7,j15,j2,j16,j7,cx,cy,cu,cv,r1,r8,r19,r61,x1,x2,y1,y2,s7,s6,m1,m2,m3,hset,w3,K3,hpl]
theorem Qoh {H:List Ob} {P:Value} {id off cap:Nat} {b:List Nat} (hb:BB H id off b) (hl:b.length = 128) (hc:128 ≤ cap) :
  Xa T H.length (.block 0 (.loop H9)) (w3I H P id off cap (Qb 80 0) 0 []) = some (.normal,w3I H P id off cap (Ww b) 80 [(18,.bool false)]):=by
 have hWl:=Mr b
 have h:=Bc (T:=T) (base:=H.length) (id:=0) (body:=H9) (fun i => w3I H P id off cap (pf 80 (Ww b) i) i []) (s':=w3I H P id off cap (Ww b) 80 [(18,.bool false)]) 80
  (fun i hi => by
   by_cases h:i < 16
   ·exact Qv6 hb hl hc h
   ·exact Qr5 hb.lt (by omega) hi)
  (by
   rw [Qlp hWl]
   simp only [w3I,H9,J2,quiet,cF,↓pF,reduceCtorEq,Qc,Qp,Ja,Je,J5,Jd,Zy,Q7,Zf,Q4,Zc,Zl,Zk,↓Z0,↓Zz,↓Jr,↓Ju,↓Js,↓Jt,cL,Qo,Qn,Q1,Q0,Qx,Qs,Qr,Qz,Qd,Q5,Q6,Qy,Qj,Qi,Qh,Qw,Qv,Qu,Qm,Ql,cJ])
 rw [Qlo] at h
 exact h
theorem eight {l:List Nat} (h:l.length = 8):∃ a b c d e f g i,l = [a,b,c,d,e,f,g,i]:=by
 match l,h with
 | [a,b,c,d,e,f,g,i],_ => exact ⟨a,b,c,d,e,f,g,i,rfl⟩
theorem Qsj (s:List Nat) (k w:Nat):(rnd s k w).length = 8:=rfl
theorem Ty {s:List Nat} (hs:s.length = 8) (w:List Nat):∀ n,(Qb0 n w s).length = 8
 | 0 => hs
 | n + 1 => rfl
theorem Qw4 {s:List Nat} (hs:s.length = 8) (hx:∀ x ∈ s,x < 18446744073709551616) (k w:Nat):∀ x ∈ rnd s k w,x < 18446744073709551616:=by
 obtain ⟨a,b,c,d,e,f,g,h,rfl⟩:=eight hs
 intro x hm
 have h1:∀ y z:Nat,(y + z) % 18446744073709551616 < 18446744073709551616:=fun _ _ => Jn _ (by decide)
 simp only [rnd,Wm,Ws,or_false] at hm
 rcases hm with rfl | rfl | rfl | rfl | rfl | rfl | rfl | rfl
 ·exact h1 _ _
 ·exact hx _ (by simp)
 ·exact hx _ (by simp)
 ·exact hx _ (by simp)
 ·exact h1 _ _
 ·exact hx _ (by simp)
 ·exact hx _ (by simp)
 ·exact hx _ (by simp)
theorem Qll {s:List Nat} (hs:s.length = 8) (hx:∀ x ∈ s,x < 18446744073709551616) (w:List Nat):∀ n,∀ x ∈ Qb0 n w s,x < 18446744073709551616
 | 0 => hx
 | n + 1 => Qw4 (Ty hs w n) (Qll hs hx w n) _ _
theorem fill8 (a b c d e f g h:Nat):fillL (Qb 8 (Value.int .u64 0)) [(0,1,.int .u64 (a:Int)),(1,1,.int .u64 (b:Int)),(2,1,.int .u64 (c:Int)),(3,1,.int .u64 (d:Int)),(4,1,.int .u64 (e:Int)),(5,1,.int .u64 (f:Int)),(6,1,.int .u64 (g:Int)),(7,1,.int .u64 (h:Int))] = some (ns .u64 [a,b,c,d,e,f,g,h]):=rfl
def w1I (H:List Ob) (P:Value) (w s:List Nat) (i:Int) (ex:Env):St:=⟨[(0,P),(4,.pointer (some ⟨H.length,0,none⟩)),(10,.pointer (some ⟨H.length + 1,0,none⟩)),(86,eV Qb3),(87,.int .i64 i)] ++ ex,H ++ [⟨ns .u64 w,true,true,true,1⟩,⟨ns .u64 s,true,true,true,1⟩],[]⟩
theorem Qr6 {H:List Ob} {P:Value} {w s:List Nat} {i:Nat} (hw:w.length = 80) (hs:s.length = 8) (hx:∀ x ∈ s,x < 18446744073709551616) (hi:i < 80) :
  Xa T H.length Ru (w1I H P w s i []) = some (.normal,w1I H P w (rnd s (Qb3.getD i 0) (w.getD i 0)) ((i + 1:Nat):Int) []):=by
 obtain ⟨a,b,c,d,e,f,g,h,rfl⟩:=eight hs
 obtain ⟨k,hk⟩:∃ k,Qb3[i]? = some k:=⟨_,Qq (by rw [Qdg]; exact hi)⟩
 obtain ⟨v,hv⟩:∃ k,w[i]? = some k:=⟨_,Qq (by omega)⟩
 rw [B8 hk,B8 hv]
 have kc:=U8 (k := .u64) hk
 have vc:=U8 (k := .u64) hv
 have la:=hx a (by simp)
 have lb:=hx b (by simp)
 have lc:=hx c (by simp)
 have le:=hx e (by simp)
 have lf:=hx f (by simp)
 have lg:=hx g (by simp)
 have r14:V7 T 71 [.int .u64 e,.int .i64 (-14)] = some (.int .u64 (Wt e 14:Nat)):=R4 (r:=14) le (by decide) (by decide)
 have r18:V7 T 71 [.int .u64 e,.int .i64 (-18)] = some (.int .u64 (Wt e 18:Nat)):=R4 (r:=18) le (by decide) (by decide)
 have r41:V7 T 71 [.int .u64 e,.int .i64 (-41)] = some (.int .u64 (Wt e 41:Nat)):=R4 (r:=41) le (by decide) (by decide)
 have r28:V7 T 71 [.int .u64 a,.int .i64 (-28)] = some (.int .u64 (Wt a 28:Nat)):=R4 (r:=28) la (by decide) (by decide)
 have r34:V7 T 71 [.int .u64 a,.int .i64 (-34)] = some (.int .u64 (Wt a 34:Nat)):=R4 (r:=34) la (by decide) (by decide)
 have r39:V7 T 71 [.int .u64 a,.int .i64 (-39)] = some (.int .u64 (Wt a 39:Nat)):=R4 (r:=39) la (by decide) (by decide)
 have b14:=B6 (r:=14) le (by decide) (by decide)
 have b18:=B6 (r:=18) le (by decide) (by decide)
 have b41:=B6 (r:=41) le (by decide) (by decide)
 have b28:=B6 (r:=28) la (by decide) (by decide)
 have b34:=B6 (r:=34) la (by decide) (by decide)
 have b39:=B6 (r:=39) la (by decide) (by decide)
 have x1:=Mg b14 b18
 have x2:Vj .xor .u64 ((Wt e 14 ^^^ Wt e 18:Nat):Int) ((Wt e 41:Nat):Int) = ((Sg1 e:Nat):Int):=Mg (Di b14 b18) b41
 have x3:=Mg b28 b34
 have x4:Vj .xor .u64 ((Wt a 28 ^^^ Wt a 34:Nat):Int) ((Wt a 39:Nat):Int) = ((Sg0 a:Nat):Int):=Mg (Di b28 b34) b39
 have a1:=Qjc le lf
 have a2:Vj .xor .u64 (if IntKind.u64.signed = true then -1 else IntKind.u64.max) (e:Int) = ((18446744073709551615 ^^^ e:Nat):Int):=Mg (a:=18446744073709551615) (by decide) le
 have lne:18446744073709551615 ^^^ e < 18446744073709551616:=Di (by decide) le
 have a3:=Qjc lne lg
 have a4:Vj .xor .u64 ((e &&& f:Nat):Int) (((18446744073709551615 ^^^ e) &&& g:Nat):Int) = ((chO e f g:Nat):Int):=Mg (Hf lf) (Hf lg)
 have a5:=Qjc la lb
 have a6:=Qjc la lc
 have a7:=Qjc lb lc
 have a8:=Mg (a:=a &&& b) (b:=a &&& c) (Hf lb) (Hf lc)
 have a9:Vj .xor .u64 (((a &&& b) ^^^ (a &&& c):Nat):Int) ((b &&& c:Nat):Int) = ((maO a b c:Nat):Int):=Mg (Di (Hf lb) (Hf lc)) (Hf lc)
 have m1:=Qco h (Sg1 e)
 have m2:=Qco ((h + Sg1 e) % 18446744073709551616) (chO e f g)
 have m3:=Qco (((h + Sg1 e) % 18446744073709551616 + chO e f g) % 18446744073709551616) k
 have m4:=Qco ((((h + Sg1 e) % 18446744073709551616 + chO e f g) % 18446744073709551616 + k) % 18446744073709551616) v
 have hT1:((((h + Sg1 e) % 18446744073709551616 + chO e f g) % 18446744073709551616 + k) % 18446744073709551616 + v) % 18446744073709551616 = t1O [a,b,c,d,e,f,g,h] k v:=by
  show _ = (h + Sg1 e + chO e f g + k + v) % 18446744073709551616
  omega
 rw [hT1] at m4
 have m5:IntKind.u64.wrap ((Sg0 a:Int) + (maO a b c:Int)) = ((t2O [a,b,c,d,e,f,g,h]:Nat):Int):=Qco (Sg0 a) (maO a b c)
 have m6:=Qco (t1O [a,b,c,d,e,f,g,h] k v) (t2O [a,b,c,d,e,f,g,h])
 have m7:=Qco d (t1O [a,b,c,d,e,f,g,h] k v)
 have hr:rnd [a,b,c,d,e,f,g,h] k v = [(t1O [a,b,c,d,e,f,g,h] k v + t2O [a,b,c,d,e,f,g,h]) % 18446744073709551616,a,b,c,(d + t1O [a,b,c,d,e,f,g,h] k v) % 18446744073709551616,e,f,g]:=rfl
 have hf:=fill8 ((t1O [a,b,c,d,e,f,g,h] k v + t2O [a,b,c,d,e,f,g,h]) % 18446744073709551616) a b c ((d + t1O [a,b,c,d,e,f,g,h] k v) % 18446744073709551616) e f g
 rw [← hr] at hf
 have lR:=Qsj [a,b,c,d,e,f,g,h] k v
 have e1:((i:Int) < 80) = True:=eq_true (by omega)
 have w3:IntKind.i64.wrap ((i:Int) + 1) = ((i + 1:Nat):Int):=B3 (b:=1) (by omega)
 have vi:Qfw none 80 1 (eV Qb3) (.int .i64 (i:Int)) = some (.int .u64 (k:Nat)):=by
  unfold eV
  rw [R9]
  simp only [e1,J2,quiet,cF,↓pF,reduceCtorEq,Qc,Qp,Ja,Je,J5,Jd,Zy,Q7,Zf,Q4,Zc,Zl,Zk,↓Z0,↓Zz,↓Jr,↓Ju,↓Js,↓Jt,cL,Qo,Qn,Q1,Q0,Qx,Qs,Qr,Qz,Qd,Q5,Q6,Qy,Qj,Qi,Qh,Qw,Qv,Qu,Qm,Ql,kc]
 have g0:(ns .u64 [a,b,c,d,e,f,g,h])[0]? = some (.int .u64 (a:Nat)):=rfl
 have g1:(ns .u64 [a,b,c,d,e,f,g,h])[1]? = some (.int .u64 (b:Nat)):=rfl
 have g2:(ns .u64 [a,b,c,d,e,f,g,h])[2]? = some (.int .u64 (c:Nat)):=rfl
 have g3:(ns .u64 [a,b,c,d,e,f,g,h])[3]? = some (.int .u64 (d:Nat)):=rfl
 have g4:(ns .u64 [a,b,c,d,e,f,g,h])[4]? = some (.int .u64 (e:Nat)):=rfl
 have g5:(ns .u64 [a,b,c,d,e,f,g,h])[5]? = some (.int .u64 (f:Nat)):=rfl
 have g6:(ns .u64 [a,b,c,d,e,f,g,h])[6]? = some (.int .u64 (g:Nat)):=rfl
 have g7:(ns .u64 [a,b,c,d,e,f,g,h])[7]? = some (.int .u64 (h:Nat)):=rfl
 have lS:(ns .u64 [a,b,c,d,e,f,g,h]).length = 8:=rfl
 clear hT1 hr hk hv kc hs hx
 generalize rnd [a,b,c,d,e,f,g,h] k v = R at *
 generalize (t1O [a,b,c,d,e,f,g,h] k v + t2O [a,b,c,d,e,f,g,h]) % 18446744073709551616 = z1 at *
 generalize (d + t1O [a,b,c,d,e,f,g,h] k v) % 18446744073709551616 = z2 at *
 generalize t1O [a,b,c,d,e,f,g,h] k v = t1 at *
 generalize t2O [a,b,c,d,e,f,g,h] = t2 at *
 generalize (((h + Sg1 e) % 18446744073709551616 + chO e f g) % 18446744073709551616 + k) % 18446744073709551616 = z3 at *
 generalize ((h + Sg1 e) % 18446744073709551616 + chO e f g) % 18446744073709551616 = z4 at *
 generalize (h + Sg1 e) % 18446744073709551616 = z5 at *
 generalize Sg1 e = se at *
 generalize Sg0 a = sa at *
 generalize chO e f g = cc at *
 generalize maO a b c = mm at *
 generalize (a &&& b) ^^^ (a &&& c) = q1 at *
 generalize (18446744073709551615 ^^^ e) &&& g = q2 at *
 generalize 18446744073709551615 ^^^ e = q3 at *
 generalize e &&& f = q4 at *
 generalize a &&& b = q5 at *
 generalize a &&& c = q6 at *
 generalize b &&& c = q7 at *
 generalize Wt e 14 ^^^ Wt e 18 = q8 at *
 generalize Wt a 28 ^^^ Wt a 34 = q9 at *
 generalize Wt e 14 = p1 at *
 generalize Wt e 18 = p2 at *
 generalize Wt e 41 = p3 at *
 generalize Wt a 28 = p4 at *
 generalize Wt a 34 = p5 at *
 generalize Wt a 39 = p6 at *
 generalize i + 1 = i1 at *
 generalize hS:ns .u64 [a,b,c,d,e,f,g,h] = S at *
 simp only [w1I,hS]
 generalize eV Qb3 = kt at *
 simp only [Ru,↓Ke,J2,quiet,cF,↓pF,reduceCtorEq,Qc,Qp,Ja,Je,J5,Jd,Zy,Q7,Zf,Q4,Zc,Zl,Zk,↓Kn,↓Kd,↓K4,↓K7,↓K5,↓K6,cL,Qo,Qn,Q1,Q0,Qx,Qs,Qr,Qz,Qd,Q5,Q6,Qy,Qj,Qi,Qh,Qw,Qv,Qu,Qm,Ql,cJ,e1,vi,vc,r14,r18,r41,r28,r34,r39,x1,x2,x3,x4,a1,a2,a3,a4,a5,a6,a7,a8,a9,m1,m2,m3,m4,m5,m6,m7,hf,w3,g0,g1,g2,g3,g4,g5,g6,g7,lS,K3,hw,lR,Vm,Zi]
theorem Qoj {H:List Ob} {P:Value} {w s:List Nat} (hw:w.length = 80) (hs:s.length = 8) (hx:∀ x ∈ s,x < 18446744073709551616) :
  Xa T H.length (.block 4 (.loop Ru)) (w1I H P w s 0 []) = some (.normal,w1I H P w (Qb0 80 w s) 80 [(88,.bool false)]):=by
 have h:=Bc (T:=T) (base:=H.length) (id:=4) (body:=Ru) (fun i => w1I H P w (Qb0 i w s) i []) (s':=w1I H P w (Qb0 80 w s) 80 [(88,.bool false)]) 80
  (fun i hi => Qr6 hw (Ty hs w i) (Qll hs hx w i) hi)
  (by
   generalize Qb0 80 w s = R
   simp only [w1I]
   generalize eV Qb3 = kt
   simp only [Ru,J2,quiet,cF,↓pF,reduceCtorEq,Qc,Qp,Ja,Je,J5,Jd,Zy,Q7,Zf,Q4,Zc,Zl,Zk,↓Z0,↓Zz,↓Jr,↓Ju,↓Js,↓Jt,cL,Qo,Qn,Q1,Q0,Qx,Qs,Qr,Qz,Qd,Q5,Q6,Qy,Qj,Qi,Qh,Qw,Qv,Qu,Qm,Ql,cJ])
 exact h
def hcl (rv:Value) (n:Nat) (st:List Nat):List Value:=rv :: .int .u64 (n:Nat) :: ns .u64 st
def hob (rv:Value) (n:Nat) (st:List Nat):Ob:=⟨hcl rv n st,true,true,true,1⟩
theorem Rl (rv:Value) (n:Nat) (st:List Nat):(hcl rv n st).length = 2 + st.length:=by simp [hcl,K3]; omega
theorem Ql1 {rv:Value} {n i x:Nat} {st:List Nat} (h:st[i]? = some x):(hcl rv n st)[2 + i]? = some (.int .u64 (x:Nat)):=by
 rw [Gt]; exact U8 h
theorem Qtu (rv:Value) (n i x:Nat) (st:List Nat):(hcl rv n st).set (2 + i) (.int .u64 (x:Nat)) = hcl rv n (st.set i x):=by
 rw [Gt]
 show rv :: .int .u64 (n:Nat) :: (ns .u64 st).set i _ = _
 rw [Qdb]; rfl
theorem Qfm {rv:Value} {n:Nat} {st:List Nat} (h:st.length = 8):Wz 8 (B1 2 (hcl rv n st)) = ns .u64 st:=by
 show Wz 8 (ns .u64 st) = _
 rw [Zq (by rw [K3]; omega)]
theorem Quk {s b:List Nat} (hs:s.length = 8):(blk s b).length = 8:=by unfold blk; rw [List.length_zipWith,Ty hs,hs]; rfl
theorem Qx9 {s b:List Nat}:∀ x ∈ blk s b,x < 18446744073709551616:=by
 intro x hx
 unfold blk at hx
 obtain ⟨i,hi⟩:=W5 hx
 rw [List.getElem?_zipWith] at hi
 split at hi
 ·cases hi; exact Jn _ (by decide)
 ·cases hi
theorem Y1 {b:Nat}:∀ {M L:List Nat} {i:Nat},i ∈ Xk b L M → i ∈ L ∨ i ∈ M
 | [],L,i,h => .inl h
 | m :: M,L,i,h => by
  simp only [Xk] at h
  split at h
  ·rcases Y1 h with h1 | h1
   ·rcases Kf.1 h1 with h2 | h2
    ·exact .inl h2
    ·exact .inr (by rw [Gi.1 h2]; exact List.mem_cons_self)
   ·exact .inr (Qb7 _ h1)
  ·rcases Y1 h with h1 | h1
   ·exact .inl h1
   ·exact .inr (Qb7 _ h1)
def w0I (H:List Ob) (hid:Nat) (rv:Value) (n:Nat) (st:List Nat) (s L:List Nat) (ob1 ob2:Ob) (i:Int) (ex:Env):St:=⟨[(0,.pointer (some ⟨hid,0,none⟩)),(174,eV s),(175,.int .i64 i)] ++ ex,H.set hid (hob rv n st) ++ [ob1,ob2],L⟩
theorem Qok {H:List Ob} {hid n:Nat} {rv:Value} {st s:List Nat} {ob1 ob2:Ob} (hh:hid < H.length) (hs:s.length = 8) (hst:st.length = 8) :
  ∃ L,Xa T H.length (.block 6 (.loop Qam)) (w0I H hid rv n st s [] ob1 ob2 0 []) = some (.normal,w0I H hid rv n (Qas (fun x y => (x + y) % 18446744073709551616) st s) s L ob1 ob2 8 [(176,.bool false)]) ∧ ∀ i ∈ L,i = hid:=by
 have hZ:(Qas (fun x y => (x + y) % 18446744073709551616) st s).length = 8:=by rw [List.length_zipWith,hs,hst]; rfl
 obtain ⟨Z,hZd⟩:∃ Z,Z = Qas (fun x y => (x + y) % 18446744073709551616) st s:=⟨_,rfl⟩
 rw [← hZd] at hZ ⊢
 obtain ⟨st',hb,L,rfl,hL⟩:=Yn (T:=T) (base:=H.length) (id:=6) (body:=Qam)
  (fun i x => ∃ L,x = w0I H hid rv n (Z.take i ++ st.drop i) s L ob1 ob2 i [] ∧ ∀ j ∈ L,j = hid)
  (Q:=fun x => ∃ L,x = w0I H hid rv n Z s L ob1 ob2 8 [(176,.bool false)] ∧ ∀ j ∈ L,j = hid)
  8 (s:=w0I H hid rv n st s [] ob1 ob2 0 []) ⟨[],rfl,by simp⟩
  (fun i x hi hx => by
   obtain ⟨L,rfl,hL⟩:=hx
   obtain ⟨u,hu⟩:∃ u,st[i]? = some u:=⟨_,Qq (by omega)⟩
   obtain ⟨v,hv⟩:∃ u,s[i]? = some u:=⟨_,Qq (by omega)⟩
   have hz:Z[i]? = some ((u + v) % 18446744073709551616):=by rw [hZd,List.getElem?_zipWith,hu,hv]
   have hlt:(Z.take i).length = i:=by rw [Ks]; omega
   have hg:(Z.take i ++ st.drop i)[i]? = some u:=by
    rw [Ze (by omega),hlt,V8,Yc]; exact hu
   have hstep:(Z.take i ++ st.drop i).set i ((u + v) % 18446744073709551616) = Z.take (i + 1) ++ st.drop (i + 1):=by
    rw [Hj _ _ (by omega),hlt,V8,B5 (i:=i),hu,Y6,hz]
    simp
   have hlen:(Z.take i ++ st.drop i).length = 8:=by rw [Zn,Vw,hlt]; omega
   have gc:=Ql1 (rv:=rv) (n:=n) hg
   have sc:=Qtu rv n i ((u + v) % 18446744073709551616) (Z.take i ++ st.drop i)
   rw [hstep] at sc
   have cl:=Rl rv n (Z.take i ++ st.drop i)
   rw [hlen] at cl
   have vc:=U8 (k := .u64) hv
   have vi:Qfw none 8 1 (eV s) (.int .i64 (i:Int)) = some (.int .u64 (v:Nat)):=by
    have e1:((i:Int) < 8) = True:=eq_true (by omega)
    unfold eV
    rw [R9]
    simp only [e1,J2,quiet,cF,↓pF,reduceCtorEq,Qc,Qp,Ja,Je,J5,Jd,Zy,Q7,Zf,Q4,Zc,Zl,Zk,↓Z0,↓Zz,↓Jr,↓Ju,↓Js,↓Jt,cL,Qo,Qn,Q1,Q0,Qx,Qs,Qr,Qz,Qd,Q5,Q6,Qy,Qj,Qi,Qh,Qw,Qv,Qu,Qm,Ql,vc]
   have m1:=Qco u v
   have e1:((i:Int) < 8) = True:=eq_true (by omega)
   have w3:IntKind.i64.wrap ((i:Int) + 1) = ((i + 1:Nat):Int):=B3 (b:=1) (by omega)
   have hget:∀ o:Ob,(H.set hid o ++ [ob1,ob2])[hid]? = some o:=fun o => by
    rw [Qe (by rw [X3]; exact hh),Km hh]
   have hset:∀ o o':Ob,(H.set hid o ++ [ob1,ob2]).set hid o' = H.set hid o' ++ [ob1,ob2]:=fun o o' => by
    rw [List.set_append_left _ _ (by rw [X3]; exact hh),Qvl]
   have e5:(2 + i + 1 ≤ 2 + 8) = True:=eq_true (by omega)
   refine ⟨w0I H hid rv n (Z.take (i + 1) ++ st.drop (i + 1)) s (Xk H.length L [hid]) ob1 ob2 ((i + 1:Nat):Int) [],?_,_,rfl,?_⟩
   ·generalize Z.take (i + 1) ++ st.drop (i + 1) = O2 at *
    generalize Z.take i ++ st.drop i = O1 at *
    generalize (u + v) % 18446744073709551616 = z at *
    simp only [w0I,hob]
    generalize hcl rv n O1 = C1 at *
    generalize hcl rv n O2 = C2 at *
    generalize eV s = sv at *
    generalize i + 1 = i1 at *
    simp only [Qam,↓Ke,J2,quiet,cF,↓pF,reduceCtorEq,Qc,Qp,Ja,Je,J5,Jd,Zy,Q7,Zf,Q4,Zc,Zl,Zk,↓Kn,↓Kd,↓K4,↓K7,↓K5,↓K6,cL,Qo,Qn,Q1,Q0,Qx,Qs,Qr,Qz,Qd,Q5,Q6,Qy,Qj,Qi,Qh,Qw,Qv,Qu,Qm,Ql,cJ,e1,vi,m1,w3,gc,sc,cl,e5,hget,hset]
    done
   ·intro j hj
    rcases Y1 hj with h | h
    ·exact hL j h
    ·simpa using h)
  (fun x hx => by
   obtain ⟨L,rfl,hL⟩:=hx
   rw [Zq (by omega),Wc (by omega),Kw]
   refine ⟨_,?_,L,rfl,hL⟩
   simp only [w0I,hob]
   generalize hcl rv n Z = C
   generalize eV s = sv
   simp only [Qam,J2,quiet,cF,↓pF,reduceCtorEq,Qc,Qp,Ja,Je,J5,Jd,Zy,Q7,Zf,Q4,Zc,Zl,Zk,↓Z0,↓Zz,↓Jr,↓Ju,↓Js,↓Jt,cL,Qo,Qn,Q1,Q0,Qx,Qs,Qr,Qz,Qd,Q5,Q6,Qy,Qj,Qi,Qh,Qw,Qv,Qu,Qm,Ql,cJ])
 exact ⟨L,hb,hL⟩
theorem Qml {α:Type} {l:List α} {i:Nat} {x:α} (h:l[i]? = some x):l.set i x = l:=by
 apply Yu
 intro k
 rw [Ue]
 by_cases c:i = k
 ·rw [if_pos c,← c,h,if_pos (Qt.1 h).1]
 ·rw [if_neg c]
def Qfu:List Nat:=Qb 80 0
theorem Qv4:Qb 80 (Value.int .u64 0) = ns .u64 Qfu:=rfl
theorem Qr1:Qfu.length = 80:=rfl
def Qoe:List Nat:=Qb 8 0
theorem z8_eq:Qb 8 (Value.int .u64 0) = ns .u64 Qoe:=rfl
theorem Qv3:Qoe.length = 8:=rfl
theorem Qrn {H:List Ob} {hid id off cap n:Nat} {rv:Value} {st b:List Nat} (hh:H[hid]? = some (hob rv n st)) (hs:st.length = 8) (hx:∀ x ∈ st,x < 18446744073709551616) (hb:BB H id off b) (hl:b.length = 128) (hc:128 ≤ cap) :
  ∃ w s M,Vl T 67 [.pointer (some ⟨hid,0,none⟩),.slice (some ⟨id,off,none⟩) 128 cap] H = some (.tuple #[],H.set hid (hob rv n (blk st b)) ++ [w,s],M) ∧ ∀ i ∈ M,i = hid:=by
 have hlt:hid < H.length:=(Qt.1 hh).1
 have h3:=Qoh (P := .pointer (some ⟨hid,0,none⟩)) (cap:=cap) hb hl hc
 have hWl:=Mr b
 have h1:=Qoj (H:=H) (P := .pointer (some ⟨hid,0,none⟩)) hWl hs hx
 have lr:=Ty hs (Ww b) 80
 obtain ⟨L,h0,hL⟩:=Qok (H:=H) (hid:=hid) (n:=n) (rv:=rv) (ob1:=⟨ns .u64 (Ww b),true,true,true,1⟩) (ob2:=⟨ns .u64 (Qb0 80 (Ww b) st),true,true,true,1⟩) hlt lr hs
 rw [show Qas (fun x y => (x + y) % 18446744073709551616) st (Qb0 80 (Ww b) st) = blk st b from rfl] at h0
 have hss:H.set hid (hob rv n st) = H:=Qml hh
 refine ⟨⟨ns .u64 (Ww b),true,true,true,1⟩,⟨ns .u64 (Qb0 80 (Ww b) st),true,true,true,1⟩,L,?_,hL⟩
 simp only [w0I,hss,Q3,Q2,V9] at h0
 have hz:=Qv4
 have lz:=Qr1
 have hz8:=z8_eq
 have lz8:=Qv3
 rw [show Qb 80 0 = Qfu from rfl] at h3
 simp only [w3I,Q3,Q2,V9] at h3
 simp only [w1I,Q3,Q2,V9] at h1
 have ht:=Qsf
 have hcs:=Qfm (rv:=rv) (n:=n) hs
 have hcl8:2 + 8 ≤ (hcl rv n st).length:=by rw [Rl]; omega
 have hget:∀ l:List Ob,(H ++ l)[hid]? = some ⟨hcl rv n st,true,true,true,1⟩:=fun l => by rw [Qe hlt]; exact hh
 have lk:=Qdg
 generalize H.set hid (hob rv n (blk st b)) = H' at *
 generalize Ww b = W at *
 generalize Qb0 80 W st = R at *
 generalize hcl rv n st = C at *
 generalize Qfu = Z at *
 generalize Qoe = Z8 at *
 generalize Qb3 = KT at *
 rw [J3 (fn:=Qu9) rfl]
 simp only [Qu9,↓Ke,J2,quiet,cF,↓pF,reduceCtorEq,Qc,Qp,Ja,Je,J5,Jd,Zy,Q7,Zf,Q4,Zc,Zl,Zk,↓Kn,↓Kd,↓K4,↓K7,↓K5,↓K6,cL,Qo,Qn,Q1,Q0,Qx,Qs,Qr,Qz,Qd,Q5,Q6,Qy,Qj,Qi,Qh,Qw,Qv,Qu,Qm,Ql,cJ,hz,hz8,h3,h1,h0,ht,hget,hcs,hcl8,Zi,Vm,Kv,Vf,Yq,Vg,K3,hWl,hs,lr,lz,lz8,lk,Yt]
 rfl
inductive Rst (K:Nat → Prop) (H:List Ob):Value → List Nat → Prop
 | nil:Rst K H (.slice none 0 0) []
 | empty {id:Nat}:¬ K id → H[id]? = some ⟨[],true,true,true,1⟩ → Rst K H (.slice (some ⟨id,0,none⟩) 0 0) []
 | own {id off:Nat} {all l:List Nat}:¬ K id → H[id]? = some ⟨u8s all,true,true,false,1⟩ → off + l.length ≤ all.length → (∀ i,i < l.length → all[off + i]? = l[i]?) → Rst K H (.slice (some ⟨id,off,none⟩) l.length l.length) l
theorem Rst.app {K:Nat → Prop} {H m:List Ob} {v:Value} {l:List Nat} (h:Rst K H v l):Rst K (H ++ m) v l:=by
 cases h with
 | nil => exact .nil
 | empty h1 h2 => exact .empty h1 (by rw [Qe (Qt.1 h2).1]; exact h2)
 | own h1 h2 h4 h3 => exact .own h1 (by rw [Qe (Qt.1 h2).1]; exact h2) h4 h3
theorem Rst.setH {K:Nat → Prop} {H:List Ob} {v:Value} {l:List Nat} {hid n:Nat} {rv:Value} {st:List Nat} (h:Rst K H v l) (hh:H[hid]? = some (hob rv n st)) (o:Ob):Rst K (H.set hid o) v l:=by
 cases h with
 | nil => exact .nil
 | empty h1 h2 => exact .empty h1 (by
   rw [Xc]
   ·exact h2
   ·intro e; subst e
    have:=congrArg Ob.cells (Dw (hh.symm.trans h2))
    simp [hob,hcl] at this)
 | own h1 h2 h4 h3 => exact .own h1 (by
   rw [Xc]
   ·exact h2
   ·intro e; subst e
    have:=congrArg Ob.exact (Dw (hh.symm.trans h2))
    simp [hob] at this) h4 h3
theorem Qhg {all l:List Nat} {off:Nat} (h:∀ i,i < l.length → all[off + i]? = l[i]?):((u8s all).drop off).take l.length = u8s l:=by
 apply Yu
 intro i
 rw [Kt]
 split
 ·rename_i hi
  rw [Yc]
  have:=h i hi
  simp only [u8s,Wj,this]
 ·rename_i hi
  rw [Xl (by rw [Ky]; omega)]
theorem Rst.append {K:Nat → Prop} {H:List Ob} {v x:Value} {l p:List Nat} (h:Rst K H v l) (hK:∀ i,K i → i < H.length) (hl:Go.Ev.lenV x = some p.length) (he:elemsOf H 1 p.length x = some (u8s p)) (hb:l.length + p.length ≤ 2 ^ 47) :
  ∃ v' H' M,Yp 1 1 H v x = some (v',H',none,M) ∧ Rst K H' v' (l ++ p) ∧ (∀ i ∈ M,¬ K i) ∧ H.length ≤ H'.length ∧ (∀ i,K i → H'[i]? = H[i]?) ∧ ∀ (i:Nat) (o:Ob),H[i]? = some o → o.exact = true → H'[i]? = some o:=by
 rcases Yb p.length with hn | hn
 ·have:p = []:=Vk hn
  subst this
  rw [Kw]
  refine ⟨v,H,[],?_,h,by simp,Q8 _,fun _ _ => rfl,fun i o h _ => h⟩
  rw [Zp] at hl he
  cases h <;> simp only [Yp,hl,he,Qf,if_true]
 ·have h1:¬ p.length = 0:=by omega
  have hnew:¬ K H.length:=fun h => absurd (hK _ h) (Jz _)
  cases h with
  | nil =>
   refine ⟨.slice (some ⟨H.length,0,none⟩) p.length p.length,H ++ [Ob.grown 1 (u8s p)],[],?_,?_,by simp,by simp,?_,?_⟩
   ·have h2:(0 + p.length) * 1 ≤ 2 ^ 47 ∧ 0 < 1 ∧ 0 < 1:=⟨by simpa using hb,by decide,by decide⟩
    simp only [Yp,hl,he,Qf,if_neg h1,h2,and_self,not_true_eq_false,if_false,if_true]
   ·rw [Q2]
    exact .own (all:=p) hnew (by simp [Ob.grown]) (by omega) (fun i _ => by rw [Zh])
   ·intro i hi; rw [Qe (hK i hi)]
   ·intro i o ho _; rw [Qe (Qt.1 ho).1]; exact ho
  | @empty id0 k1 k2 =>
   refine ⟨.slice (some ⟨H.length,0,none⟩) (0 + p.length) (0 + p.length),H ++ [Ob.grown 1 ([] ++ u8s p)],[],?_,?_,by simp,by simp,?_,?_⟩
   ·have h2:(0 + p.length) * 1 ≤ 2 ^ 47 ∧ 0 < 1 ∧ 0 < 1:=⟨by simpa using hb,by decide,by decide⟩
    have h4:liveAt H id0 = some ⟨[],true,true,true,1⟩:=V0 k2 rfl
    have h7:¬ (0 + p.length ≤ 0):=by omega
    have h8:elemsOf H 1 0 (.slice (some ⟨id0,0,none⟩) 0 0) = some []:=by simp [elemsOf,h4]
    simp only [Yp,hl,he,Qf,if_neg h1,h2,and_self,not_true_eq_false,if_false,if_true,h4,h8,if_neg h7]
   ·rw [Q2,Q2,Zh]
    exact .own (all:=p) hnew (by simp [Ob.grown]) (by omega) (fun i _ => by rw [Zh])
   ·intro i hi; rw [Qe (hK i hi)]
   ·intro i o ho _; rw [Qe (Qt.1 ho).1]; exact ho
  | @own id0 off all _ k1 k2 k4 k3 =>
   have hid:id0 < H.length:=(Qt.1 k2).1
   refine ⟨.slice (some ⟨H.length,0,none⟩) (l.length + p.length) (l.length + p.length),(H.set id0 Ob.dead) ++ [Ob.grown 1 (u8s l ++ u8s p)],[id0],?_,?_,by simpa using k1,by simp,?_,?_⟩
   ·have h2:(l.length + p.length) * 1 ≤ 2 ^ 47 ∧ 0 < 1 ∧ 0 < 1:=⟨by omega,by decide,by decide⟩
    have h4:liveAt H id0 = some ⟨u8s all,true,true,false,1⟩:=V0 k2 rfl
    have h7:¬ (l.length + p.length ≤ l.length):=by omega
    have h8:elemsOf H 1 l.length (.slice (some ⟨id0,off,none⟩) l.length l.length) = some (u8s l):=by
     have:=Qhg k3
     simp only [elemsOf,h4,Qf,Xb]
     rw [this]
     simp [Ky,k4]
    simp only [Yp,hl,he,Qf,if_neg h1,h2,and_self,not_true_eq_false,if_false,if_true,h4,h8,if_neg h7,Zd,Q8]
   ·have:=Rst.own (K:=K) (H:=(H.set id0 Ob.dead) ++ [Ob.grown 1 (u8s l ++ u8s p)]) (id:=H.length) (off:=0) (all:=l ++ p) (l:=l ++ p) hnew (by simp [Ob.grown,u8s]) (by omega) (fun i _ => by rw [Zh])
    rwa [Zn] at this
   ·intro i hi
    rw [Qe (by rw [X3]; exact hK i hi),Xc (fun e => k1 (by rw [e]; exact hi))]
   ·intro i o ho hex
    rw [Qe (by rw [X3]; exact (Qt.1 ho).1),Xc]
    ·exact ho
    ·intro e; subst e; rw [k2] at ho; cases ho; cases hex
theorem Qcb (b:List Nat):∀ n,(stK n b).length = 8
 | 0 => rfl
 | n + 1 => Quk (Qcb b n)
theorem Qpe:∀ x ∈ R3,x < 18446744073709551616:=by decide
theorem Qo0 (b:List Nat):∀ n,∀ x ∈ stK n b,x < 18446744073709551616
 | 0 => Qpe
 | n + 1 => Qx9
theorem Qlk (a b:List Nat):∀ q,128 * q ≤ a.length → stK q (a ++ b) = stK q a
 | 0,_ => rfl
 | q + 1,h => by
  rw [stK,stK,Qlk a b q (by omega),Wk (by omega),Yv (by rw [Vw]; omega)]
def Hsh (K:Nat → Prop) (H:List Ob) (hid:Nat) (all:List Nat):Prop:=∃ rv,H[hid]? = some (hob rv all.length (stK (all.length / 128) all)) ∧ Rst K H rv (all.drop (128 * (all.length / 128)))
def fdF (hid:Nat):Value := .func (.func 67) [Value.pointer (some ⟨hid,0,none⟩)].toArray [].toArray
def fdI (hid:Nat) (H:List Ob) (L:List Nat) (ex:Env):St:=⟨[(0,.pointer (some ⟨hid,0,none⟩)),(1,.int .i64 128),(3,fdF hid)] ++ ex,H,L⟩
theorem Qt7 {K:Nat → Prop} {H:List Ob} {hid b0 n:Nat} {rv:Value} {st rest L:List Nat} {ex:Env} (hK:∀ i,K i → i < H.length) (hKh:¬ K hid) (hh:H[hid]? = some (hob rv n st)) (hs:st.length = 8) (hx:∀ x ∈ st,x < 18446744073709551616) (hr:Rst K H rv rest) (h128:128 ≤ rest.length) (xr:∀ x ∈ rest,x < 256) (hL:∀ i ∈ L,¬ K i) (hmx:rest.length < 2 ^ 60) :
  ∃ rv' H' L' ex',Xa T b0 Qan (fdI hid H L ex) = some (.normal,fdI hid H' L' ex') ∧ H'[hid]? = some (hob rv' n (blk st (rest.take 128))) ∧ Rst K H' rv' (rest.drop 128) ∧ (∀ i,K i → H'[i]? = H[i]?) ∧ H.length ≤ H'.length ∧ ∀ i ∈ L',¬ K i:=by
 have hlt:hid < H.length:=(Qt.1 hh).1
 cases hr with
 | nil => exact absurd h128 (by decide)
 | empty _ _ => exact absurd h128 (by decide)
 | @own id off all _ k1 k2 k4 k3 =>
  have hidne:id ≠ hid:=fun e => by
   subst e
   have:=congrArg Ob.exact (Dw (hh.symm.trans k2))
   simp [hob] at this
  have hBB:BB H id off (rest.take 128):=⟨⟨all,k2,fun i hi => by
   rw [Ks] at hi
   rw [k3 i (by omega),Kt,if_pos (by omega)]⟩,fun x hx => xr x (Vd hx)⟩
  have hl:(rest.take 128).length = 128:=by rw [Ks]; omega
  obtain ⟨w,s,M,hb,hM⟩:=Qrn (cap:=rest.length) hh hs hx hBB hl h128
  have c0:∀ s',(hcl (.slice (some ⟨id,off,none⟩) rest.length rest.length) n s')[0]? = some (.slice (some ⟨id,off,none⟩) rest.length rest.length):=fun _ => rfl
  have cs:∀ s' v,(hcl (.slice (some ⟨id,off,none⟩) rest.length rest.length) n s').set 0 v = hcl v n s':=fun _ _ => rfl
  have cl:∀ v s',(1 ≤ (hcl v n s').length) = True:=fun v s' => eq_true (by rw [Rl]; omega)
  have b1:Wi rest.length rest.length none (some (.int .i64 128)) none = some (0,128,rest.length):=by
   have n1:Gc (some (.int .i64 128)) rest.length rest.length = some 128:=Gw (n:=128) h128
   rw [Bq,n1,Qf]; rfl
  have b2:Wi rest.length rest.length (some (.int .i64 128)) none none = some (128,rest.length,rest.length):=by
   have n1:Gc (some (.int .i64 128)) rest.length 0 = some 128:=Gw (n:=128) h128
   rw [Bq,Tj,Qf,n1,Qf]
  have e1:((128:Int) ≤ (rest.length:Int)) = True:=eq_true (by omega)
  have g0:H[hid]? = some ⟨hcl (.slice (some ⟨id,off,none⟩) rest.length rest.length) n st,true,true,true,1⟩:=hh
  have g1:∀ o:Ob,(H.set hid o ++ [w,s])[hid]? = some o:=fun o => by
   rw [Qe (by rw [X3]; exact hlt),Km hlt]
  have g2:∀ o:Ob,(H.set hid o ++ [w,s])[id]? = some ⟨u8s all,true,true,false,1⟩:=fun o => by
   rw [Qe (by rw [X3]; exact (Qt.1 k2).1),Xc (Ne.symm hidne)]; exact k2
  have g3:∀ o o':Ob,(H.set hid o ++ [w,s]).set hid o' = H.set hid o' ++ [w,s]:=fun o o' => by
   rw [List.set_append_left _ _ (by rw [X3]; exact hlt),Qvl]
  refine ⟨.slice (some ⟨id,off + 128,none⟩) (rest.length - 128) (rest.length - 128),H.set hid (hob (.slice (some ⟨id,off + 128,none⟩) (rest.length - 128) (rest.length - 128)) n (blk st (rest.take 128))) ++ [w,s],Xk b0 (Xk b0 L M) [hid],[],?_,g1 _,?_,?_,?_,?_⟩
  ·simp only [hob] at hb ⊢
   generalize blk st (rest.take 128) = st' at *
   simp only [fdI,fdF,Qan,↓Ke,J2,quiet,cF,↓pF,reduceCtorEq,Qc,Qp,Ja,Je,J5,Jd,Zy,Q7,Zf,Q4,Zc,Zl,Zk,↓Kn,↓Kd,↓K4,↓K7,↓K5,↓K6,cL,Qo,Qn,Q1,Q0,Qx,Qs,Qr,Qz,Qd,Q5,Q6,Qy,Qj,Qi,Qh,Qw,Qv,Qu,Qm,Ql,cJ,e1,b1,b2,hb,c0,cs,cl,g0,k2,g1,g2,g3]
  ·have:=Rst.own (K:=K) (H:=H.set hid (hob (.slice (some ⟨id,off + 128,none⟩) (rest.length - 128) (rest.length - 128)) n (blk st (rest.take 128))) ++ [w,s]) (id:=id) (off:=off + 128) (all:=all) (l:=rest.drop 128) k1 (g2 _) (by rw [Vw]; omega) (fun i hi => by
    rw [Vw] at hi
    rw [Yc,← k3 _ (by omega),Kk])
   rwa [Vw] at this
  ·intro i hi
   rw [Qe (by rw [X3]; exact hK i hi),Xc (fun e => hKh (by rw [e]; exact hi))]
  ·simp
  ·intro i hi
   rcases Y1 hi with h | h
   ·rcases Y1 h with h | h
    ·exact hL i h
    ·rw [hM i h]; exact hKh
   ·rw [Gi.1 h]; exact hKh
theorem Rst.shape {K:Nat → Prop} {H:List Ob} {v:Value} {l:List Nat} (h:Rst K H v l):∃ (a:Option Addr) (c:Nat),v = .slice a l.length c:=by
 cases h with
 | nil => exact ⟨_,_,rfl⟩
 | empty _ _ => exact ⟨_,_,rfl⟩
 | own _ _ _ _ => exact ⟨_,_,rfl⟩
theorem Qt6 {K:Nat → Prop} {H:List Ob} {hid:Nat} {x:Value} {all p:List Nat} (hK:∀ i,K i → i < H.length) (hKh:¬ K hid) (hh:Hsh K H hid all) (xa:∀ y ∈ all,y < 256) (xp:∀ y ∈ p,y < 256)
  (hl:∃ (a:Option Addr) (c:Nat),x = .slice a p.length c) (he:∀ o,elemsOf (H.set hid o) 1 p.length x = some (u8s p)) (hb:all.length + p.length < 2 ^ 50) (hb2:p.length ≤ 2 ^ 47 - 128) :
  ∃ H' M,Vl T 66 [.pointer (some ⟨hid,0,none⟩),.int .i64 128,x,fdF hid] H = some (.tuple #[],H',M) ∧ Hsh K H' hid (all ++ p) ∧ (∀ i,K i → H'[i]? = H[i]?) ∧ H.length ≤ H'.length ∧ ∀ i ∈ M,¬ K i:=by
 obtain ⟨rv,h1,h2⟩:=hh
 have hlt:hid < H.length:=(Qt.1 h1).1
 obtain ⟨q0,hq0⟩:∃ q,q = all.length / 128:=⟨_,rfl⟩
 rw [← hq0] at h1 h2
 have hq1:128 * q0 ≤ all.length:=by rw [hq0]; omega
 have hst:stK q0 all = stK q0 (all ++ p):=(Qlk all p q0 hq1).symm
 have hN:(all ++ p).length = all.length + p.length:=Zn
 rw [hst] at h1
 obtain ⟨st0,hst0⟩:∃ s,s = stK q0 (all ++ p):=⟨_,rfl⟩
 rw [← hst0] at h1
 have hrest:all.drop (128 * q0) ++ p = (all ++ p).drop (128 * q0):=(Wk hq1).symm
 have hrl:(all.drop (128 * q0)).length ≤ 127:=by rw [Vw,hq0]; omega
 have hr1:Rst K (H.set hid (hob rv (all.length + p.length) st0)) rv (all.drop (128 * q0)):=h2.setH h1 _
 have hK1:∀ i,K i → i < (H.set hid (hob rv (all.length + p.length) st0)).length:=fun i hi => by rw [X3]; exact hK i hi
 have hlen:Go.Ev.lenV x = some p.length:=by obtain ⟨a,c,rfl⟩:=hl; rfl
 obtain ⟨rv',H2,M2,ha,a1,a2,a3,a4,a5⟩:=hr1.append hK1 hlen (he _) (by omega)
 have hg1:(H.set hid (hob rv (all.length + p.length) st0))[hid]? = some (hob rv (all.length + p.length) st0):=Km hlt
 have hg2:=a5 hid _ hg1 rfl
 rw [X3] at a3
 have hlt2:hid < H2.length:=by omega
 have hr3:Rst K (H2.set hid (hob rv' (all.length + p.length) st0)) rv' ((all ++ p).drop (128 * q0)):=by
  rw [hrest] at a1
  exact a1.setH hg2 _
 have hg3:(H2.set hid (hob rv' (all.length + p.length) st0))[hid]? = some (hob rv' (all.length + p.length) st0):=Km hlt2
 obtain ⟨H3,hH3⟩:∃ X,X = H2.set hid (hob rv' (all.length + p.length) st0):=⟨_,rfl⟩
 have hf3:∀ i,K i → H3[i]? = H[i]? := fun i hi => by
  have hne:hid ≠ i:=fun e => hKh (by rw [e]; exact hi)
  rw [hH3,Xc hne,a4 i hi,Xc hne]
 have hl3:H.length ≤ H3.length:=by rw [hH3,X3]; exact a3
 obtain ⟨L3,hL3⟩:∃ L,L = Xk H.length (Xk H.length (Xk H.length [] [hid]) M2) [hid]:=⟨_,rfl⟩
 have hL3':∀ i ∈ L3,¬ K i:=fun i hi => by
  rw [hL3] at hi
  rcases Y1 hi with h | h
  ·rcases Y1 h with h | h
   ·rcases Y1 h with h | h
    ·simp at h
    ·rw [Gi.1 h]; exact hKh
   ·exact a2 i h
  ·rw [Gi.1 h]; exact hKh
 rw [← hH3] at hr3 hg3
 obtain ⟨st,hloop,H',L',ex',rvf,rfl,f1,f2,f3,f4,f5⟩:=Yn (T:=T) (base:=H.length) (id:=0) (body:=Qan)
  (fun k st => ∃ H' L' ex' rvk,st = fdI hid H' L' ex' ∧ H'[hid]? = some (hob rvk (all.length + p.length) (stK (q0 + k) (all ++ p))) ∧ Rst K H' rvk ((all ++ p).drop (128 * (q0 + k))) ∧ (∀ i,K i → H'[i]? = H[i]?) ∧ H.length ≤ H'.length ∧ ∀ i ∈ L',¬ K i)
  (Q:=fun st => ∃ H' L' ex' rvk,st = fdI hid H' L' ex' ∧ H'[hid]? = some (hob rvk (all.length + p.length) (stK ((all ++ p).length / 128) (all ++ p))) ∧ Rst K H' rvk ((all ++ p).drop (128 * ((all ++ p).length / 128))) ∧ (∀ i,K i → H'[i]? = H[i]?) ∧ H.length ≤ H'.length ∧ ∀ i ∈ L',¬ K i)
  ((all ++ p).length / 128 - q0) (s:=fdI hid H3 L3 []) ⟨H3,L3,[],rv',rfl,by rw [Z1,← hst0]; exact hg3,by rw [Z1]; exact hr3,hf3,hl3,hL3'⟩
  (fun k st hk hs => by
   obtain ⟨Hk,Lk,exk,rvk,rfl,k1,k2,k3,k4,k5⟩:=hs
   obtain ⟨rv2,Hk2,L2,ex2,j1,j2,j3,j4,j5,j6⟩:=Qt7 (b0:=H.length) (ex:=exk) (fun i hi => Xo (hK i hi) k4) hKh k1 (Qcb _ _) (Qo0 _ _) k2 (by rw [Vw]; omega) (fun y hy => by
    rcases Kf.1 (Yw hy) with h | h
    ·exact xa y h
    ·exact xp y h) k5 (by rw [Vw]; omega)
   refine ⟨_,j1,Hk2,L2,ex2,rv2,rfl,j2,?_,fun i hi => (j4 i hi).trans (k3 i hi),Un k4 j5,j6⟩
   rw [Mn] at j3
   rw [show 128 * (q0 + (k + 1)) = 128 * (q0 + k) + 128 by omega]
   exact j3)
  (fun st hs => by
   obtain ⟨Hk,Lk,exk,rvk,rfl,k1,k2,k3,k4,k5⟩:=hs
   have hqq:q0 + ((all ++ p).length / 128 - q0) = (all ++ p).length / 128:=by
    have:q0 ≤ (all ++ p).length / 128:=by rw [hq0,hN]; omega
    omega
   rw [hqq] at k1 k2
   have hrl2:((all ++ p).drop (128 * ((all ++ p).length / 128))).length < 128:=by rw [Vw]; omega
   obtain ⟨v,c,hv⟩:=k2.shape
   refine ⟨_,?_,Hk,Lk,[(33,.bool false)],rvk,rfl,k1,k2,k3,k4,k5⟩
   subst hv
   have c0:∀ v' s',(hcl v' (all.length + p.length) s')[0]? = some v':=fun _ _ => rfl
   have e1:((128:Int) ≤ (((all ++ p).drop (128 * ((all ++ p).length / 128))).length:Int)) = False:=eq_false (by omega)
   simp only [hob] at k1
   generalize ((all ++ p).drop (128 * ((all ++ p).length / 128))).length = rl at *
   generalize stK ((all ++ p).length / 128) (all ++ p) = sk at *
   simp only [fdI,fdF,Qan,↓Ke,J2,quiet,cF,↓pF,reduceCtorEq,Qc,Qp,Ja,Je,J5,Jd,Zy,Q7,Zf,Q4,Zc,Zl,Zk,↓Kn,↓Kd,↓K4,↓K7,↓K5,↓K6,cL,Qo,Qn,Q1,Q0,Qx,Qs,Qr,Qz,Qd,Q5,Q6,Qy,Qj,Qi,Qh,Qw,Qv,Qu,Qm,Ql,cJ,e1,k1,c0])
 refine ⟨H',L',?_,⟨rvf,by rw [hN] at f1 ⊢; exact f1,f2⟩,f3,f4,f5⟩
 obtain ⟨c1,c2,rfl⟩:=hl
 simp only [fdI,Q3,Q2,hL3] at hloop
 simp only [hob] at h1 ha hg2 hH3
 have w1:IntKind.u64.wrap (p.length:Int) = (p.length:Int):=Qr3 (by omega)
 have w2:IntKind.u64.wrap ((all.length:Int) + (p.length:Int)) = ((all.length + p.length:Nat):Int):=Qr4 (by omega)
 have c0:∀ v' n' s',(hcl v' n' s')[0]? = some v':=fun _ _ _ => rfl
 have c1':∀ v' (n':Nat) s',(hcl v' n' s')[1]? = some (.int .u64 n'):=fun _ _ _ => rfl
 have s0:∀ v' n' s' v,(hcl v' n' s').set 0 v = hcl v n' s':=fun _ _ _ _ => rfl
 have s1:∀ v' n' s' (m:Nat),(hcl v' n' s').set 1 (.int .u64 (m:Int)) = hcl v' m s':=fun _ _ _ _ => rfl
 have cl:∀ v n' s',(1 ≤ (hcl v n' s').length) = True:=fun v n' s' => eq_true (by rw [Rl]; omega)
 have cl2:∀ v n' s',(2 ≤ (hcl v n' s').length) = True:=fun v n' s' => eq_true (by rw [Rl]; omega)
 have hgs:∀ o:Ob,(H.set hid o)[hid]? = some o:=fun o => Km hlt
 obtain ⟨vr,cr,hvr⟩:=a1.shape
 have hok:Vu rv' = true:=by rw [hvr]; rfl
 have hc1:rv'.cells.toList = [rv']:=by rw [hvr]; rfl
 have hc2:rv'.cells.size = 1:=by rw [hvr]; rfl
 clear hvr
 generalize all.length + p.length = NN at *
 rw [J3 (fn:=Qva) rfl]
 simp only [Qva,↓Ke,J2,quiet,cF,↓pF,reduceCtorEq,Qc,Qp,Ja,Je,J5,Jd,Zy,Q7,Zf,Q4,Zc,Zl,Zk,↓Kn,↓Kd,↓K4,↓K7,↓K5,↓K6,cL,Qo,Qn,Q1,Q0,Qx,Qs,Qr,Qz,Qd,Q5,Q6,Qy,Qj,Qi,Qh,Qw,Qv,Qu,Qm,Ql,cJ,fdF,h1,c0,c1',s0,s1,cl,cl2,w1,w2,hgs,ha,hg2,← hH3,hok,hc1,hc2]
 simp only [fdF] at hloop
 simp only [hloop,J2,quiet,cF,↓pF,reduceCtorEq,Qc,Qp,Ja,Je,J5,Jd,Zy,Q7,Zf,Q4,Zc,Zl,Zk,↓Kn,↓Kd,↓K4,↓K7,↓K5,↓K6,cL,Qo,Qn,Q1,Q0,Qx,Qs,Qr,Qz,Qd,Q5,Q6,Qy,Qj,Qi,Qh,Qw,Qv,Qu,Qm,Ql]
 rfl
structure HPart (K:Nat → Prop) (H:List Ob) (x:Value) (p:List Nat):Prop where
 shape:∃ (a:Option Addr) (c:Nat),x = .slice a p.length c
 reads:∀ G:List Ob,(∀ i,K i → G[i]? = H[i]?) → elemsOf G 1 p.length x = some (u8s p)
 lt:∀ y ∈ p,y < 256
 le:p.length ≤ 2 ^ 47 - 128
theorem HPart.of {K:Nat → Prop} {H G:List Ob} {x:Value} {p:List Nat} (h:HPart K H x p) (hg:∀ i,K i → G[i]? = H[i]?):HPart K G x p :=
 ⟨h.shape,fun G' hG' => h.reads G' fun i hi => (hG' i hi).trans (hg i hi),h.lt,h.le⟩
inductive HParts (K:Nat → Prop) (H:List Ob):List Value → List (List Nat) → Prop
 | nil:HParts K H [] []
 | cons {x:Value} {p:List Nat} {xs:List Value} {ps:List (List Nat)}:HPart K H x p → HParts K H xs ps → HParts K H (x :: xs) (p :: ps)
theorem HParts.get {K:Nat → Prop} {H:List Ob}:∀ {xs:List Value} {ps:List (List Nat)},HParts K H xs ps → ∀ {i:Nat} {x:Value},xs[i]? = some x → ∃ p,ps[i]? = some p ∧ HPart K H x p
 | _,_,.nil,i,x,h => by simp at h
 | _,_,.cons a b,0,x,h => by simp at h; subst h; exact ⟨_,rfl,a⟩
 | _,_,.cons a b,i + 1,x,h => by
  obtain ⟨p,h1,h2⟩:=b.get (i:=i) (by simpa using h)
  exact ⟨p,by simpa using h1,h2⟩
theorem HParts.len {K:Nat → Prop} {H:List Ob}:∀ {xs:List Value} {ps:List (List Nat)},HParts K H xs ps → ps.length = xs.length
 | _,_,.nil => rfl
 | _,_,.cons _ b => by simp [b.len]
theorem HParts.lt {K:Nat → Prop} {H:List Ob}:∀ {xs:List Value} {ps:List (List Nat)},HParts K H xs ps → ∀ y ∈ ps.flatten,y < 256
 | _,_,.nil => by simp
 | _,_,.cons a b => by
  intro y hy
  rw [Ki] at hy
  rcases Kf.1 hy with h | h
  ·exact a.lt y h
  ·exact b.lt y h
def PV (K:Nat → Prop) (H:List Ob) (pv:Value) (xs:List Value):Prop:=(pv = .slice none 0 0 ∧ xs = []) ∨ ∃ pid off cap o,pv = .slice (some ⟨pid,off,none⟩) xs.length cap ∧ K pid ∧ H[pid]? = some o ∧ o.live = true ∧ ∀ i,i < xs.length → o.cells[off + i]? = xs[i]?
def wrI (hid:Nat) (pv:Value) (n:Nat) (i:Int) (H:List Ob) (L:List Nat) (ex:Env):St:=⟨[(0,.pointer (some ⟨hid,0,none⟩)),(6,pv),(7,.int .i64 n),(8,.int .i64 i)] ++ ex,H,L⟩
theorem Qr2 {K:Nat → Prop} {H H0:List Ob} {hid b0 i:Nat} {pv:Value} {xs:List Value} {ps:List (List Nat)} {all L:List Nat} (hK:∀ i,K i → i < H.length) (hKh:¬ K hid) (hh:Hsh K H hid all) (xa:∀ y ∈ all,y < 256) (hp:PV K H0 pv xs) (hP:HParts K H0 xs ps) (hF:∀ i,K i → H[i]? = H0[i]?) (hL:∀ i ∈ L,¬ K i) (hi:i < xs.length) (hn:xs.length < 2 ^ 50) (hb:all.length + (ps.getD i []).length < 2 ^ 50) :
  ∃ H' L',Xa T b0 Qap (wrI hid pv xs.length i H L []) = some (.normal,wrI hid pv xs.length ((i + 1:Nat):Int) H' L' []) ∧ Hsh K H' hid (all ++ ps.getD i []) ∧ (∀ i,K i → H'[i]? = H[i]?) ∧ H.length ≤ H'.length ∧ ∀ i ∈ L',¬ K i:=by
 obtain ⟨x,hx⟩:∃ x,xs[i]? = some x:=⟨_,Qq hi⟩
 obtain ⟨p,hpi,hpp⟩:=hP.get hx
 have hgd:ps.getD i [] = p:=by rw [Jp,hpi]; rfl
 rw [hgd] at hb ⊢
 obtain ⟨H',M,hf,f1,f2,f3,f4⟩:=Qt6 hK hKh hh xa hpp.lt hpp.shape (fun o => hpp.reads _ (fun j hj => by
  rw [Xc (fun e => hKh (by rw [e]; exact hj))]; exact hF j hj)) hb hpp.le
 rcases hp with ⟨-,h0⟩ | ⟨pid,off,cap,o,rfl,kp,ho,hlv,hc⟩
 ·rw [h0] at hi; exact absurd hi (Z9 _)
 ·have ho':H[pid]? = some o:=(hF pid kp).trans ho
  have hcx:o.cells[off + i]? = some x:=(hc i hi).trans hx
  have e1:((i:Int) < (xs.length:Int)) = True:=eq_true (by omega)
  have w3:IntKind.i64.wrap ((i:Int) + 1) = ((i + 1:Nat):Int):=B3 (b:=1) (by omega)
  refine ⟨H',Xk b0 L M,?_,f1,f2,f3,fun j hj => ?_⟩
  ·simp only [fdF] at hf
   generalize i + 1 = i1 at *
   simp only [wrI,Qap,↓Ke,J2,quiet,cF,↓pF,reduceCtorEq,Qc,Qp,Ja,Je,J5,Jd,Zy,Q7,Zf,Q4,Zc,Zl,Zk,↓Kn,↓Kd,↓K4,↓K7,↓K5,↓K6,cL,Qo,Qn,Q1,Q0,Qx,Qs,Qr,Qz,Qd,Q5,Q6,Qy,Qj,Qi,Qh,Qw,Qv,Qu,Qm,Ql,cJ,e1,ho',hlv,hcx,w3,hf]
  ·rcases Y1 hj with h | h
   ·exact hL j h
   ·exact f4 j h
theorem Qg6 {K:Nat → Prop} {H:List Ob} {hid:Nat} {pv:Value} {xs:List Value} {ps:List (List Nat)} {all:List Nat} (hK:∀ i,K i → i < H.length) (hKh:¬ K hid) (hh:Hsh K H hid all) (xa:∀ y ∈ all,y < 256) (hp:PV K H pv xs) (hP:HParts K H xs ps) (hn:xs.length < 2 ^ 50) (hb:(all ++ ps.flatten).length < 2 ^ 50) :
  ∃ H' M,Vl T 53 [.pointer (some ⟨hid,0,none⟩),pv] H = some (.tuple #[],H',M) ∧ Hsh K H' hid (all ++ ps.flatten) ∧ (∀ i,K i → H'[i]? = H[i]?) ∧ H.length ≤ H'.length ∧ ∀ i ∈ M,¬ K i:=by
 obtain ⟨st,hl,H',L',rfl,f1,f2,f3,f4⟩:=Yn (T:=T) (base:=H.length) (id:=0) (body:=Qap)
  (fun i st => ∃ H' L',st = wrI hid pv xs.length (i:Nat) H' L' [] ∧ Hsh K H' hid (all ++ (ps.take i).flatten) ∧ (∀ i,K i → H'[i]? = H[i]?) ∧ H.length ≤ H'.length ∧ ∀ i ∈ L',¬ K i)
  (Q:=fun st => ∃ H' L',st = wrI hid pv xs.length (xs.length:Nat) H' L' [(9,.bool false)] ∧ Hsh K H' hid (all ++ ps.flatten) ∧ (∀ i,K i → H'[i]? = H[i]?) ∧ H.length ≤ H'.length ∧ ∀ i ∈ L',¬ K i)
  xs.length (s:=wrI hid pv xs.length 0 H [] []) ⟨H,[],rfl,by simpa using hh,fun _ _ => rfl,Q8 _,by simp⟩
  (fun i st hi hs => by
   obtain ⟨H1,L1,rfl,g1,g2,g3,g4⟩:=hs
   have hpl:=hP.len
   have hsp:ps.flatten = (ps.take i).flatten ++ ((ps.getD i []) ++ (ps.drop (i + 1)).flatten):=by
    obtain ⟨p,hpi⟩:∃ p,ps[i]? = some p:=⟨_,Qq (by omega)⟩
    have hgd:ps.getD i [] = p:=by rw [Jp,hpi]; rfl
    rw [hgd,← Ki,← V2]
    congr 1
    have h1:=Qt.1 hpi
    conv => lhs; rw [← Wl i ps,Us h1.1,h1.2]
   have htk:(ps.take (i + 1)).flatten = (ps.take i).flatten ++ ps.getD i []:=by
    obtain ⟨p,hpi⟩:∃ p,ps[i]? = some p:=⟨_,Qq (by omega)⟩
    have hgd:ps.getD i [] = p:=by rw [Jp,hpi]; rfl
    rw [hgd,Y6,hpi,V2]; simp
   have hlt:=hP.lt
   obtain ⟨H2,L2,j1,j2,j3,j4,j5⟩:=Qr2 (b0:=H.length) (fun j hj => Xo (hK j hj) g3) hKh g1 (fun y hy => by
    rcases Kf.1 hy with h | h
    ·exact xa y h
    ·exact hlt y (by rw [hsp]; exact List.mem_append_left _ h)) hp hP g2 g4 hi hn (by
     rw [hsp] at hb
     simp only [Zn] at hb ⊢
     omega)
   refine ⟨_,j1,H2,L2,rfl,by rw [htk,← X1]; exact j2,fun j hj => (j3 j hj).trans (g2 j hj),Un g3 j4,j5⟩)
  (fun st hs => by
   obtain ⟨H1,L1,rfl,g1,g2,g3,g4⟩:=hs
   rw [Zq (by rw [hP.len]; exact Q8 _)] at g1
   refine ⟨_,?_,H1,L1,rfl,g1,g2,g3,g4⟩
   have e1:((xs.length:Int) < (xs.length:Int)) = False:=eq_false (by omega)
   simp only [wrI,Qap,J2,quiet,cF,↓pF,reduceCtorEq,Qc,Qp,Ja,Je,J5,Jd,Zy,Q7,Zf,Q4,Zc,Zl,Zk,↓Kn,↓Kd,↓K4,↓K7,↓K5,↓K6,cL,Qo,Qn,Q1,Q0,Qx,Qs,Qr,Qz,Qd,Q5,Q6,Qy,Qj,Qi,Qh,Qw,Qv,Qu,Qm,Ql,cJ,e1])
 refine ⟨H',L',?_,f1,f2,f3,f4⟩
 simp only [wrI,Q3,Q2,V9] at hl
 have hlen:vLen false pv = some (.int .i64 xs.length):=by
  rcases hp with ⟨rfl,h0⟩ | ⟨pid,off,cap,o,rfl,-⟩
  ·rw [h0]; rfl
  ·rfl
 rw [J3 (fn:=Qvc) rfl]
 simp only [Qvc,↓Ke,J2,quiet,cF,↓pF,reduceCtorEq,Qc,Qp,Ja,Je,J5,Jd,Zy,Q7,Zf,Q4,Zc,Zl,Zk,↓Kn,↓Kd,↓K4,↓K7,↓K5,↓K6,cL,Qo,Qn,Q1,Q0,Qx,Qs,Qr,Qz,Qd,Q5,Q6,Qy,Qj,Qi,Qh,Qw,Qv,Qu,Qm,Ql,cJ,hlen,hl]
 rfl
theorem Qqd:fillL (Value.slice none 0 0 :: Qb 9 (.int .u64 0)) [(2,8,.agg (ns .u64 R3).toArray)] = some (hcl (.slice none 0 0) 0 R3):=rfl
theorem Qxk (H:List Ob):Vl T 52 [] H = some (.pointer (some ⟨H.length,0,none⟩),H ++ [hob (.slice none 0 0) 0 R3],[]):=by
 have hf:fillL (Qb 8 (Value.int .u64 0)) [(0,1,.int .u64 7640891576956012808),(1,1,.int .u64 13503953896175478587),(2,1,.int .u64 4354685564936845355),(3,1,.int .u64 11912009170470909681),(4,1,.int .u64 5840696475078001361),(5,1,.int .u64 11170449401992604703),(6,1,.int .u64 2270897969802886507),(7,1,.int .u64 6620516959819538809)] = some (ns .u64 R3):=rfl
 have hf2:∀ a,fillL [Value.slice none 0 0,.int .u64 0,.int .u64 0,.int .u64 0,.int .u64 0,.int .u64 0,.int .u64 0,.int .u64 0,.int .u64 0,.int .u64 0] [(2,8,.agg (ns .u64 a).toArray)] = fillL (Value.slice none 0 0 :: Qb 9 (.int .u64 0)) [(2,8,.agg (ns .u64 a).toArray)]:=fun _ => rfl
 have hf3:=Qqd
 simp only [hob]
 generalize R3 = S at *
 generalize hcl (.slice none 0 0) 0 S = C at *
 rw [J3 (fn:=Qvd) rfl]
 simp only [Qvd,↓Ke,J2,quiet,cF,↓pF,reduceCtorEq,Qc,Qp,Ja,Je,J5,Jd,Zy,Q7,Zf,Q4,Zc,Zl,Zk,↓Kn,↓Kd,↓K4,↓K7,↓K5,↓K6,cL,Qo,Qn,Q1,Q0,Qx,Qs,Qr,Qz,Qd,Q5,Q6,Qy,Qj,Qi,Qh,Qw,Qv,Qu,Qm,Ql,cJ,hf,hf2,hf3]
theorem Qth {K:Nat → Prop} {H:List Ob} {hid:Nat} (h:H[hid]? = some (hob (.slice none 0 0) 0 R3)):Hsh K H hid []:=⟨_,h,.nil⟩
end Go.Ev.Ytgacigcbglflkaa
set_option linter.unusedSimpArgs false
set_option linter.unusedVariables false
namespace Go.Ev.Ytgacigcbglflkaa
open Go Go.Ev
attribute [local congr] Um Uw Uj Ux W1
set_option maxRecDepth 100000
def paI (hid:Nat) (s:Value) (Hc:List Ob) (ex:Env):St:=⟨[(0,.pointer (some ⟨hid,0,none⟩)),(1,.int .i64 128),(2,.int .i64 16),(7,s)] ++ ex,Hc,[]⟩
def pbI (hid:Nat) (s:Value) (i:Int) (Hc:List Ob) (ex:Env):St:=⟨[(0,.pointer (some ⟨hid,0,none⟩)),(7,s),(8,.int .i64 i)] ++ ex,Hc,[]⟩
theorem Qmw (n i:Nat):((n / 256 ^ (i + 1) * 8 % 256) ||| (n / 256 ^ i % 256 / 32)) = 8 * n / 256 ^ (i + 1) % 256:=by
 have h1:n / 256 ^ (i + 1) = n / 256 ^ i / 256:=by rw [K8,V5]
 have h2:8 * n / 256 ^ (i + 1) = n / 256 ^ i / 32:=by
  rw [V5,K8,show 256 ^ i * 256 = 8 * (256 ^ i * 32) by omega,Nat.mul_div_mul_left _ _ (by decide)]
 rw [h1,h2]
 generalize n / 256 ^ i = m
 have h3:m / 256 * 8 % 256 = (m / 256 % 32) * 2 ^ 3:=by omega
 rw [h3,Mw (by omega)]
 omega
theorem Qpu (n:Nat):(n + (1 + G7 n) + 16) % 128 = 0:=by unfold G7; omega
theorem Qh2 (n z:Nat) (h:z < G7 n):(n + (1 + z) + 16) % 128 ≠ 0:=by unfold G7 at h; omega
theorem Qgb (n:Nat):G7 n < 128:=by unfold G7; omega
theorem Qsy {H:List Ob} {hid n:Nat} {rv:Value} {st:List Nat} (hh:H[hid]? = some (hob rv n st)) (hn:n < 2 ^ 50) :
  ∃ s l,Xa T H.length (.block 0 (.loop Qak)) (paI hid (.slice (some ⟨H.length,0,none⟩) 1 1) (H ++ [⟨[.int .u8 128],true,true,true,1⟩]) []) = some (.normal,paI hid s (H ++ l) [(23,.bool false)]) ∧ Grown .u8 H.length (H ++ l) s (128 :: Qb (G7 n) 0):=by
 have hlt:hid < H.length:=(Qt.1 hh).1
 have f0:fillL [Value.int .u8 0] [(0,1,.int .u8 0)] = some [.int .u8 0]:=rfl
 have c1:(hcl rv n st)[1]? = some (.int .u64 n):=rfl
 have hz:=Qgb n
 obtain ⟨x,hb,s,Hc,rfl,hg,hL,hF⟩:=Yn (T:=T) (base:=H.length) (id:=0) (body:=Qak)
  (fun j x => ∃ s Hc,x = paI hid s Hc [] ∧ Grown .u8 H.length Hc s (128 :: Qb j 0) ∧ H.length ≤ Hc.length ∧ ∀ i,i < H.length → Hc[i]? = H[i]?)
  (Q:=fun x => ∃ s Hc,x = paI hid s Hc [(23,.bool false)] ∧ Grown .u8 H.length Hc s (128 :: Qb (G7 n) 0) ∧ H.length ≤ Hc.length ∧ ∀ i,i < H.length → Hc[i]? = H[i]?)
  (G7 n) (s:=paI hid (.slice (some ⟨H.length,0,none⟩) 1 1) (H ++ [⟨[.int .u8 128],true,true,true,1⟩]) []) ⟨_,_,rfl,Grown.new (k := .u8) (id:=H.length) (bs:=[128]) (Q8 _) (by decide) (by simp [Ob.fresh,ns]),by simp,fun i hi => Qe hi⟩
  (fun j x hj hx => by
   obtain ⟨s,Hc,rfl,hg,hL,hF⟩:=hx
   have hl:=hg.len
   have e1:(128 :: Qb j 0).length = 1 + j:=by simp; omega
   rw [e1] at hl
   obtain ⟨s',H',M,h1,h2,h3,h4,h5⟩:=T7 (x:=0) (bytes:=1) hg hL (by rw [e1]; omega) (by decide)
   have hm:Xk H.length [] M = []:=Y2 h3
   have hget:Hc[hid]? = some ⟨hcl rv n st,true,true,true,1⟩:=(hF hid hlt).trans hh
   have w1:IntKind.i64.wrap (n:Int) = (n:Int):=wn (by omega)
   have w2:IntKind.i64.wrap ((n:Int) + ((1 + j:Nat):Int)) = ((n + (1 + j):Nat):Int):=B3 (by omega)
   have w3:IntKind.i64.wrap (((n + (1 + j):Nat):Int) + 16) = ((n + (1 + j) + 16:Nat):Int):=B3 (b:=16) (by omega)
   have w4:((n + (1 + j) + 16:Nat):Int).tmod 128 = (((n + (1 + j) + 16) % 128:Nat):Int):=rfl
   have w5:((((n + (1 + j) + 16) % 128:Nat):Int) != 0) = true:=bne_iff_ne.2 (by have:=Qh2 n j hj; omega)
   refine ⟨paI hid s' H' [],?_,s',H',rfl,by rw [Qb6,← Q3]; exact h2,h4,fun i hi => by rw [h5 i hi,hF i hi]⟩
   simp only [V9] at h1
   generalize (n + (1 + j) + 16) % 128 = r at *
   generalize n + (1 + j) + 16 = r2 at *
   generalize n + (1 + j) = r3 at *
   simp only [paI,Qak,↓Ke,J2,quiet,cF,↓pF,reduceCtorEq,Qc,Qp,Ja,Je,J5,Jd,Zy,Q7,Zf,Q4,Zc,Zl,Zk,↓Kn,↓Kd,↓K4,↓K7,↓K5,↓K6,cL,Qo,Qn,Q1,Q0,Qx,Qs,Qr,Qz,Qd,Q5,Q6,Qy,Qj,Qi,Qh,Qw,Qv,Qu,Qm,Ql,cJ,hget,c1,hl,w1,w2,w3,w4,w5,f0,h1,hm])
  (fun x hx => by
   obtain ⟨s,Hc,rfl,hg,hL,hF⟩:=hx
   have hl:=hg.len
   have e1:(128 :: Qb (G7 n) 0).length = 1 + G7 n:=by simp; omega
   rw [e1] at hl
   have hget:Hc[hid]? = some ⟨hcl rv n st,true,true,true,1⟩:=(hF hid hlt).trans hh
   have w1:IntKind.i64.wrap (n:Int) = (n:Int):=wn (by omega)
   have w2:IntKind.i64.wrap ((n:Int) + ((1 + G7 n:Nat):Int)) = ((n + (1 + G7 n):Nat):Int):=B3 (by omega)
   have w3:IntKind.i64.wrap (((n + (1 + G7 n):Nat):Int) + 16) = ((n + (1 + G7 n) + 16:Nat):Int):=B3 (b:=16) (by omega)
   have w4:((n + (1 + G7 n) + 16:Nat):Int).tmod 128 = 0:=by
    have:((n + (1 + G7 n) + 16:Nat):Int).tmod 128 = (((n + (1 + G7 n) + 16) % 128:Nat):Int):=rfl
    rw [this,Qpu]; rfl
   refine ⟨_,?_,s,Hc,rfl,hg,hL,hF⟩
   generalize n + (1 + G7 n) + 16 = r2 at *
   generalize n + (1 + G7 n) = r3 at *
   simp only [paI,Qak,↓Ke,J2,quiet,cF,↓pF,reduceCtorEq,Qc,Qp,Ja,Je,J5,Jd,Zy,Q7,Zf,Q4,Zc,Zl,Zk,↓Kn,↓Kd,↓K4,↓K7,↓K5,↓K6,cL,Qo,Qn,Q1,Q0,Qx,Qs,Qr,Qz,Qd,Q5,Q6,Qy,Qj,Qi,Qh,Qw,Qv,Qu,Qm,Ql,cJ,hget,c1,hl,w1,w2,w3,w4])
 obtain ⟨l,rfl⟩:=Ma hL hF
 exact ⟨s,l,hb,hg⟩
def Qj8 (n i:Nat):Nat:=8 * n / 256 ^ (15 - i) % 256
theorem Qsx {H l0:List Ob} {hid n:Nat} {rv s0:Value} {st bs:List Nat} (hh:H[hid]? = some (hob rv n st)) (hn:n < 2 ^ 50) (hg0:Grown .u8 H.length (H ++ l0) s0 bs) (hbs:bs.length ≤ 200) :
  ∃ s l,Xa T H.length (.block 2 (.loop Mf)) (pbI hid s0 15 (H ++ l0) []) = some (.normal,pbI hid s (-1) (H ++ l) [(30,.bool false)]) ∧ Grown .u8 H.length (H ++ l) s (bs ++ (Yi 16).map (Qj8 n)):=by
 have hlt:hid < H.length:=(Qt.1 hh).1
 have c1:(hcl rv n st)[1]? = some (.int .u64 n):=rfl
 obtain ⟨x,hb,s,Hc,rfl,hg,hL,hF⟩:=Yn (T:=T) (base:=H.length) (id:=2) (body:=Mf)
  (fun j x => ∃ s Hc,x = pbI hid s ((15:Int) - j) Hc [] ∧ Grown .u8 H.length Hc s (bs ++ (Yi j).map (Qj8 n)) ∧ H.length ≤ Hc.length ∧ ∀ i,i < H.length → Hc[i]? = H[i]?)
  (Q:=fun x => ∃ s Hc,x = pbI hid s (-1) Hc [(30,.bool false)] ∧ Grown .u8 H.length Hc s (bs ++ (Yi 16).map (Qj8 n)) ∧ H.length ≤ Hc.length ∧ ∀ i,i < H.length → Hc[i]? = H[i]?)
  16 (s:=pbI hid s0 15 (H ++ l0) []) ⟨_,_,rfl,by simpa using hg0,by simp,fun i hi => Qe hi⟩
  (fun j x hj hx => by
   obtain ⟨s,Hc,rfl,hg,hL,hF⟩:=hx
   obtain ⟨i,hi⟩:∃ i,i = 15 - j:=⟨_,rfl⟩
   rw [show (15:Int) - j = (i:Int) by omega,show (15:Int) - ((j + 1:Nat):Int) = (i:Int) - 1 by omega]
   have hl:=hg.len
   have hpd:Qj8 n j = 8 * n / 256 ^ i % 256:=by rw [hi]; rfl
   obtain ⟨s',H',M,h1,h2,h3,h4,h5⟩:=T7 (x:=Qj8 n j) (bytes:=1) hg hL (by rw [Zn,D0,Ry]; omega) (by decide)
   have hm:Xk H.length [] M = []:=Y2 h3
   have hget:Hc[hid]? = some ⟨hcl rv n st,true,true,true,1⟩:=(hF hid hlt).trans hh
   have fx:∀ a:Int,fillL [Value.int .u8 0] [(0,1,.int .u8 a)] = some [.int .u8 a]:=fun _ => rfl
   have w0:IntKind.i64.wrap ((i:Int) - 1) = (i:Int) - 1:=Ya (by omega) (by omega)
   have e0:((0:Int) ≤ (i:Int)) = True:=eq_true (by omega)
   refine ⟨pbI hid s' ((i:Int) - 1) H' [],?_,s',H',rfl,by rw [List.range_succ,Uu,← X1]; exact h2,h4,fun k hk => by rw [h5 k hk,hF k hk]⟩
   rw [hpd] at h1
   by_cases h9:i < 9
   ·have e9:((i:Int) < 9) = True:=eq_true (by omega)
    have w1:IntKind.i64.wrap (8 * (i:Int)) = ((8 * i:Nat):Int):=Qjl (a:=8) (by omega)
    have w2:(((8 * i:Nat):Int) < 0) = False:=eq_false (by omega)
    have w3:(n:Int).fdiv (2 ^ min (8 * i) IntKind.u64.bits) = ((n / 256 ^ i:Nat):Int):=by
     rw [Qe3 (by omega),show (256:Nat) = 2 ^ 8 from rfl,← Ye]
    have hle:n / 256 ^ i ≤ n:=Dz _ _
    have w4:IntKind.u64.wrap (((n / 256 ^ i:Nat):Int) * 2 ^ min 3 IntKind.u64.bits) = ((n / 256 ^ i * 8:Nat):Int):=Qli (b:=8) (by omega)
    have w5:IntKind.u8.wrap ((n / 256 ^ i * 8:Nat):Int) = ((n / 256 ^ i * 8 % 256:Nat):Int):=Qti _
    by_cases hz:i = 0
    ·subst hz
     have e8:n / 256 ^ 0 * 8 % 256 = 8 * n / 256 ^ 0 % 256:=by rw [Wn,Uz,Uz]; omega
     rw [e8] at w5
     have ew:(8 * 0:Nat) = 0:=rfl
     simp only [ew,V9] at w1 w2 w3
     generalize 8 * n / 256 ^ 0 % 256 = d at *
     generalize n / 256 ^ 0 * 8 = v1 at *
     generalize n / 256 ^ 0 = v2 at *
     simp only [pbI,Mf,↓Ke,J2,quiet,cF,↓pF,reduceCtorEq,Qc,Qp,Ja,Je,J5,Jd,Zy,Q7,Zf,Q4,Zc,Zl,Zk,↓Kn,↓Kd,↓K4,↓K7,↓K5,↓K6,cL,Qo,Qn,Q1,Q0,Qx,Qs,Qr,Qz,Qd,Q5,Q6,Qy,Qj,Qi,Qh,Qw,Qv,Qu,Qm,Ql,cJ,hget,c1,w0,e0,e9,w1,w2,w3,w4,w5,fx,h1,hm]
    ·obtain ⟨k,rfl⟩:∃ k,i = k + 1:=⟨i - 1,by omega⟩
     have hd:=Qmw n k
     have ep:((0:Int) < ((k + 1:Nat):Int)) = True:=eq_true (by omega)
     have v1:IntKind.i64.wrap (((8 * (k + 1):Nat):Int) - 8) = ((8 * k:Nat):Int):=by rw [Ya (by omega) (by omega)]; omega
     have v2:(((8 * k:Nat):Int) < 0) = False:=eq_false (by omega)
     have v3:(n:Int).fdiv (2 ^ min (8 * k) IntKind.u64.bits) = ((n / 256 ^ k:Nat):Int):=by
      rw [Qe3 (by omega),show (256:Nat) = 2 ^ 8 from rfl,← Ye]
     have v4:Vj .and .u64 ((n / 256 ^ k:Nat):Int) 255 = ((n / 256 ^ k % 256:Nat):Int):=Tk .u64 rfl 8 _ (by decide)
     have v5:((n / 256 ^ k % 256:Nat):Int).fdiv (2 ^ min 5 IntKind.u64.bits) = ((n / 256 ^ k % 256 / 32:Nat):Int):=Qe3 (r:=5) (by decide)
     have v6:IntKind.u8.wrap ((n / 256 ^ k % 256 / 32:Nat):Int) = ((n / 256 ^ k % 256 / 32:Nat):Int):=by rw [Qti,Z6 (by omega)]
     have v7:Vj .or .u8 ((n / 256 ^ (k + 1) * 8 % 256:Nat):Int) ((n / 256 ^ k % 256 / 32:Nat):Int) = ((8 * n / 256 ^ (k + 1) % 256:Nat):Int):=by
      rw [B0 rfl (show _ < 2 ^ 8 from Jn _ (by decide)) (show n / 256 ^ k % 256 / 32 < 2 ^ 8 by omega),hd]
     generalize 8 * n / 256 ^ (k + 1) % 256 = d at *
     generalize n / 256 ^ (k + 1) * 8 % 256 = u1 at *
     generalize n / 256 ^ (k + 1) * 8 = u2 at *
     generalize n / 256 ^ (k + 1) = u3 at *
     generalize n / 256 ^ k % 256 / 32 = u4 at *
     generalize n / 256 ^ k % 256 = u5 at *
     generalize n / 256 ^ k = u6 at *
     generalize 8 * (k + 1) = u7 at *
     generalize 8 * k = u8' at *
     generalize k + 1 = k1 at *
     simp only [pbI,Mf,↓Ke,J2,quiet,cF,↓pF,reduceCtorEq,Qc,Qp,Ja,Je,J5,Jd,Zy,Q7,Zf,Q4,Zc,Zl,Zk,↓Kn,↓Kd,↓K4,↓K7,↓K5,↓K6,cL,Qo,Qn,Q1,Q0,Qx,Qs,Qr,Qz,Qd,Q5,Q6,Qy,Qj,Qi,Qh,Qw,Qv,Qu,Qm,Ql,cJ,hget,c1,w0,e0,e9,ep,w1,w2,w3,w4,w5,v1,v2,v3,v4,v5,v6,v7,fx,h1,hm]
   ·have e9:((i:Int) < 9) = False:=eq_false (by omega)
    have ep:((0:Int) < (i:Int)) = True:=eq_true (by omega)
    have hz:8 * n / 256 ^ i % 256 = 0:=by
     have:(256:Nat) ^ 9 ≤ 256 ^ i:=Kx (by decide) (by omega)
     rw [Wy (Xo (by omega) this)]
    rw [hz] at h1
    simp only [V9] at h1
    simp only [pbI,Mf,↓Ke,J2,quiet,cF,↓pF,reduceCtorEq,Qc,Qp,Ja,Je,J5,Jd,Zy,Q7,Zf,Q4,Zc,Zl,Zk,↓Kn,↓Kd,↓K4,↓K7,↓K5,↓K6,cL,Qo,Qn,Q1,Q0,Qx,Qs,Qr,Qz,Qd,Q5,Q6,Qy,Qj,Qi,Qh,Qw,Qv,Qu,Qm,Ql,cJ,hget,c1,w0,e0,e9,ep,fx,h1,hm])
  (fun x hx => by
   obtain ⟨s,Hc,rfl,hg,hL,hF⟩:=hx
   have e:((0:Int) ≤ -1) = False:=by decide
   refine ⟨_,?_,s,Hc,rfl,hg,hL,hF⟩
   rw [show (15:Int) - ((16:Nat):Int) = -1 by omega]
   simp only [pbI,Mf,J2,quiet,cF,↓pF,reduceCtorEq,Qc,Qp,Ja,Je,J5,Jd,Zy,Q7,Zf,Q4,Zc,Zl,Zk,↓Kn,↓Kd,↓K4,↓K7,↓K5,↓K6,cL,Qo,Qn,Q1,Q0,Qx,Qs,Qr,Qz,Qd,Q5,Q6,Qy,Qj,Qi,Qh,Qw,Qv,Qu,Qm,Ql,e])
 obtain ⟨l,rfl⟩:=Ma hL hF
 exact ⟨s,l,hb,hg⟩
theorem Qs0 (n:Nat):Qa5 n = (128 :: Qb (G7 n) 0) ++ (Yi 16).map (Qj8 n):=by unfold Qa5 Qj8; rw [Q3]
theorem Qj7 {H:List Ob} {hid n:Nat} {rv:Value} {st:List Nat} (hh:H[hid]? = some (hob rv n st)) (hn:n < 2 ^ 50) :
  ∃ s l,Vl T 68 [.pointer (some ⟨hid,0,none⟩),.int .i64 128,.int .i64 16] H = some (s,H ++ l,[]) ∧ Grown .u8 H.length (H ++ l) s (Qa5 n):=by
 obtain ⟨s1,l1,h1,g1⟩:=Qsy hh hn
 have hz:=Qgb n
 obtain ⟨s2,l2,h2,g2⟩:=Qsx hh hn g1 (by simp; omega)
 rw [← Qs0] at g2
 refine ⟨s2,l2,?_,g2⟩
 have f128:fillL [Value.int .u8 0] [(0,1,.int .u8 128)] = some [.int .u8 128]:=rfl
 have w1:IntKind.i64.wrap 15 = 15:=by decide
 simp only [paI,Q3,Q2] at h1
 simp only [pbI,Q3,Q2] at h2
 rw [J3 (fn:=Qu8) rfl]
 simp only [Qu8,↓Ke,J2,quiet,cF,↓pF,reduceCtorEq,Qc,Qp,Ja,Je,J5,Jd,Zy,Q7,Zf,Q4,Zc,Zl,Zk,↓Kn,↓Kd,↓K4,↓K7,↓K5,↓K6,cL,Qo,Qn,Q1,Q0,Qx,Qs,Qr,Qz,Qd,Q5,Q6,Qy,Qj,Qi,Qh,Qw,Qv,Qu,Qm,Ql,cJ,f128,h1,w1,h2]
theorem Rst.elems {K:Nat → Prop} {H:List Ob} {v:Value} {l:List Nat} (h:Rst K H v l):elemsOf H 1 l.length v = some (u8s l):=by
 cases h with
 | nil => rfl
 | empty _ h2 => simp [elemsOf,V0 h2 rfl,u8s]
 | own h1 h2 h4 h3 => simp [elemsOf,V0 h2 rfl,Ky,h4,Qhg h3]
theorem Qob {K:Nat → Prop} {G:List Ob} {e:Nat} {x:Value} {p:List Nat} (he:G[e]? = some ⟨[],true,true,true,1⟩) (hKe:¬ K e) (hKg:¬ K G.length) (hl:Go.Ev.lenV x = some p.length) (hel:elemsOf G 1 p.length x = some (u8s p)) (hb:p.length ≤ 2 ^ 47) :
  ∃ v' l,Yp 1 1 G (.slice (some ⟨e,0,none⟩) 0 0) x = some (v',G ++ l,none,[]) ∧ Rst K (G ++ l) v' p ∧ Vu v' = true ∧ v'.cells.toList = [v'] ∧ v'.cells.size = 1:=by
 have h4:liveAt G e = some ⟨[],true,true,true,1⟩:=V0 he rfl
 rcases Yb p.length with hn | hn
 ·have:p = []:=Vk hn
  subst this
  refine ⟨.slice (some ⟨e,0,none⟩) 0 0,[],?_,by rw [Kw]; exact .empty hKe he,rfl,rfl,rfl⟩
  rw [Zp] at hl hel
  simp only [Yp,hl,hel,Qf,if_true,Kw]
 ·have h1:¬ p.length = 0:=by omega
  have h2:p.length * 1 ≤ 2 ^ 47:=by omega
  have h7:¬ (p.length ≤ 0):=by omega
  have h8:elemsOf G 1 0 (.slice (some ⟨e,0,none⟩) 0 0) = some []:=by simp [elemsOf,h4]
  refine ⟨.slice (some ⟨G.length,0,none⟩) p.length p.length,[Ob.grown 1 (u8s p)],?_,.own (all:=p) hKg (by simp [Ob.grown]) (by omega) (fun i _ => by rw [Zh]),rfl,rfl,rfl⟩
  simp only [Yp,hl,hel,Qf,if_neg h1,Zh,h2,Qod,Dy,and_self,not_true_eq_false,if_false,if_true,h4,h8,if_neg h7,Q2]
theorem Rst.len {K:Nat → Prop} {H:List Ob} {v:Value} {l:List Nat} (h:Rst K H v l):Go.Ev.lenV v = some l.length:=by
 obtain ⟨a,c,rfl⟩:=h.shape; rfl
theorem Gq (b:List Nat):(sha b).length = 64:=by simp [sha]
theorem Qcz (b:List Nat):∀ x ∈ sha b,x < 256:=by
 intro x hx
 simp only [sha,Wu] at hx
 obtain ⟨i,-,rfl⟩:=hx
 exact Jn _ (by decide)
def suI (r x o:Nat) (G:List Ob) (b:List Nat) (i:Int) (ex:Env):St:=⟨[(2,.pointer (some ⟨r,0,none⟩)),(3,.pointer (some ⟨x,0,none⟩)),(4,.pointer (some ⟨G.length,0,none⟩)),(32,.int .i64 i)] ++ ex,G ++ [⟨u8s b,true,true,true,1⟩],[]⟩
theorem Qoy {r x base n:Nat} {G:List Ob} {rv:Value} {st R:List Nat} (hx:G[x]? = some (hob rv n st)) (hs:st.length = 8) (hR:R.length = 64) (hRi:∀ i,i < 64 → R[i]? = some (st.getD (i / 8) 0 / 256 ^ (7 - i % 8) % 256)) (hxs:∀ y ∈ st,y < 18446744073709551616) (hb:base ≤ G.length) :
  Xa T base (.block 0 (.loop Qao)) (suI r x 0 G (Qb 64 0) 0 []) = some (.normal,suI r x 0 G R 64 [(33,.bool false)]):=by
 have h:=Bc (T:=T) (base:=base) (id:=0) (body:=Qao) (fun i => suI r x 0 G (pf 64 R i) i []) (s':=suI r x 0 G R 64 [(33,.bool false)]) 64
  (fun i hi => by
   obtain ⟨w,hw⟩:∃ w,st[i / 8]? = some w:=⟨_,Qq (by omega)⟩
   have hw':=hxs w (Zt hw)
   have hv:=hRi i hi
   rw [B8 hw] at hv
   have hstep:=Qf9 hR hi hv
   have hlen:=Qj4 hR (W2 hi)
   have hset:=Gp (pf 64 R i) i (w / 256 ^ (7 - i % 8) % 256)
   rw [hstep] at hset
   have gc:=Ql1 (rv:=rv) (n:=n) hw
   have hget:∀ l:List Ob,(G ++ l)[x]? = some ⟨hcl rv n st,true,true,true,1⟩:=fun l => by rw [Qe (Qt.1 hx).1]; exact hx
   have e1:((i:Int) < 64) = True:=eq_true (by omega)
   have w3:IntKind.i64.wrap ((i:Int) + 1) = ((i + 1:Nat):Int):=B3 (b:=1) (by omega)
   have w4:IntKind.i64.wrap ((i:Int).tdiv 8) = ((i / 8:Nat):Int):=wn (n:=i / 8) (by omega)
   have e2:(((i / 8:Nat):Int) < 8) = True:=eq_true (by omega)
   have w5:(i:Int).tmod 8 = ((i % 8:Nat):Int):=rfl
   have w6:IntKind.i64.wrap (8 * ((i % 8:Nat):Int)) = ((8 * (i % 8):Nat):Int):=Qjl (a:=8) (by omega)
   have w7:IntKind.i64.wrap (56 - ((8 * (i % 8):Nat):Int)) = ((8 * (7 - i % 8):Nat):Int):=by rw [Ya (by omega) (by omega)]; omega
   have e3:(((8 * (7 - i % 8):Nat):Int) < 0) = False:=eq_false (by omega)
   have w8:(w:Int).fdiv (2 ^ min (8 * (7 - i % 8)) IntKind.u64.bits) = ((w / 256 ^ (7 - i % 8):Nat):Int):=by
    rw [Qe3 (by omega),show (256:Nat) = 2 ^ 8 from rfl,← Ye]
   have w9:IntKind.u8.wrap ((w / 256 ^ (7 - i % 8):Nat):Int) = ((w / 256 ^ (7 - i % 8) % 256:Nat):Int):=Qti _
   have e4:(i ≤ 63) = True:=eq_true (by omega)
   have m1:Xk base [] [G.length] = []:=Y2 (by simpa using hb)
   clear hstep hv hw
   generalize pf 64 R i = o1 at *
   generalize pf 64 R (i + 1) = o2 at *
   generalize w / 256 ^ (7 - i % 8) % 256 = d at *
   generalize w / 256 ^ (7 - i % 8) = d2 at *
   generalize 8 * (7 - i % 8) = d3 at *
   generalize 8 * (i % 8) = d4 at *
   generalize i % 8 = d5 at *
   generalize i / 8 = d6 at *
   generalize i + 1 = i1 at *
   simp only [suI,Qao,↓Ke,J2,quiet,cF,↓pF,reduceCtorEq,Qc,Qp,Ja,Je,J5,Jd,Zy,Q7,Zf,Q4,Zc,Zl,Zk,↓Kn,↓Kd,↓K4,↓K7,↓K5,↓K6,cL,Qo,Qn,Q1,Q0,Qx,Qs,Qr,Qz,Qd,Q5,Q6,Qy,Qj,Qi,Qh,Qw,Qv,Qu,Qm,Ql,cJ,e1,e2,e3,e4,w3,w4,w5,w6,w7,w8,w9,hget,gc,hset,Ky,hlen,m1])
  (by
   rw [Qlp hR]
   simp only [suI,Qao,J2,quiet,cF,↓pF,reduceCtorEq,Qc,Qp,Ja,Je,J5,Jd,Zy,Q7,Zf,Q4,Zc,Zl,Zk,↓Z0,↓Zz,↓Jr,↓Ju,↓Js,↓Jt,cL,Qo,Qn,Q1,Q0,Qx,Qs,Qr,Qz,Qd,Q5,Q6,Qy,Qj,Qi,Qh,Qw,Qv,Qu,Qm,Ql,cJ])
 rw [Qlo] at h
 exact h
theorem Grown.part {K:Nat → Prop} {B:Nat} {H:List Ob} {s:Value} {p:List Nat} (h:Grown .u8 B H s p) (hK:∀ i,B ≤ i → i < H.length → K i) (xp:∀ y ∈ p,y < 256) (hl:p.length ≤ 2 ^ 47 - 128) (h0:0 < p.length):HPart K H s p:=by
 refine ⟨?_,fun G hG => ?_,xp,hl⟩
 ·cases h with
  | nil => exact absurd h0 (by decide)
  | own _ _ _ => exact ⟨_,_,rfl⟩
  | new _ _ _ => exact ⟨_,_,rfl⟩
 ·cases h with
  | nil => exact absurd h0 (by decide)
  | @own id _ h1 h2 h3 =>
   have:=hG id (hK id h1 (Qt.1 h3).1)
   rw [h3] at this
   simp [elemsOf,V0 this rfl,Ob.grown,K3]
   exact Zq (by rw [K3]; exact Q8 _)
  | @new id _ h1 h2 h3 =>
   have:=hG id (hK id h1 (Qt.1 h3).1)
   rw [h3] at this
   simp [elemsOf,V0 this rfl,Ob.fresh,K3]
   exact Zq (by rw [K3]; exact Q8 _)
theorem Qsz (n:Nat):∀ y ∈ Qa5 n,y < 256:=by
 intro y hy
 simp only [Qa5,Wm,Kf,List.mem_replicate,Wu] at hy
 rcases hy with rfl | ⟨-,rfl⟩ | ⟨i,-,rfl⟩
 ·decide
 ·decide
 ·exact Jn _ (by decide)
theorem Qc7 (n:Nat):(Qa5 n).length = 17 + G7 n:=by simp [Qa5]; omega
theorem Rst.toK {K K':Nat → Prop} {H:List Ob} {v:Value} {l:List Nat} (h:Rst K H v l) (hk:∀ i,¬ K i → ¬ K' i):Rst K' H v l:=by
 cases h with
 | nil => exact .nil
 | empty h1 h2 => exact .empty (hk _ h1) h2
 | own h1 h2 h4 h3 => exact .own (hk _ h1) h2 h4 h3
theorem R7:Qb 64 (Value.int .u8 0) = u8s (Qb 64 0):=rfl
theorem Qn0 (va:Option Addr) (rl vc m:Nat) {st:List Nat} (h:st.length = 8):fillL [Value.slice none 0 0,.int .u64 0,.int .u64 0,.int .u64 0,.int .u64 0,.int .u64 0,.int .u64 0,.int .u64 0,.int .u64 0,.int .u64 0] [(0,2,.agg [.slice va rl vc,.int .u64 m].toArray),(2,8,eV st)] = some (hcl (.slice va rl vc) m st):=by
 obtain ⟨a,b,c,d,e,f,g,i,rfl⟩:=eight h
 rfl
theorem Qw1 {K:Nat → Prop} {H:List Ob} {hid:Nat} {all:List Nat} (hh:Hsh K H hid all) (xa:∀ y ∈ all,y < 256) (hn:all.length < 2 ^ 49) :
  ∃ H',Vl T 54 [.pointer (some ⟨hid,0,none⟩)] H = some (.agg (u8s (sha all)).toArray,H',[]) ∧ (∀ i,i < H.length → H'[i]? = H[i]?) ∧ H.length ≤ H'.length:=by
 obtain ⟨rv,h1,h2⟩:=hh
 have hlt:hid < H.length:=(Qt.1 h1).1
 obtain ⟨st,hst⟩:∃ s,s = stK (all.length / 128) all:=⟨_,rfl⟩
 have ls:st.length = 8:=by rw [hst]; exact Qcb _ _
 rw [← hst] at h1
 obtain ⟨G,hG⟩:∃ G,G = H ++ [⟨u8s (Qb 64 0),true,true,true,1⟩,⟨[],true,true,true,1⟩]:=⟨_,rfl⟩
 have hGl:G.length = H.length + 2:=by rw [hG]; simp
 have hrG:Rst K G rv (all.drop (128 * (all.length / 128))):=by rw [hG]; exact h2.app
 have heG:G[H.length + 1]? = some ⟨[],true,true,true,1⟩:=by rw [hG,Ze (by omega),X0]; rfl
 have hzG:G[H.length]? = some ⟨u8s (Qb 64 0),true,true,true,1⟩:=by rw [hG,Ze (by omega),V8]; rfl
 have hhG:G[hid]? = some (hob rv all.length st):=by rw [hG,Qe hlt]; exact h1
 obtain ⟨v',l,ha,hr',hok,hc1,hc2⟩:=Qob (K:=fun i => i ≠ H.length + 1 ∧ i ≠ G.length) heG (by simp) (by simp) hrG.len hrG.elems (by rw [Vw]; omega)
 obtain ⟨G2,hG2⟩:∃ X,X = G ++ l ++ [hob v' all.length st]:=⟨_,rfl⟩
 have hG2l:G2.length = G.length + l.length + 1:=by rw [hG2]; simp; omega
 obtain ⟨xid,hxid⟩:∃ x,x = (G ++ l).length:=⟨_,rfl⟩
 have hxl:xid = G.length + l.length:=by rw [hxid]; simp
 have hx2:G2[xid]? = some (hob v' all.length st):=by rw [hG2,hxid,Ze (Q8 _),V8]; rfl
 have hh2:G2[hid]? = some (hob rv all.length st):=by
  have:hid < G.length:=by omega
  rw [hG2,X1,Qe this]; exact hhG
 obtain ⟨s,l3,hp,hgr⟩:=Qj7 hh2 (by omega)
 obtain ⟨G4,hG4⟩:∃ X,X = G2 ++ l3 ++ [⟨[s],true,true,true,1⟩]:=⟨_,rfl⟩
 have hG4l:G4.length = G2.length + l3.length + 1:=by rw [hG4]; simp; omega
 have hgr4:Grown .u8 G2.length G4 s (Qa5 all.length):=by rw [hG4]; exact hgr.app
 obtain ⟨K2,hK2⟩:∃ K2:Nat → Prop,K2 = fun i => i < G4.length ∧ i ≠ xid ∧ i ≠ H.length + 1 ∧ i ≠ G.length:=⟨_,rfl⟩
 have hx4:G4[xid]? = some (hob v' all.length st):=by rw [hG4,X1,Qe (by omega)]; exact hx2
 have hsh4:Hsh K2 G4 xid all:=by
  refine ⟨v',by rw [← hst]; exact hx4,?_⟩
  have:=(hr'.app (m:=[hob v' all.length st])).app (m:=l3 ++ [⟨[s],true,true,true,1⟩])
  rw [← hG2,← X1,← hG4] at this
  exact this.toK fun i hi hk => by
   rw [hK2] at hk
   exact hi ⟨hk.2.2.1,hk.2.2.2⟩
 have hpz:=Qgb all.length
 have hpart:HPart K2 G4 s (Qa5 all.length):=Grown.part hgr4 (fun i h1 h2 => by rw [hK2]; exact ⟨h2,by omega,by omega,by omega⟩) (Qsz _) (by rw [Qc7]; omega) (by rw [Qc7]; omega)
 have harr:(G2 ++ l3).length < G4.length:=by rw [hG4]; simp
 have hpv:PV K2 G4 (.slice (some ⟨(G2 ++ l3).length,0,none⟩) 1 1) [s] := .inr ⟨_,0,1,_,rfl,by rw [hK2]; exact ⟨harr,by simp; omega,by simp; omega,by simp; omega⟩,by rw [hG4,Ze (Q8 _),V8]; rfl,rfl,fun i _ => by rw [Zh]⟩
 have hKx:¬ K2 xid:=by rw [hK2]; intro h; exact h.2.1 rfl
 obtain ⟨G5,M5,hw,hsh5,hf5,hl5,hM5⟩:=Qg6 (fun i hi => by rw [hK2] at hi; exact hi.1) hKx hsh4 xa hpv (.cons hpart .nil) (by show 1 < 2 ^ 50; decide) (by simp [Qc7]; omega)
 rw [Ki,Ys,Kw] at hsh5
 obtain ⟨rv5,hx5,-⟩:=hsh5
 obtain ⟨st5,hst5⟩:∃ s,s = stK ((all ++ Qa5 all.length).length / 128) (all ++ Qa5 all.length):=⟨_,rfl⟩
 rw [← hst5] at hx5
 have ls5:st5.length = 8:=by rw [hst5]; exact Qcb _ _
 have xs5:∀ y ∈ st5,y < 18446744073709551616:=by rw [hst5]; exact Qo0 _ _
 have hb5:H.length ≤ G5.length:=by omega
 have hsu:=Qoy (r:=H.length) (base:=H.length) hx5 ls5 (Gq all) (fun i hi => by simp [sha,hi,hst5]) xs5 hb5
 have hz5:G5[H.length]? = some ⟨u8s (Qb 64 0),true,true,true,1⟩:=by
  rw [hf5 _ (by rw [hK2]; exact ⟨by omega,by omega,by omega,by omega⟩),hG4,X1,Qe (by omega),hG2,X1,Qe (by omega)]
  exact hzG
 have hfr:∀ i,i < H.length → G5[i]? = H[i]? := fun i hi => by
  rw [hf5 _ (by rw [hK2]; exact ⟨by omega,by omega,by omega,by omega⟩),hG4,X1,Qe (by omega),hG2,X1,Qe (by omega),hG,Qe hi]
 have hm5:Xk H.length [] M5 = []:=Y2 fun i hi => by
  have:=hM5 i hi
  rw [hK2] at this
  rcases Vr i H.length with h | h
  ·exact absurd (show i < G4.length ∧ i ≠ xid ∧ i ≠ H.length + 1 ∧ i ≠ G.length from ⟨by omega,by omega,by omega,by omega⟩) this
  ·exact h
 refine ⟨(G5 ++ [(⟨u8s (sha all),true,true,true,1⟩:Ob)]).set H.length (⟨u8s (sha all),true,true,true,1⟩:Ob),?_,fun i hi => by rw [Xc (by omega),Qe (by omega)]; exact hfr i hi,by rw [X3,Zn]; omega⟩
 have hz:=R7
 have lz:(Qb 64 0).length = 64:=Zi
 have lsh:=Gq all
 have cst:=Qfm (rv:=rv) (n:=all.length) ls
 have c0:(hcl rv all.length st)[0]? = some rv:=rfl
 have c1:(hcl rv all.length st)[1]? = some (.int .u64 all.length):=rfl
 have hcl8:2 + 8 ≤ (hcl rv all.length st).length:=by rw [Rl]; omega
 obtain ⟨va,vc,rfl⟩:=hr'.shape
 generalize (all.drop (128 * (all.length / 128))).length = rl at *
 have fl1:fillL [Value.slice none 0 0,.int .u64 0] [(0,1,.slice va rl vc),(1,1,.int .u64 all.length)] = some [.slice va rl vc,.int .u64 all.length]:=rfl
 have fl2:=Qn0 va rl vc all.length ls
 have fls:fillL [Value.slice none 0 0] [(0,1,s)] = some [s]:=by
  obtain ⟨sa,sc,hsh⟩:=hpart.shape
  rw [hsh]; rfl
 have f0:fillL [] [] = some []:=rfl
 have F1:H ++ [⟨u8s (Qb 64 0),true,true,true,1⟩,⟨[],true,true,true,1⟩] = G:=hG.symm
 have Fx:G.length + l.length = xid:=hxl.symm
 have F2:G ++ (l ++ [⟨hcl (.slice va rl vc) all.length st,true,true,true,1⟩]) = G2:=by rw [hG2,X1]; rfl
 have F4:G2 ++ (l3 ++ [⟨[s],true,true,true,1⟩]) = G4:=by rw [hG4,X1]
 have g1:G[hid]? = some ⟨hcl rv all.length st,true,true,true,1⟩:=hhG
 have g2:(G ++ l)[hid]? = some ⟨hcl rv all.length st,true,true,true,1⟩:=by rw [Qe (by omega)]; exact hhG
 have g5:∀ o:Ob,(G5 ++ [o])[H.length]? = some ⟨u8s (Qb 64 0),true,true,true,1⟩:=fun o => by rw [Qe (by omega)]; exact hz5
 have g6:∀ o o':Ob,((G5 ++ [o]).set H.length o')[H.length]? = some o':=fun o o' => Km (by rw [Zn]; omega)
 have okcl:(hcl (.slice va rl vc) all.length st).all Vu = true:=by
  show (Vu (.slice va rl vc) && (Vu (.int .u64 all.length) && (ns .u64 st).all Vu)) = true
  have:(ns .u64 st).all Vu = true:=by
   rw [Vq]; intro y hy
   simp only [ns,Wu] at hy
   obtain ⟨m,-,rfl⟩:=hy; rfl
  rw [this]; rfl
 rw [Zn] at hw
 simp only [suI,Q3,Q2,V9] at hsu
 have hge:H.length ≤ H.length + 1:=by omega
 generalize hcl rv all.length st = C1 at *
 generalize hcl (.slice va rl vc) all.length st = C2 at *
 generalize sha all = R at *
 generalize Qb 64 0 = Z64 at *
 rw [J3 (fn:=Qvb) rfl]
 simp only [Qvb,↓Ke,J2,quiet,cF,↓pF,reduceCtorEq,Qc,Qp,Ja,Je,J5,Jd,Zy,Q7,Zf,Q4,Zc,Zl,Zk,↓Kn,↓Kd,↓K4,↓K7,↓K5,↓K6,cL,Qo,Qn,Q1,Q0,Qx,Qs,Qr,Qz,Qd,Q5,Q6,Qy,Qj,Qi,Qh,Qw,Qv,Qu,Qm,Ql,cJ,hz,f0,F1,g1,g2,c0,c1,ha,fl1,cst,hcl8,Kv,Vf,Yq,Vg,fl2,Fx,F2,hp,fls,F4,hw,hm5,hsu,g5,g6,Ky,lz,lsh,Vm,Zi]
theorem Qmk {H:List Ob} {pv:Value} {xs:List Value} {ps:List (List Nat)} (hp:PV (fun i => i < H.length) H pv xs) (hP:HParts (fun i => i < H.length) H xs ps) (hn:xs.length < 2 ^ 50) (hb:ps.flatten.length < 2 ^ 49) :
  ∃ l,Vl T 25 [pv] H = some (.agg (u8s (sha ps.flatten)).toArray,H ++ l,[]):=by
 obtain ⟨H1,hH1⟩:∃ X,X = H ++ [⟨u8s (Qb 64 0),true,true,true,1⟩,hob (.slice none 0 0) 0 R3]:=⟨_,rfl⟩
 have hl1:H1.length = H.length + 2:=by rw [hH1]; simp
 have hg1:H1[H.length + 1]? = some (hob (.slice none 0 0) 0 R3):=by rw [hH1,Ze (by omega),X0]; rfl
 have hz1:H1[H.length]? = some ⟨u8s (Qb 64 0),true,true,true,1⟩:=by rw [hH1,Ze (by omega),V8]; rfl
 have hf1:∀ i,i < H.length → H1[i]? = H[i]? := fun i hi => by rw [hH1,Qe hi]
 have hp1:PV (fun i => i < H.length + 1) H1 pv xs:=by
  rcases hp with h | ⟨pid,off,cap,o,h1,h2,h3,h4,h5⟩
  ·exact .inl h
  ·exact .inr ⟨pid,off,cap,o,h1,Qg4 h2,(hf1 _ h2).trans h3,h4,h5⟩
 have hP1:HParts (fun i => i < H.length + 1) H1 xs ps:=by
  clear hn hb hp hp1
  induction hP with
  | nil => exact .nil
  | cons a _ ih => exact .cons ⟨a.shape,fun G hG => a.reads G fun i hi => (hG i (Qg4 hi)).trans (hf1 i hi),a.lt,a.le⟩ ih
 obtain ⟨H2,M2,hw,s2,f2,l2,m2⟩:=Qg6 (K:=fun i => i < H.length + 1) (hid:=H.length + 1) (fun i hi => by have:i < H.length + 1:=hi; omega) (Jz _) (Qth hg1) (by simp) hp1 hP1 hn (by rw [Q2]; omega)
 rw [Q2] at s2
 obtain ⟨H3,hs3,f3,l3⟩:=Qw1 s2 hP.lt hb
 have hm2:Xk H.length [] M2 = []:=Y2 fun i hi => by
  have:¬ i < H.length + 1:=m2 i hi
  omega
 have g3:H3[H.length]? = some ⟨u8s (Qb 64 0),true,true,true,1⟩:=by
  rw [f3 _ (by omega),f2 _ (Nat.lt_succ_self _)]; exact hz1
 have hfr:∀ i,i < H.length → (H3.set H.length (⟨u8s (sha ps.flatten),true,true,true,1⟩:Ob))[i]? = H[i]? := fun i hi => by
  rw [Xc (by omega),f3 _ (by omega),f2 _ (Qg4 hi)]; exact hf1 i hi
 have hle:H.length ≤ (H3.set H.length (⟨u8s (sha ps.flatten),true,true,true,1⟩:Ob)).length:=by rw [X3]; omega
 obtain ⟨l,hl⟩:=Ma hle hfr
 refine ⟨l,?_⟩
 rw [← hl]
 have hz:=R7
 have lz:(Qb 64 0).length = 64:=Zi
 have lsh:=Gq ps.flatten
 have hnew:=Qxk (H ++ [⟨u8s (Qb 64 0),true,true,true,1⟩])
 have e1:(H ++ [(⟨u8s (Qb 64 0),true,true,true,1⟩:Ob)]).length = H.length + 1:=by simp
 rw [e1,X1,Q3,Q2,← hH1] at hnew
 have g4:∀ o:Ob,(H3.set H.length o)[H.length]? = some o:=fun o => Km (by omega)
 generalize sha ps.flatten = R at *
 generalize Qb 64 0 = Z64 at *
 rw [J3 (fn:=Qve) rfl]
 simp only [Qve,↓Ke,J2,quiet,cF,↓pF,reduceCtorEq,Qc,Qp,Ja,Je,J5,Jd,Zy,Q7,Zf,Q4,Zc,Zl,Zk,↓Kn,↓Kd,↓K4,↓K7,↓K5,↓K6,cL,Qo,Qn,Q1,Q0,Qx,Qs,Qr,Qz,Qd,Q5,Q6,Qy,Qj,Qi,Qh,Qw,Qv,Qu,Qm,Ql,cJ,hz,hnew,hw,hm2,hs3,g3,g4,Kv,Vf,Yq,Vg,Ky,lz,lsh,Vm,Zi]
theorem Th (p:Go.Cv.Pt Go.Fp.P Go.Fp.d):Uf p U0 = p:=Go.Cv.add_zero Go.Fp.fld p
theorem Qh1 (p:Go.Cv.Pt Go.Fp.P Go.Fp.d):Uf p p.neg = U0:=Go.Cv.add_neg Go.Fp.fld p
theorem G6 (a b:Nat) (p:Go.Cv.Pt Go.Fp.P Go.Fp.d):Yl (a + b) p = Uf (Yl a p) (Yl b p):=Go.Cv.mul_add Go.Fp.fld a b p
theorem Mv (a b:Nat) (p:Go.Cv.Pt Go.Fp.P Go.Fp.d):Yl (a * b) p = Yl a (Yl b p):=Go.Cv.Qlz Go.Fp.fld a b p
theorem Bv {l:Nat} {p:Go.Cv.Pt Go.Fp.P Go.Fp.d} (hl:Yl l p = U0) (k:Nat):Yl (k % l) p = Yl k p:=Go.Cv.mul_mod Go.Fp.fld hl k
theorem Qfa (k:Nat):Yl k U0 = U0:=Go.Cv.mul_zero Go.Fp.fld k
abbrev LtN (n:Nat):Nat → Prop:=fun i => i < n
theorem HPart.arr {n id off m c:Nat} {H:List Ob} {b:List Nat} {w e:Bool} {s:Nat} (hid:id < n) (h:H[id]? = some ⟨u8s b,true,w,e,s⟩) (hb:∀ y ∈ b,y < 256) (hl:off + m ≤ b.length) (hm:m ≤ 2 ^ 47 - 4096):HPart (LtN n) H (.slice (some ⟨id,off,none⟩) m c) ((b.drop off).take m):=by
 have hlen:((b.drop off).take m).length = m:=by rw [Ks,Vw]; omega
 refine ⟨⟨_,_,by rw [hlen]⟩,fun G hG => ?_,fun y hy => hb y (Yw (Vd hy)),by rw [hlen]; omega⟩
 have hg:=(hG id hid).trans h
 rw [hlen]
 simp [elemsOf,V0 hg rfl,Ky,hl]
 simp [u8s,Qry,Qrz]
theorem HPart.whole {n id c:Nat} {H:List Ob} {b:List Nat} {w e:Bool} {s:Nat} (hid:id < n) (h:H[id]? = some ⟨u8s b,true,w,e,s⟩) (hb:∀ y ∈ b,y < 256) (hm:b.length ≤ 2 ^ 47 - 4096):HPart (LtN n) H (.slice (some ⟨id,0,none⟩) b.length c) b:=by
 have:=HPart.arr (off:=0) (m:=b.length) (c:=c) hid h hb (by omega) hm
 rwa [Zc,U5] at this
theorem HPart.ext {n m:Nat} {H G:List Ob} {x:Value} {p:List Nat} (h:HPart (LtN n) H x p) (hg:∀ i,i < n → G[i]? = H[i]?) (hnm:n ≤ m):HPart (LtN m) G x p :=
 ⟨h.shape,fun G' hG' => h.reads G' fun i hi => (hG' i (Xo hi hnm)).trans (hg i hi),h.lt,h.le⟩
theorem HParts.ext {n m:Nat} {H G:List Ob} {xs:List Value} {ps:List (List Nat)} (h:HParts (LtN n) H xs ps) (hg:∀ i,i < n → G[i]? = H[i]?) (hnm:n ≤ m):HParts (LtN m) G xs ps:=by
 induction h with
 | nil => exact .nil
 | cons a _ ih => exact .cons (a.ext hg hnm) ih
theorem HParts.append {K:Nat → Prop} {H:List Ob} {xs ys:List Value} {ps qs:List (List Nat)} (h:HParts K H xs ps) (k:HParts K H ys qs):HParts K H (xs ++ ys) (ps ++ qs):=by
 induction h with
 | nil => exact k
 | cons a _ ih => exact .cons a ih
structure Args1 (H:List Ob) (pv:Value) (ps:List (List Nat)) (xs:List Value):Prop where
 inPv:PV (LtN H.length) H pv xs
 parts:HParts (LtN H.length) H xs ps
 few:xs.length < 2 ^ 40
 len:Go.Ev.lenV pv = some xs.length
 reads:∀ G:List Ob,(∀ i,i < H.length → G[i]? = H[i]?) → elemsOf G 1 xs.length pv = some xs
def Args (H:List Ob) (pv:Value) (ps:List (List Nat)):Prop:=∃ xs,Args1 H pv ps xs
theorem Args.ext {H G:List Ob} {pv:Value} {ps:List (List Nat)} (h:Args H pv ps) (hg:∀ i,i < H.length → G[i]? = H[i]?) (hl:H.length ≤ G.length):Args G pv ps:=by
 obtain ⟨xs,h1,h2,h3,h4,h5⟩:=h
 refine ⟨xs,?_,h2.ext hg hl,h3,h4,fun G' hG' => h5 G' fun i hi => (hG' i (Xo hi hl)).trans (hg i hi)⟩
 rcases h1 with h | ⟨pid,off,cap,o,a1,a2,a3,a4,a5⟩
 ·exact .inl h
 ·exact .inr ⟨pid,off,cap,o,a1,Xo a2 hl,(hg pid a2).trans a3,a4,a5⟩
theorem Args.app {H l:List Ob} {pv:Value} {ps:List (List Nat)} (h:Args H pv ps):Args (H ++ l) pv ps:=h.ext (fun i hi => Qe hi) (by simp)
theorem Args.nothing (H:List Ob):Args H (.slice none 0 0) []:=⟨[],.inl ⟨rfl,rfl⟩,.nil,by decide,rfl,fun _ _ => rfl⟩
theorem Args.arr {H:List Ob} {a n c:Nat} {e:Bool} {s:Nat} {ys:List Value} {qs:List (List Nat)} (ha:H[a]? = some ⟨ys,true,true,e,s⟩) (hn:ys.length = n) (hys:HParts (LtN H.length) H ys qs) (hf:n < 2 ^ 40):Args H (.slice (some ⟨a,0,none⟩) n c) qs:=by
 subst hn
 refine ⟨ys,.inr ⟨a,0,c,_,rfl,(Qt.1 ha).1,ha,rfl,fun i _ => by rw [Zh]⟩,hys,hf,rfl,fun G hG => ?_⟩
 have hg:=(hG a (Qt.1 ha).1).trans ha
 simp [elemsOf,V0 hg rfl]
theorem Rb {H:List Ob} {a n:Nat} {ys:List Value} {pv:Value} {qs ps:List (List Nat)} (ha:H[a]? = some ⟨ys,true,true,true,1⟩) (hn:ys.length = n) (hys:HParts (LtN H.length) H ys qs) (hp:Args H pv ps) (h10:n ≤ 10) (hps:ps.length ≤ 1000) :
  ∃ v' l,Yp 1 24 H (.slice (some ⟨a,0,none⟩) n n) pv = some (v',H ++ l,none,[]) ∧ Args (H ++ l) v' (qs ++ ps):=by
 have hAr:Args H (.slice (some ⟨a,0,none⟩) n n) qs:=Args.arr ha hn hys (by omega)
 subst hn
 obtain ⟨xs,hp⟩:=hp
 have h4:liveAt H a = some ⟨ys,true,true,true,1⟩:=V0 ha rfl
 have h8:elemsOf H 1 ys.length (.slice (some ⟨a,0,none⟩) ys.length ys.length) = some ys:=by simp [elemsOf,h4]
 have k1:=hp.len
 have k2:=hp.reads H (fun _ _ => rfl)
 have k3:=hp.few
 have k4:=hp.parts.len
 rcases Yb xs.length with h0 | h0
 ·have hx:xs = []:=Vk h0
  have hps':ps = []:=Vk (by rw [hp.parts.len,h0])
  subst hx hps'
  refine ⟨.slice (some ⟨a,0,none⟩) ys.length ys.length,[],?_,by rw [Kw,Kw]; exact hAr⟩
  rw [Zp] at k1 k2
  simp only [Yp,k1,k2,Qf,if_true,Kw]
 ·have h1:¬ xs.length = 0:=by omega
  have h2:(ys.length + xs.length) * 24 ≤ 2 ^ 47:=by omega
  have h7:¬ (ys.length + xs.length ≤ ys.length):=by omega
  refine ⟨.slice (some ⟨H.length,0,none⟩) (ys.length + xs.length) (ys.length + xs.length),[Ob.grown 1 (ys ++ xs)],?_,?_⟩
  ·simp only [Yp,k1,k2,Qf,if_neg h1,h2,Qjh,Qod,Dy,and_self,not_true_eq_false,if_false,if_true,h4,h8,if_neg h7]
  ·refine Args.arr (ys:=ys ++ xs) (e:=false) (s:=1) (by rw [Ze (Q8 _),V8]; rfl) (by simp) ?_ (by omega)
   exact (hys.ext (fun i hi => Qe hi) (by simp)).append (hp.parts.ext (fun i hi => Qe hi) (by simp))
theorem Args.flat {H:List Ob} {pv:Value} {ps:List (List Nat)} (h:Args H pv ps):∀ y ∈ ps.flatten,y < 256:=by
 obtain ⟨xs,h⟩:=h; exact h.parts.lt
theorem Qhk {H:List Ob} {pv:Value} {ps:List (List Nat)} (h:Args H pv ps) (hb:ps.flatten.length < 2 ^ 49):∃ l,Vl T 25 [pv] H = some (.agg (u8s (sha ps.flatten)).toArray,H ++ l,[]):=by
 obtain ⟨xs,h⟩:=h
 have:=h.few
 exact Qmk h.inPv h.parts (by omega) hb
def Qb2 (b:List Nat):List Nat:=rd (sha b)
theorem T0 {b:List Nat}:(Qb2 b).length = 32:=Qw6
theorem Qce {b:List Nat}:∀ x ∈ Qb2 b,x < 256:=rd_lt
theorem Da {H:List Ob} {pv:Value} {ps:List (List Nat)} (h:Args H pv ps) (hb:ps.flatten.length < 2 ^ 49) :
  ∃ l,Vl T 17 [pv] H = some (.agg (u8s (Qb2 ps.flatten)).toArray,H ++ l,[]):=by
 have hz:Qb 32 (Value.int .u8 0) = u8s (dig 256 32 0):=rfl
 have lz:(dig 256 32 0).length = 32:=rfl
 have hz64:=R7
 have lz64:(Qb 64 0).length = 64:=Zi
 obtain ⟨l1,h1⟩:=Qhk (h.app (l:=[⟨u8s (dig 256 32 0),true,true,true,1⟩])) hb
 have ls:=Gq ps.flatten
 have xs:=Qcz ps.flatten
 obtain ⟨G,hG⟩:∃ X,X = H ++ (⟨u8s (dig 256 32 0),true,true,true,1⟩ :: (l1 ++ [⟨u8s (sha ps.flatten),true,true,true,1⟩,⟨[.slice (some ⟨H.length + (l1.length + 1),0,none⟩) 64 64],true,true,true,1⟩])):=⟨_,rfl⟩
 have hGl:G.length = H.length + (l1.length + 3):=by rw [hG]; simp
 have hg1:G[H.length + (l1.length + 1)]? = some ⟨u8s (sha ps.flatten),true,true,true,1⟩:=by
  rw [hG,Ze (by omega),X0,Q9,Ze (Q8 _),V8]; rfl
 have hg2:G[H.length + (l1.length + 1 + 1)]? = some ⟨[.slice (some ⟨H.length + (l1.length + 1),0,none⟩) 64 64],true,true,true,1⟩:=by
  rw [hG,Ze (by omega),X0,Q9,Ze (by omega),X0]; rfl
 have hP:Qrx .u8 G (H.length + (l1.length + 1 + 1)) 0 [sha ps.flatten]:=by
  refine ⟨_,V0 hg2 rfl,fun i p hi => ?_⟩
  cases i with
  | zero =>
   simp at hi; subst hi
   refine ⟨_,rfl,?_⟩
   have:=Sl.mk (k := .u8) (c:=64) (off:=0) (l:=sha ps.flatten) (V0 hg1 rfl) (by simp [Ky]) (fun i x hx => by rw [Zh]; exact Ud hx)
   rwa [ls] at this
  | succ i => simp at hi
 obtain ⟨l2,h2⟩:=Qmq (c:=1) (n:=1) hP rfl (by decide) (by simp [ls]) (by simpa using xs)
 rw [Ki,Ys,Kw] at h2
 have hfr:∀ i,i < H.length → ((G ++ l2).set H.length (⟨u8s (Qb2 ps.flatten),true,true,true,1⟩:Ob))[i]? = H[i]? := fun i hi => by
  rw [Xc (by omega),Qe (by omega),hG,Qe hi]
 obtain ⟨l,hl⟩:=Ma (H:=H) (by rw [X3,Zn]; omega) hfr
 refine ⟨l,?_⟩
 rw [← hl]
 have g4:∀ o:Ob,((G ++ l2).set H.length o)[H.length]? = some o:=fun o => Km (by rw [Zn]; omega)
 have f1:fillL [Value.slice none 0 0] [(0,1,.slice (some ⟨H.length + (l1.length + 1),0,none⟩) 64 64)] = some [.slice (some ⟨H.length + (l1.length + 1),0,none⟩) 64 64]:=rfl
 have lr:=T0 (b:=ps.flatten)
 rw [show dig 256 32 (num 256 (sha ps.flatten) % ell) = Qb2 ps.flatten from rfl] at h2
 have F1:H ++ (⟨u8s (dig 256 32 0),true,true,true,1⟩ :: (l1 ++ [⟨u8s (sha ps.flatten),true,true,true,1⟩,⟨[.slice (some ⟨H.length + (l1.length + 1),0,none⟩) 64 64],true,true,true,1⟩])) = G:=hG.symm
 have hg3:(G ++ l2)[H.length]? = some ⟨u8s (dig 256 32 0),true,true,true,1⟩:=by
  rw [Qe (by omega),hG,Ze (Q8 _),V8]; rfl
 rw [X1,Q3,Q2] at h1
 generalize Qb2 ps.flatten = R at *
 generalize sha ps.flatten = S at *
 generalize dig 256 32 0 = Z at *
 generalize Qb 64 0 = Z64 at *
 rw [J3 (fn:=Qvf) rfl]
 simp only [Qvf,↓Ke,J2,quiet,cF,↓pF,reduceCtorEq,Qc,Qp,Ja,Je,J5,Jd,Zy,Q7,Zf,Q4,Zc,Zl,Zk,↓Kn,↓Kd,↓K4,↓K7,↓K5,↓K6,cL,Qo,Qn,Q1,Q0,Qx,Qs,Qr,Qz,Qd,Q5,Q6,Qy,Qj,Qi,Qh,Qw,Qv,Qu,Qm,Ql,cJ,hz,hz64,h1,f1,F1,h2,hg3,g4,Kv,Vf,Yq,Vg,Ky,lz,lz64,ls,lr,Vm,Zi]
def scL (s:List Nat):List Nat:=U2 ((sha s).take 32) ((sha s).getD 0 0) ((sha s).getD 31 0)
def pfL (s:List Nat):List Nat:=(sha s).drop 32
theorem Rj (s:List Nat):(scL s).length = 32:=by simp [scL,U2,Gq]
theorem Qcg (s:List Nat):(pfL s).length = 32:=by simp [pfL,Gq]
theorem Qa0 (s:List Nat) {i:Nat} (h:i < 64):∃ x,(sha s)[i]? = some x ∧ (sha s).getD i 0 = x ∧ x < 256:=by
 obtain ⟨x,hx⟩:∃ x,(sha s)[i]? = some x:=⟨_,Qq (by rw [Gq]; exact h)⟩
 exact ⟨x,hx,B8 hx,Qcz s x (Zt hx)⟩
theorem Qf3 (s:List Nat):∀ y ∈ scL s,y < 256:=by
 obtain ⟨x,-,e1,lx⟩:=Qa0 s (i:=0) (by decide)
 obtain ⟨z,-,e2,lz⟩:=Qa0 s (i:=31) (by decide)
 have h1:x &&& 248 < 256:=Gh (n:=8) _ (by decide)
 have h2:(z &&& 127) ||| 64 < 256:=Qg2 (n:=8) (Gh (n:=8) _ (by decide)) (by decide)
 rw [scL,U2,e1,e2]
 exact D4 (D4 (fun y hy => Qcz s y (Vd hy)) h1) h2
theorem Qxa (s:List Nat):∀ y ∈ pfL s,y < 256:=fun y hy => Qcz s y (Yw hy)
theorem Dj (n:Nat) (l:List Nat):Wz n (u8s l) = u8s (l.take n):=by simp [u8s,Qry]
theorem Qhh (n:Nat) (l:List Nat):B1 n (u8s l) = u8s (l.drop n):=by simp [u8s,Qrz]
theorem Qct (a b:List Nat):u8s (a ++ b) = u8s a ++ u8s b:=by simp [u8s]
theorem Qq6 {a b:List Nat} (la:a.length = 32) (lb:b.length = 32):fillL (u8s (Qb 64 0)) [(0,32,.agg (u8s a).toArray),(32,32,.agg (u8s b).toArray)] = some (u8s (a ++ b)):=by
 have l64:(u8s (Qb 64 0)).length = 64:=by rw [Ky,Zi]
 have lA:(u8s a).length = 32:=by rw [Ky,la]
 have lB:(u8s b).length = 32:=by rw [Ky,lb]
 have ca:∀ l:List Nat,(Value.agg (u8s l).toArray).cells.toList = u8s l:=fun _ => rfl
 have cz:∀ l:List Nat,(Value.agg (u8s l).toArray).cells.size = (u8s l).length:=fun _ => rfl
 have ok:∀ l:List Nat,Vu (Value.agg (u8s l).toArray) = true:=fun _ => rfl
 have s1:splice (u8s (Qb 64 0)) 0 (u8s a) = u8s a ++ (u8s (Qb 64 0)).drop 32:=by
  rw [Gy _ _ _ (by omega),Zf,Q2,Zh,lA]
 have s2:splice (u8s a ++ (u8s (Qb 64 0)).drop 32) 32 (u8s b) = u8s (a ++ b):=by
  rw [Gy _ _ _ (by rw [Zn,Vw]; omega),Yv (by omega),Zq (by omega),Wc (by rw [Zn,Vw]; omega),Kw,Qct]
 have e1:(u8s a).length = 32 ∧ 0 + 32 ≤ (u8s (Qb 64 0)).length ∧ True:=⟨lA,by omega,trivial⟩
 have e2:(u8s b).length = 32 ∧ 32 + 32 ≤ (u8s a ++ (u8s (Qb 64 0)).drop 32).length ∧ True:=⟨lB,by rw [Zn,Vw]; omega,trivial⟩
 simp only [fillL,ca,cz,ok,s1,s2,if_pos e1,if_pos e2]
theorem Qiq {s:List Nat} (ls:s.length = 32) (xs:∀ y ∈ s,y < 256):V7 T 13 [.agg (u8s s).toArray] = some (.agg (u8s (scL s ++ pfL s)).toArray):=by
 have hz64:=R7
 have lz64:(Qb 64 0).length = 64:=Zi
 obtain ⟨G,hG⟩:∃ X,X = [(⟨u8s s,true,true,true,1⟩:Ob),⟨u8s (Qb 64 0),true,true,true,1⟩,⟨[.slice (some ⟨0,0,none⟩) 32 32],true,true,true,1⟩]:=⟨_,rfl⟩
 have hA:Args G (.slice (some ⟨2,0,none⟩) 1 1) [s]:=by
  have hp:HPart (LtN G.length) G (.slice (some ⟨0,0,none⟩) 32 32) s:=by
   have:=HPart.whole (n:=G.length) (H:=G) (id:=0) (c:=32) (b:=s) (by rw [hG]; exact Qjh _) (by rw [hG]; rfl) xs (by rw [ls]; decide)
   rwa [ls] at this
  exact Args.arr (ys:=[.slice (some ⟨0,0,none⟩) 32 32]) (e:=true) (s:=1) (by rw [hG]; rfl) rfl (.cons hp .nil) (by decide)
 obtain ⟨l,h1⟩:=Qhk hA (by simp [ls])
 rw [Ki,Ys,Kw,hG] at h1
 simp only [Q3,Q2] at h1
 obtain ⟨x,g0,d0,lx⟩:=Qa0 s (i:=0) (by decide)
 obtain ⟨z,g31,d31,lz⟩:=Qa0 s (i:=31) (by decide)
 have lS:=Gq s
 have lt32:((sha s).take 32).length = 32:=by rw [Ks,lS]; rfl
 obtain ⟨lc,hc⟩:=Qrh (a:=(sha s).take 32) (x:=x) (y:=z) lt32 (by rw [Kt,if_pos (by decide)]; exact g0) (by rw [Kt,if_pos (by decide)]; exact g31) lx lz
 have hcv:=T9 hc
 rw [show U2 ((sha s).take 32) x z = scL s by rw [scL,d0,d31]] at hcv
 have hf:=Qq6 (Rj s) (Qcg s)
 have f1:fillL [Value.slice none 0 0] [(0,1,.slice (some ⟨0,0,none⟩) 32 32)] = some [.slice (some ⟨0,0,none⟩) 32 32]:=rfl
 have t1:Wz 32 (u8s (sha s)) = u8s ((sha s).take 32):=Dj _ _
 have t2:Wz 32 (B1 32 (u8s (sha s))) = u8s (pfL s):=by rw [Qhh,Dj,Zq (by rw [Vw,lS]; decide)]; rfl
 have l1:=Rj s
 have l2:=Qcg s
 have l3:(scL s ++ pfL s).length = 64:=by rw [Zn,l1,l2]
 clear hG hA
 generalize (sha s).take 32 = S1 at *
 generalize pfL s = S2 at *
 generalize scL s = S3 at *
 generalize S3 ++ S2 = R at *
 generalize sha s = S at *
 generalize Qb 64 0 = Z64 at *
 apply Vc
 apply J4
 rw [J3 (fn:=Qvg) rfl]
 simp only [Qvg,↓Ke,J2,quiet,cF,↓pF,reduceCtorEq,Qc,Qp,Ja,Je,J5,Jd,Zy,Q7,Zf,Q4,Zc,Zl,Zk,↓Kn,↓Kd,↓K4,↓K7,↓K5,↓K6,cL,Qo,Qn,Q1,Q0,Qx,Qs,Qr,Qz,Qd,Q5,Q6,Qy,Qj,Qi,Qh,Qw,Qv,Qu,Qm,Ql,cJ,hz64,h1,f1,t1,t2,hcv,hf,Kv,Vf,Yq,Vg,Ky,ls,lS,lz64,l1,l2,l3,lt32,Vm,Zi]
 rfl
def Ug (s:List Nat):List Nat:=enc (Yl (num 256 (scL s)) We)
theorem Qhx {s:List Nat} (ls:s.length = 32) (xs:∀ y ∈ s,y < 256):V7 T 10 [.agg (u8s s).toArray] = some (.agg (u8s (Ug s)).toArray):=by
 have hz:Qb 32 (Value.int .u8 0) = u8s (dig 256 32 0):=rfl
 have lz:(dig 256 32 0).length = 32:=rfl
 have hh:=Qiq ls xs
 obtain ⟨B,hB,rB⟩:=Qk8
 obtain ⟨P,hP,rP⟩:=G9 rB (Rj s) (Qf3 s)
 have hE:=Qaa rP
 have lE:=Qab (Yl (num 256 (scL s)) We)
 have l1:=Rj s
 have l2:=Qcg s
 have t1:Wz 32 (u8s (scL s ++ pfL s)) = u8s (scL s):=by rw [Dj,Yv (by omega),Zq (by omega)]
 have l3:(scL s ++ pfL s).length = 64:=by rw [Zn,l1,l2]
 unfold Ug
 generalize enc (Yl (num 256 (scL s)) We) = E at *
 generalize scL s ++ pfL s = R at *
 generalize scL s = S3 at *
 generalize dig 256 32 0 = Z at *
 apply Vc
 apply J4
 rw [J3 (fn:=Qvh) rfl]
 simp only [Qvh,↓Ke,J2,quiet,cF,↓pF,reduceCtorEq,Qc,Qp,Ja,Je,J5,Jd,Zy,Q7,Zf,Q4,Zc,Zl,Zk,↓Kn,↓Kd,↓K4,↓K7,↓K5,↓K6,cL,Qo,Qn,Q1,Q0,Qx,Qs,Qr,Qz,Qd,Q5,Q6,Qy,Qj,Qi,Qh,Qw,Qv,Qu,Qm,Ql,cJ,hz,hh,hB,hP,hE,t1,Kv,Vf,Yq,Vg,Ky,ls,lz,l1,l3,lE,Vm,Zi,Yt]
 rfl
def rL (s m:List Nat):List Nat:=Qb2 (pfL s ++ m)
def frL (s m:List Nat):List Nat:=enc (Yl (num 256 (rL s m)) We)
def chL (front pub m:List Nat):List Nat:=Qb2 (front ++ (pub ++ m))
def bkL (s m:List Nat):List Nat:=mA (chL (frL s m) (Ug s) m) (scL s) (rL s m)
def Hm (s m:List Nat):List Nat:=frL s m ++ bkL s m
theorem Rm (s m:List Nat):(frL s m).length = 32:=Qab _
theorem Qgs (s m:List Nat):∀ y ∈ frL s m,y < 256:=Qq8 _
theorem Dm (s:List Nat):(Ug s).length = 32:=Qab _
theorem Qcf (s:List Nat):∀ y ∈ Ug s,y < 256:=Qq8 _
theorem Hz (s m:List Nat):(bkL s m).length = 32:=Qxt
theorem Qdv (s m:List Nat):∀ y ∈ bkL s m,y < 256:=mA_lt
theorem Qcy (s m:List Nat):(Hm s m).length = 64:=by rw [Hm,Zn,Rm,Hz]
theorem Qoa {H:List Ob} {a b n m c:Nat} {fa fb:List Nat} {e:Bool} {s:Nat} (ha:H[a]? = some ⟨u8s fa,true,true,true,1⟩) (hb:H[b]? = some ⟨u8s fb,true,true,e,s⟩) (hn:fa.length = n) (hm:fb.length = m) (h0:0 < m) (hs:n + m ≤ 1000) :
  Yp 1 1 H (.slice (some ⟨a,0,none⟩) n n) (.slice (some ⟨b,0,none⟩) m c) = some (.slice (some ⟨H.length,0,none⟩) (n + m) (n + m),H ++ [⟨u8s (fa ++ fb),true,true,false,1⟩],none,[]):=by
 have h4:liveAt H a = some ⟨u8s fa,true,true,true,1⟩:=V0 ha rfl
 have k2:elemsOf H 1 m (.slice (some ⟨b,0,none⟩) m c) = some (u8s fb):=by
  simp [elemsOf,V0 hb rfl,Ky,hm]
  exact Zq (by rw [Ky,hm]; exact Q8 _)
 have h8:elemsOf H 1 n (.slice (some ⟨a,0,none⟩) n n) = some (u8s fa):=by
  simp [elemsOf,h4,Ky,hn]
  exact Zq (by rw [Ky,hn]; exact Q8 _)
 have h1:¬ m = 0:=by omega
 have h2:(n + m) * 1 ≤ 2 ^ 47:=by omega
 have h7:¬ (n + m ≤ n):=by omega
 have k1:Go.Ev.lenV (.slice (some ⟨b,0,none⟩) m c) = some m:=rfl
 simp only [Yp,k1,k2,Qf,if_neg h1,h2,Qjh,Qod,Dy,and_self,not_true_eq_false,if_false,if_true,h4,h8,if_neg h7,Ob.grown,← Qct]
theorem Qgm {H:List Ob} {s:List Nat} {pv:Value} {ps:List (List Nat)} (ls:s.length = 32) (xs:∀ y ∈ s,y < 256) (hp:Args H pv ps) (hn:ps.length ≤ 1000) (hb:ps.flatten.length < 2 ^ 48) :
  ∃ l,Vl T 8 [.agg (u8s s).toArray,pv] H = some (.agg (u8s (Hm s ps.flatten)).toArray,H ++ l,[]):=by
 have hz:Qb 32 (Value.int .u8 0) = u8s (dig 256 32 0):=rfl
 have lz:(dig 256 32 0).length = 32:=rfl
 have hz64:=R7
 have lz64:(Qb 64 0).length = 64:=Zi
 have hh:=Qiq ls xs
 have l1:=Rj s
 have l2:=Qcg s
 have l3:(scL s ++ pfL s).length = 64:=by rw [Zn,l1,l2]
 have x3:∀ y ∈ scL s ++ pfL s,y < 256:=fun y hy => (Kf.1 hy).elim (Qf3 s y) (Qxa s y)
 obtain ⟨B,hB,rB⟩:=Qk8
 obtain ⟨P,hP,rP⟩:=G9 rB (Rj s) (Qf3 s)
 have hE:=Qaa rP
 rw [show enc (Yl (num 256 (scL s)) We) = Ug s from rfl] at hE
 have lA:=Dm s
 obtain ⟨G1,hG1⟩:∃ X,X = H ++ [(⟨u8s s,true,true,true,1⟩:Ob),⟨u8s (Qb 64 0),true,true,true,1⟩,⟨u8s (scL s ++ pfL s),true,true,true,1⟩,⟨u8s (Ug s),true,true,true,1⟩,⟨[.slice (some ⟨H.length + 2,32,none⟩) 32 32],true,true,true,1⟩]:=⟨_,rfl⟩
 have lG1:G1.length = H.length + 5:=by rw [hG1]; simp
 have gz:G1[H.length + 1]? = some ⟨u8s (Qb 64 0),true,true,true,1⟩:=by rw [hG1,Ze (by omega),X0]; rfl
 have gh:G1[H.length + 2]? = some ⟨u8s (scL s ++ pfL s),true,true,true,1⟩:=by rw [hG1,Ze (by omega),X0]; rfl
 have gA:G1[H.length + 3]? = some ⟨u8s (Ug s),true,true,true,1⟩:=by rw [hG1,Ze (by omega),X0]; rfl
 have ga:G1[H.length + 4]? = some ⟨[.slice (some ⟨H.length + 2,32,none⟩) 32 32],true,true,true,1⟩:=by rw [hG1,Ze (by omega),X0]; rfl
 have hp1:Args G1 pv ps:=by rw [hG1]; exact hp.app
 have part1:HPart (LtN G1.length) G1 (.slice (some ⟨H.length + 2,32,none⟩) 32 32) (pfL s):=by
  have:=HPart.arr (n:=G1.length) (off:=32) (m:=32) (c:=32) (by omega) gh x3 (by rw [l3]; decide) (by decide)
  rwa [Wk (by omega),Wc (by omega),Q2,Zq (by omega)] at this
 obtain ⟨v1,k1,ha1,hA1⟩:=Rb (n:=1) ga rfl (.cons part1 .nil) hp1 (by decide) hn
 obtain ⟨k2,hr⟩:=Da hA1 (by rw [V2,Ki,Ys,Kw,Zn,l2]; omega)
 rw [V2,Ki,Ys,Kw,show Qb2 (pfL s ++ ps.flatten) = rL s ps.flatten from rfl] at hr
 have lr:(rL s ps.flatten).length = 32:=T0
 obtain ⟨G2,hG2⟩:∃ X,X = G1 ++ (k1 ++ k2):=⟨_,rfl⟩
 have lG2:G1.length ≤ G2.length:=by rw [hG2]; simp
 obtain ⟨P2,hP2,rP2⟩:=G9 rB lr Qce
 have hE2:=Qaa rP2
 rw [show enc (Yl (num 256 (rL s ps.flatten)) We) = frL s ps.flatten from rfl] at hE2
 have lF:=Rm s ps.flatten
 obtain ⟨G3,hG3⟩:∃ X,X = G2 ++ [(⟨u8s (rL s ps.flatten),true,true,true,1⟩:Ob),⟨u8s (frL s ps.flatten),true,true,true,1⟩,⟨[.slice (some ⟨G2.length + 1,0,none⟩) 32 32,.slice (some ⟨H.length + 3,0,none⟩) 32 32],true,true,true,1⟩]:=⟨_,rfl⟩
 have lG3:G3.length = G2.length + 3:=by rw [hG3]; simp
 have up13:∀ i,i < G1.length → G3[i]? = G1[i]? := fun i hi => by rw [hG3,Qe (by omega),hG2,Qe hi]
 have hr3:G3[G2.length]? = some ⟨u8s (rL s ps.flatten),true,true,true,1⟩:=by rw [hG3,Ze (Q8 _),V8]; rfl
 have hf3:G3[G2.length + 1]? = some ⟨u8s (frL s ps.flatten),true,true,true,1⟩:=by rw [hG3,Ze (by omega),X0]; rfl
 have harr3:G3[G2.length + 2]? = some ⟨[.slice (some ⟨G2.length + 1,0,none⟩) 32 32,.slice (some ⟨H.length + 3,0,none⟩) 32 32],true,true,true,1⟩:=by rw [hG3,Ze (by omega),X0]; rfl
 have hp3:Args G3 pv ps:=hp1.ext up13 (by omega)
 have partF:HPart (LtN G3.length) G3 (.slice (some ⟨G2.length + 1,0,none⟩) 32 32) (frL s ps.flatten):=by
  have:=HPart.whole (n:=G3.length) (c:=32) (by omega) hf3 (Qgs s _) (by rw [lF]; decide)
  rwa [lF] at this
 have partA:HPart (LtN G3.length) G3 (.slice (some ⟨H.length + 3,0,none⟩) 32 32) (Ug s):=by
  have:=HPart.whole (n:=G3.length) (c:=32) (by omega) ((up13 _ (by omega)).trans gA) (Qcf s) (by rw [lA]; decide)
  rwa [lA] at this
 obtain ⟨v3,k3,ha3,hA3⟩:=Rb (n:=2) harr3 rfl (.cons partF (.cons partA .nil)) hp3 (by decide) hn
 obtain ⟨k4,hk⟩:=Da hA3 (by rw [V2,Ki,Ki,Ys,Kw,Zn,Zn,lF,lA]; omega)
 rw [V2,Ki,Ki,Ys,Kw,X1,show Qb2 (frL s ps.flatten ++ (Ug s ++ ps.flatten)) = chL (frL s ps.flatten) (Ug s) ps.flatten from rfl] at hk
 have lk:(chL (frL s ps.flatten) (Ug s) ps.flatten).length = 32:=T0
 obtain ⟨G4,hG4⟩:∃ X,X = G3 ++ (k3 ++ k4):=⟨_,rfl⟩
 have lG4:G3.length ≤ G4.length:=by rw [hG4]; simp
 have up34:∀ i,i < G3.length → G4[i]? = G3[i]? := fun i hi => by rw [hG4,Qe hi]
 obtain ⟨q,hm⟩:=Qm7 lk l1 lr Qce (Qf3 s) Qce
 have hmv:=T9 hm
 rw [show mA (chL (frL s ps.flatten) (Ug s) ps.flatten) (scL s) (rL s ps.flatten) = bkL s ps.flatten from rfl] at hmv
 have lB:=Hz s ps.flatten
 obtain ⟨G5,hG5⟩:∃ X,X = G4 ++ [(⟨u8s (chL (frL s ps.flatten) (Ug s) ps.flatten),true,true,true,1⟩:Ob),⟨u8s (bkL s ps.flatten),true,true,true,1⟩]:=⟨_,rfl⟩
 have lG5:G5.length = G4.length + 2:=by rw [hG5]; simp
 have hf5:G5[G2.length + 1]? = some ⟨u8s (frL s ps.flatten),true,true,true,1⟩:=by rw [hG5,Qe (by omega),up34 _ (by omega)]; exact hf3
 have hb5:G5[G4.length + 1]? = some ⟨u8s (bkL s ps.flatten),true,true,true,1⟩:=by rw [hG5,Ze (by omega),X0]; rfl
 have hap:=Qoa (c:=32) hf5 hb5 lF lB (by decide) (by decide)
 rw [show frL s ps.flatten ++ bkL s ps.flatten = Hm s ps.flatten from rfl] at hap
 have lS:=Qcy s ps.flatten
 have g4h:∀ l:List Ob,(G4 ++ l)[H.length + 2]? = some ⟨u8s (scL s ++ pfL s),true,true,true,1⟩:=fun l => by rw [Qe (by omega),up34 _ (by omega),up13 _ (by omega)]; exact gh
 have g4r:∀ l:List Ob,(G4 ++ l)[G2.length]? = some ⟨u8s (rL s ps.flatten),true,true,true,1⟩:=fun l => by rw [Qe (by omega),up34 _ (by omega)]; exact hr3
 have g5z:∀ l:List Ob,(G5 ++ l)[H.length + 1]? = some ⟨u8s (Qb 64 0),true,true,true,1⟩:=fun l => by rw [Qe (by omega),hG5,Qe (by omega),up34 _ (by omega),up13 _ (by omega)]; exact gz
 have hfr:∀ i,i < H.length → ((G5 ++ [(⟨u8s (Hm s ps.flatten),true,true,false,1⟩:Ob)]).set (H.length + 1) (⟨u8s (Hm s ps.flatten),true,true,true,1⟩:Ob))[i]? = H[i]? := fun i hi => by
  rw [Xc (by omega),Qe (by omega),hG5,Qe (by omega),up34 _ (by omega),up13 _ (by omega),hG1,Qe hi]
 obtain ⟨l,hl⟩:=Ma (H:=H) (by rw [X3,Zn]; omega) hfr
 refine ⟨l,?_⟩
 rw [← hl]
 have g6:∀ o:Ob,((G5 ++ [(⟨u8s (Hm s ps.flatten),true,true,false,1⟩:Ob)]).set (H.length + 1) o)[H.length + 1]? = some o:=fun o => Km (by rw [Zn]; omega)
 have f1:fillL [Value.slice none 0 0] [(0,1,.slice (some ⟨H.length + 2,32,none⟩) 32 32)] = some [.slice (some ⟨H.length + 2,32,none⟩) 32 32]:=rfl
 have f2:fillL [Value.slice none 0 0,.slice none 0 0] [(0,1,.slice (some ⟨G2.length + 1,0,none⟩) 32 32),(1,1,.slice (some ⟨H.length + 3,0,none⟩) 32 32)] = some [.slice (some ⟨G2.length + 1,0,none⟩) 32 32,.slice (some ⟨H.length + 3,0,none⟩) 32 32]:=rfl
 have t1:Wz 32 (u8s (scL s ++ pfL s)) = u8s (scL s):=by rw [Dj,Yv (by omega),Zq (by omega)]
 have F1:H ++ [(⟨u8s s,true,true,true,1⟩:Ob),⟨u8s (Qb 64 0),true,true,true,1⟩,⟨u8s (scL s ++ pfL s),true,true,true,1⟩,⟨u8s (Ug s),true,true,true,1⟩,⟨[.slice (some ⟨H.length + 2,32,none⟩) 32 32],true,true,true,1⟩] = G1:=hG1.symm
 have F2:G1 ++ (k1 ++ k2) = G2:=hG2.symm
 have F3:G2 ++ [(⟨u8s (rL s ps.flatten),true,true,true,1⟩:Ob),⟨u8s (frL s ps.flatten),true,true,true,1⟩,⟨[.slice (some ⟨G2.length + 1,0,none⟩) 32 32,.slice (some ⟨H.length + 3,0,none⟩) 32 32],true,true,true,1⟩] = G3:=hG3.symm
 have F4:G3 ++ (k3 ++ k4) = G4:=hG4.symm
 have F5:G4 ++ [(⟨u8s (chL (frL s ps.flatten) (Ug s) ps.flatten),true,true,true,1⟩:Ob),⟨u8s (bkL s ps.flatten),true,true,true,1⟩] = G5:=hG5.symm
 have im1:Xk H.length [] [G2.length] = []:=Y2 (by simp; omega)
 have im2:Xk H.length [] [G2.length + 1] = []:=Y2 (by simp; omega)
 have im3:Xk H.length [] [G4.length] = []:=Y2 (by simp; omega)
 have im4:Xk H.length [] [G4.length + 1] = []:=Y2 (by simp; omega)
 have ls1:[Value.slice (some ⟨H.length + 2,32,none⟩) 32 32].length = 1:=rfl
 clear hG1 hG2 hG3 hG4 hG5 hl hfr hm hA1 hA3 partF partA part1
 rw [X1] at hr hk
 generalize Hm s ps.flatten = S at *
 generalize bkL s ps.flatten = Bk at *
 generalize chL (frL s ps.flatten) (Ug s) ps.flatten = Ck at *
 generalize frL s ps.flatten = Fr at *
 generalize rL s ps.flatten = R at *
 generalize Ug s = A at *
 generalize scL s ++ pfL s = Hv at *
 generalize scL s = Sc at *
 generalize dig 256 32 0 = Z at *
 generalize Qb 64 0 = Z64 at *
 rw [J3 (fn:=Qvi) rfl]
 simp only [Qvi,↓Ke,J2,quiet,cF,↓pF,reduceCtorEq,Qc,Qp,Ja,Je,J5,Jd,Zy,Q7,Zf,Q4,Zc,Zl,Zk,↓Kn,↓Kd,↓K4,↓K7,↓K5,↓K6,cL,Qo,Qn,Q1,Q0,Qx,Qs,Qr,Qz,Qd,Q5,Q6,Qy,Qj,Qi,Qh,Qw,Qv,Qu,Qm,Ql,cJ,hz,hz64,hh,hB,hP,hE,f1,F1,ha1,hr,F2,hP2,hE2,f2,F3,ha3,hk,F4,g4h,g4r,t1,hmv,F5,hap,g5z,g6,im1,im2,im3,im4,Kv,Vf,Yq,Vg,Ky,ls,lz,lz64,l1,l3,lA,lr,lF,lk,lB,lS,Vm,Zi,Yt]
end Go.Ev.Ytgacigcbglflkaa
set_option linter.unusedSimpArgs false
set_option linter.unusedVariables false
namespace Go.Ev.Ytgacigcbglflkaa
open Go Go.Ev
attribute [local congr] Um Uw Uj Ux W1
set_option maxRecDepth 100000
def Qcm (pub front back m:List Nat) (c:Int):Prop :=
 ((∀ A,enc A ≠ pub) ∧ c = 60) ∨ ∃ A,enc A = pub ∧
  (((Yl 8 A = U0 ∨ ¬ num 256 back < ell) ∧ c = 70) ∨ (Yl 8 A ≠ U0 ∧ num 256 back < ell ∧
   (((∀ R,enc R ≠ front) ∧ c = 70) ∨ ∃ R,enc R = front ∧ c = if Uf (Yl (num 256 back) We) (Yl (num 256 (chL front pub m)) A.neg) = R then 0 else 70)))
theorem Qor {k l:List Nat} (lk:k.length = 32) (ll:l.length = 32):vEq (some (Qb 32 true)) true (.agg (u8s k).toArray) (.agg (u8s l).toArray) = some (.bool (!(k == l))):=by
 rw [Qhe,B4 lk ll]
 rfl
theorem Qdr {H:List Ob} {pub front back:List Nat} {pv:Value} {ps:List (List Nat)} (lp:pub.length = 32) (xp:∀ y ∈ pub,y < 256) (lf:front.length = 32) (xf:∀ y ∈ front,y < 256) (lb:back.length = 32) (xb:∀ y ∈ back,y < 256) (hp:Args H pv ps) (hn:ps.length ≤ 1000) (hb:ps.flatten.length < 2 ^ 48) :
  ∃ l c,Vl T 9 [.agg (u8s pub).toArray,.agg (u8s (front ++ back)).toArray,pv] H = some (.int .i64 c,H ++ l,[]) ∧ Qcm pub front back ps.flatten c:=by
 have hz:Qb 32 (Value.int .u8 0) = u8s (dig 256 32 0):=rfl
 have lz:(dig 256 32 0).length = 32:=rfl
 have hz20:∃ O,Qb 20 (Value.int .u64 0) = ns .u64 O ∧ O.length = 20:=⟨Qb 20 0,rfl,rfl⟩
 obtain ⟨O,hz20,lO⟩:=hz20
 have rft:∀ (r:List Nat) (c:Int),rf (Value.tuple #[eV r,.int .i64 c]) = true:=fun r c => Qf4 (a:=eV r) (b := .int .i64 c) (Yt r) rfl
 have lS:(front ++ back).length = 64:=by rw [Zn,lf,lb]
 have t1:Wz 32 (u8s (front ++ back)) = u8s front:=by rw [Dj,Yv (by omega),Zq (by omega)]
 have t2:Wz 32 (B1 32 (u8s (front ++ back))) = u8s back:=by rw [Qhh,Wk (by omega),Wc (by omega),Q2,Dj,Zq (by omega)]
 rcases Qi3 lp xp with ⟨A,a,hA,rA,eA⟩ | ⟨A,hA,lA,hno⟩
 ·have p1:=rA.len
  have ht:=Qwj rA
  obtain ⟨qc,hcn⟩:=Qgy lb xb
  have hcv:=T9 hcn
  unfold Qnz at hA
  by_cases htiny:Yl 8 a = U0
  ·rw [decide_eq_true htiny] at ht
   have hx:∃ l,Vl T 9 [.agg (u8s pub).toArray,.agg (u8s (front ++ back)).toArray,pv] H = some (.int .i64 70,H ++ l,[]):=by
    generalize front ++ back = S at *
    generalize dig 256 32 0 = Z at *
    apply J4
    rw [J3 (fn:=Qaq) rfl]
    simp only [Qaq,↓Ke,J2,quiet,cF,↓pF,reduceCtorEq,Qc,Qp,Ja,Je,J5,Jd,Zy,Q7,Zf,Q4,Zc,Zl,Zk,↓Kn,↓Kd,↓K4,↓K7,↓K5,↓K6,cL,Qo,Qn,Q1,Q0,Qx,Qs,Qr,Qz,Qd,Q5,Q6,Qy,Qj,Qi,Qh,Qw,Qv,Qu,Qm,Ql,cJ,hz,hz20,hA,t1,t2,ht, Kv,Vf,Yq,Vg,K3,Ky,lp,lf,lb,lS,lz,lO,p1,Vm,Zi,rft,Yt]
    rfl
   obtain ⟨l,hx⟩:=hx
   exact ⟨l,70,hx,.inr ⟨a,eA,.inl ⟨.inl htiny,rfl⟩⟩⟩
  ·rw [decide_eq_false htiny] at ht
   by_cases hc:num 256 back < ell
   ·rw [decide_eq_true hc] at hcv
    rcases Qi3 lf xf with ⟨R,r,hR,rR,eR⟩ | ⟨R,hR,lR,hnR⟩
    ·have p2:=rR.len
     unfold Qnz at hR
     obtain ⟨G1,hG1⟩:∃ X,X = H ++ [(⟨u8s pub,true,true,true,1⟩:Ob),⟨u8s (front ++ back),true,true,true,1⟩,⟨ns .u64 A,true,true,true,1⟩,⟨u8s front,true,true,true,1⟩,⟨u8s back,true,true,true,1⟩,⟨ns .u64 R,true,true,true,1⟩,⟨[.slice (some ⟨H.length + 3,0,none⟩) 32 32,.slice (some ⟨H.length,0,none⟩) 32 32],true,true,true,1⟩]:=⟨_,rfl⟩
     have lG1:G1.length = H.length + 7:=by rw [hG1]; simp
     have gp:G1[H.length]? = some ⟨u8s pub,true,true,true,1⟩:=by rw [hG1,Ze (by omega),V8]; rfl
     have gA:G1[H.length + 2]? = some ⟨ns .u64 A,true,true,true,1⟩:=by rw [hG1,Ze (by omega),X0]; rfl
     have gf:G1[H.length + 3]? = some ⟨u8s front,true,true,true,1⟩:=by rw [hG1,Ze (by omega),X0]; rfl
     have gb:G1[H.length + 4]? = some ⟨u8s back,true,true,true,1⟩:=by rw [hG1,Ze (by omega),X0]; rfl
     have ga:G1[H.length + 6]? = some ⟨[.slice (some ⟨H.length + 3,0,none⟩) 32 32,.slice (some ⟨H.length,0,none⟩) 32 32],true,true,true,1⟩:=by rw [hG1,Ze (by omega),X0]; rfl
     have hp1:Args G1 pv ps:=by rw [hG1]; exact hp.app
     have partF:HPart (LtN G1.length) G1 (.slice (some ⟨H.length + 3,0,none⟩) 32 32) front:=by
      have:=HPart.whole (n:=G1.length) (c:=32) (by omega) gf xf (by rw [lf]; decide)
      rwa [lf] at this
     have partP:HPart (LtN G1.length) G1 (.slice (some ⟨H.length,0,none⟩) 32 32) pub:=by
      have:=HPart.whole (n:=G1.length) (c:=32) (by omega) gp xp (by rw [lp]; decide)
      rwa [lp] at this
     obtain ⟨v1,k1,ha1,hA1⟩:=Rb (n:=2) ga rfl (.cons partF (.cons partP .nil)) hp1 (by decide) hn
     obtain ⟨k2,hk⟩:=Da hA1 (by rw [V2,Ki,Ki,Ys,Kw,Zn,Zn,lf,lp]; omega)
     rw [V2,Ki,Ki,Ys,Kw,X1,show Qb2 (front ++ (pub ++ ps.flatten)) = chL front pub ps.flatten from rfl,X1] at hk
     have lk:(chL front pub ps.flatten).length = 32:=T0
     obtain ⟨G2,hG2⟩:∃ X,X = G1 ++ (k1 ++ k2):=⟨_,rfl⟩
     have lG2:G1.length ≤ G2.length:=by rw [hG2]; simp
     have up:∀ i,i < G1.length → ∀ l:List Ob,(G2 ++ l)[i]? = G1[i]? := fun i hi l => by rw [Qe (by omega),hG2,Qe hi]
     obtain ⟨B,hB,rB⟩:=Qk8
     obtain ⟨X,hX,rX⟩:=G9 rB lb xb
     obtain ⟨NA,hNA,rNA⟩:=Qxl rA
     obtain ⟨Y,hY,rY⟩:=G9 rNA lk Qce
     obtain ⟨S,dS,hS,ES⟩:=Qu5 (H:=G2 ++ [(⟨u8s (chL front pub ps.flatten),true,true,true,1⟩:Ob),⟨ns .u64 [X,Y].flatten,true,true,true,1⟩]) (id:=G2.length + 1) (n:=2) (xs:=[X,Y]) rfl (by decide) (.cons rX (.cons rY .nil)) (by rw [Ze (by omega),X0]; rfl)
     simp only [Yf,Wo,Q3,X1,Q2] at hS
     rw [fold2] at ES
     have hE:=Qaa ES
     have lE:=Qab (Uf (Yl (num 256 back) We) (Yl (num 256 (chL front pub ps.flatten)) a.neg))
     have g1:=Qx3 rX rY
     have q1:=rX.len
     have q2:=rY.len
     have q3:=ES.len
     have hq:=Qor lE lf
     have hd:(enc (Uf (Yl (num 256 back) We) (Yl (num 256 (chL front pub ps.flatten)) a.neg)) == front) = decide (Uf (Yl (num 256 back) We) (Yl (num 256 (chL front pub ps.flatten)) a.neg) = r):=by rw [← eR,Ql5]
     rw [hd] at hq
     have uA:=fun l => (up _ (by omega) l).trans gA
     have uf:=fun l => (up _ (by omega) l).trans gf
     have ub:=fun l => (up _ (by omega) l).trans gb
     have f2:fillL [Value.slice none 0 0,.slice none 0 0] [(0,1,.slice (some ⟨H.length + 3,0,none⟩) 32 32),(1,1,.slice (some ⟨H.length,0,none⟩) 32 32)] = some [.slice (some ⟨H.length + 3,0,none⟩) 32 32,.slice (some ⟨H.length,0,none⟩) 32 32]:=rfl
     have F1:H ++ [(⟨u8s pub,true,true,true,1⟩:Ob),⟨u8s (front ++ back),true,true,true,1⟩,⟨ns .u64 A,true,true,true,1⟩,⟨u8s front,true,true,true,1⟩,⟨u8s back,true,true,true,1⟩,⟨ns .u64 R,true,true,true,1⟩,⟨[.slice (some ⟨H.length + 3,0,none⟩) 32 32,.slice (some ⟨H.length,0,none⟩) 32 32],true,true,true,1⟩] = G1:=hG1.symm
     have F2:G1 ++ (k1 ++ k2) = G2:=hG2.symm
     have im1:Xk H.length [] [G2.length] = []:=Y2 (by simp; omega)
     have hfr:∀ l:List Ob,∃ l',G2 ++ l = H ++ l':=fun l => ⟨_,by rw [hG2,hG1,X1,X1]⟩
     by_cases hfin:Uf (Yl (num 256 back) We) (Yl (num 256 (chL front pub ps.flatten)) a.neg) = r
     ·rw [decide_eq_true hfin] at hq
      have hx:∃ l,Vl T 9 [.agg (u8s pub).toArray,.agg (u8s (front ++ back)).toArray,pv] H = some (.int .i64 0,G2 ++ l,[]):=by
       clear hG1 hG2 hd up hfr
       generalize front ++ back = SG at *
       generalize dig 256 32 0 = Z at *
       generalize chL front pub ps.flatten = Ck at *
       generalize enc (Uf (Yl (num 256 back) We) (Yl (num 256 Ck) a.neg)) = E at *
       apply J4
       rw [J3 (fn:=Qaq) rfl]
       simp only [Qaq,↓Ke,J2,quiet,cF,↓pF,reduceCtorEq,Qc,Qp,Ja,Je,J5,Jd,Zy,Q7,Zf,Q4,Zc,Zl,Zk,↓Kn,↓Kd,↓K4,↓K7,↓K5,↓K6,cL,Qo,Qn,Q1,Q0,Qx,Qs,Qr,Qz,Qd,Q5,Q6,Qy,Qj,Qi,Qh,Qw,Qv,Qu,Qm,Ql,cJ,hz,hz20,hA,t1,t2,ht,hcv,hR,f2,F1,ha1,hk,F2,im1,hB,hX,hNA,hY,g1,hS,hE,hq,uA,uf,ub,Kv,Vf,Yq,Vg,K3,Ky,lp,lf,lb,lS,lz,lO,lk,lE,p1,p2,q1,q2,q3,Vm,Zi,rft,Yt]
       rfl
      obtain ⟨l,hx⟩:=hx
      obtain ⟨l',hl'⟩:=hfr l
      rw [hl'] at hx
      exact ⟨l',0,hx,.inr ⟨a,eA,.inr ⟨htiny,hc,.inr ⟨r,eR,by rw [if_pos hfin]⟩⟩⟩⟩
     ·rw [decide_eq_false hfin] at hq
      have hx:∃ l,Vl T 9 [.agg (u8s pub).toArray,.agg (u8s (front ++ back)).toArray,pv] H = some (.int .i64 70,G2 ++ l,[]):=by
       clear hG1 hG2 hd up hfr
       generalize front ++ back = SG at *
       generalize dig 256 32 0 = Z at *
       generalize chL front pub ps.flatten = Ck at *
       generalize enc (Uf (Yl (num 256 back) We) (Yl (num 256 Ck) a.neg)) = E at *
       apply J4
       rw [J3 (fn:=Qaq) rfl]
       simp only [Qaq,↓Ke,J2,quiet,cF,↓pF,reduceCtorEq,Qc,Qp,Ja,Je,J5,Jd,Zy,Q7,Zf,Q4,Zc,Zl,Zk,↓Kn,↓Kd,↓K4,↓K7,↓K5,↓K6,cL,Qo,Qn,Q1,Q0,Qx,Qs,Qr,Qz,Qd,Q5,Q6,Qy,Qj,Qi,Qh,Qw,Qv,Qu,Qm,Ql,cJ,hz,hz20,hA,t1,t2,ht,hcv,hR,f2,F1,ha1,hk,F2,im1,hB,hX,hNA,hY,g1,hS,hE,hq,uA,uf,ub,Kv,Vf,Yq,Vg,K3,Ky,lp,lf,lb,lS,lz,lO,lk,lE,p1,p2,q1,q2,q3,Vm,Zi,rft,Yt]
       rfl
      obtain ⟨l,hx⟩:=hx
      obtain ⟨l',hl'⟩:=hfr l
      rw [hl'] at hx
      exact ⟨l',70,hx,.inr ⟨a,eA,.inr ⟨htiny,hc,.inr ⟨r,eR,by rw [if_neg hfin]⟩⟩⟩⟩
    ·unfold Qnz at hR
     have hx:∃ l,Vl T 9 [.agg (u8s pub).toArray,.agg (u8s (front ++ back)).toArray,pv] H = some (.int .i64 70,H ++ l,[]):=by
      generalize front ++ back = S at *
      generalize dig 256 32 0 = Z at *
      apply J4
      rw [J3 (fn:=Qaq) rfl]
      simp only [Qaq,↓Ke,J2,quiet,cF,↓pF,reduceCtorEq,Qc,Qp,Ja,Je,J5,Jd,Zy,Q7,Zf,Q4,Zc,Zl,Zk,↓Kn,↓Kd,↓K4,↓K7,↓K5,↓K6,cL,Qo,Qn,Q1,Q0,Qx,Qs,Qr,Qz,Qd,Q5,Q6,Qy,Qj,Qi,Qh,Qw,Qv,Qu,Qm,Ql,cJ,hz,hz20,hA,t1,t2,ht,hcv,hR,lR,Kv,Vf,Yq,Vg,K3,Ky,lp,lf,lb,lS,lz,lO,p1,Vm,Zi,rft,Yt]
      rfl
     obtain ⟨l,hx⟩:=hx
     exact ⟨l,70,hx,.inr ⟨a,eA,.inr ⟨htiny,hc,.inl ⟨hnR,rfl⟩⟩⟩⟩
   ·rw [decide_eq_false hc] at hcv
    have hx:∃ l,Vl T 9 [.agg (u8s pub).toArray,.agg (u8s (front ++ back)).toArray,pv] H = some (.int .i64 70,H ++ l,[]):=by
     generalize front ++ back = S at *
     generalize dig 256 32 0 = Z at *
     apply J4
     rw [J3 (fn:=Qaq) rfl]
     simp only [Qaq,↓Ke,J2,quiet,cF,↓pF,reduceCtorEq,Qc,Qp,Ja,Je,J5,Jd,Zy,Q7,Zf,Q4,Zc,Zl,Zk,↓Kn,↓Kd,↓K4,↓K7,↓K5,↓K6,cL,Qo,Qn,Q1,Q0,Qx,Qs,Qr,Qz,Qd,Q5,Q6,Qy,Qj,Qi,Qh,Qw,Qv,Qu,Qm,Ql,cJ,hz,hz20,hA,t1,t2,ht,hcv,Kv,Vf,Yq,Vg,K3,Ky,lp,lf,lb,lS,lz,lO,p1,Vm,Zi,rft,Yt]
     rfl
    obtain ⟨l,hx⟩:=hx
    exact ⟨l,70,hx,.inr ⟨a,eA,.inl ⟨.inr hc,rfl⟩⟩⟩
 ·unfold Qnz at hA
  have hx:Vl T 9 [.agg (u8s pub).toArray,.agg (u8s (front ++ back)).toArray,pv] H = some (.int .i64 60,H ++ [⟨u8s pub,true,true,true,1⟩,⟨u8s (front ++ back),true,true,true,1⟩,⟨ns .u64 A,true,true,true,1⟩],[]):=by
   generalize front ++ back = S at *
   generalize dig 256 32 0 = Z at *
   rw [J3 (fn:=Qaq) rfl]
   simp only [Qaq,↓Ke,J2,quiet,cF,↓pF,reduceCtorEq,Qc,Qp,Ja,Je,J5,Jd,Zy,Q7,Zf,Q4,Zc,Zl,Zk,↓Kn,↓Kd,↓K4,↓K7,↓K5,↓K6,cL,Qo,Qn,Q1,Q0,Qx,Qs,Qr,Qz,Qd,Q5,Q6,Qy,Qj,Qi,Qh,Qw,Qv,Qu,Qm,Ql,cJ,hz,hz20,hA,t1,t2,Kv,Vf,Yq,Vg,K3,Ky,lp,lS,lz,lO,lA,Vm,Zi,rft,Yt]
  exact ⟨_,60,hx,.inl ⟨hno,rfl⟩⟩
end Go.Ev.Ytgacigcbglflkaa
set_option linter.unusedSimpArgs false
set_option linter.unusedVariables false
namespace Go.Ev.Ytgacigcbglflkaa
open Go Go.Ev
open Go.NT (Pr)
set_option maxRecDepth 100000
theorem lp1:Pr 531581:=Go.NT.Ut (f:=729) (by decide) (by decide) (by decide +kernel)
theorem lp2:Pr 1224481:=Go.NT.Ut (f:=1106) (by decide) (by decide) (by decide +kernel)
theorem lp3:Pr 1257559732178653:=Go.NT.Dt (q:=531581) (k:=2365697292) (a:=2) (q2:=1224481) (k2:=1027014492) (a2:=2) (f:=51) lp1 lp2 (by decide +kernel)
theorem lp4:Pr 4434155615661930479:=Go.NT.Ge (q:=1257559732178653) (k:=3526) (a:=2) (f:=62) lp3 (by decide +kernel)
theorem lp5:Pr 172054593956031949258510691:=Go.NT.Ge (q:=4434155615661930479) (k:=38802110) (a:=2) (f:=88) lp4 (by decide +kernel)
theorem lp6:Pr 19757330305831588566944191468367130476339:=Go.NT.Ge (q:=172054593956031949258510691) (k:=114831751082918) (a:=2) (f:=134) lp5 (by decide +kernel)
theorem lp7:Pr 276602624281642239937218680557139826668747:=Go.NT.Ge (q:=19757330305831588566944191468367130476339) (k:=14) (a:=2) (f:=138) lp6 (by decide +kernel)
theorem Qfr:Pr ell:=Go.NT.Ge (q:=276602624281642239937218680557139826668747) (k:=26163907866482859529727157400808004) (a:=2) (f:=253) lp7 (by decide +kernel)
theorem Qu1:We ≠ U0:=fun h => Qk1 (by rw [h,Qfa])
theorem Qmt (p:Go.Cv.Pt Go.Fp.P Go.Fp.d):Yl 1 p = p:=Go.Cv.mul_one Go.Fp.fld p
theorem Qfe {n:Nat} (h:Yl n We = U0):ell ∣ n:=by
 refine Classical.byContradiction fun hn => ?_
 have hf:=Go.NT.Qbe Qfr hn
 apply Qu1
 have e1:ell - 1 = (ell - 2) + 1:=by decide +kernel
 have h2:n ^ (ell - 1) = n ^ (ell - 2) * n:=by rw [e1,K8]
 have h3:Yl (n ^ (ell - 1)) We = U0:=by rw [h2,Mv,h,Qfa]
 rw [← Bv By,hf,Qmt] at h3
 exact h3
theorem Qbt {p q r:Go.Cv.Pt Go.Fp.P Go.Fp.d} (h:Uf p q = Uf p r):q = r:=Go.Cv.add_left_cancel Go.Fp.fld h
theorem Qjb {a b:Nat} (ha:a < ell) (hb:b < ell) (h:Yl a We = Yl b We):a = b:=by
 have key:∀ {x y:Nat},x ≤ y → y < ell → Yl x We = Yl y We → x = y:=by
  intro x y hxy hy hh
  have e:y = x + (y - x):=by omega
  rw [e,G6] at hh
  have h1:Yl (y - x) We = U0:=by
   refine (Qbt (p:=Yl x We) ?_).symm
   rw [Th]; exact hh
  obtain ⟨k,hk⟩:=Qfe h1
  rcases Yb k with h0 | h0
  ·rw [h0,Qg3] at hk; omega
  ·have:=U4 ell h0
   omega
 rcases Nat.le_total a b with hab | hab
 ·exact key hab hb h
 ·exact (key hab ha h.symm).symm
theorem Que (n:Nat) (h:ell ∣ 8 * n):ell ∣ n:=by
 have hc:Qyh ell 8:=Go.NT.Pr.coprime Qfr (by decide +kernel)
 exact hc.dvd_of_dvd_mul_left h
theorem Qn2 {a:List Nat} {x y:Nat} (la:a.length = 32) (xa:∀ z ∈ a,z < 256) (hx:a[0]? = some x) (hy:a[31]? = some y):num 256 (U2 a x y) % 8 = 0 ∧ 2 ^ 254 ≤ num 256 (U2 a x y) ∧ num 256 (U2 a x y) < 2 ^ 255:=by
 have hx':=xa x (Zt hx)
 have hy':=xa y (Zt hy)
 obtain ⟨t,ht⟩:∃ t,a = x :: t:=by
  cases a with
  | nil => simp at hx
  | cons z t => simp at hx; subst hx; exact ⟨t,rfl⟩
 have e8:x &&& 248 = x / 8 * 8:=(by decide +kernel:∀ v,v < 256 → v &&& 248 = v / 8 * 8) x hx'
 have e64:(y &&& 127) ||| 64 = y % 64 + 64:=(by decide +kernel:∀ v,v < 256 → (v &&& 127) ||| 64 = v % 64 + 64) y hy'
 have h1:=Hr (B:=256) (x &&& 248) hx
 have hy2:(a.set 0 (x &&& 248))[31]? = some y:=by rw [Xc (by decide)]; exact hy
 have h2:=Hr (B:=256) ((y &&& 127) ||| 64) hy2
 have hV:=num_lt xa
 rw [la] at hV
 have hg:=Gr (by decide:0 < 256) xa hy
 have hm:num 256 a % 256 = x:=by
  have:=Gr (by decide:0 < 256) xa hx
  rwa [Wn,Uz] at this
 unfold U2
 rw [e8] at h1 h2 ⊢
 rw [e64] at h2 ⊢
 have e31:(256:Nat) ^ 31 = 452312848583266388373324160190187140051835877600158453279131187530910662656:=by decide
 have e32:(256:Nat) ^ 32 = 115792089237316195423570985008687907853269984665640564039457584007913129639936:=by decide
 have e254:(2:Nat) ^ 254 = 28948022309329048855892746252171976963317496166410141009864396001978282409984:=by decide
 have e255:(2:Nat) ^ 255 = 57896044618658097711785492504343953926634992332820282019728792003956564819968:=by decide
 rw [Wn,Xb,Xb] at h1
 rw [e31] at h2 hg
 rw [e32] at hV
 rw [e254,e255]
 generalize num 256 ((a.set 0 (x / 8 * 8)).set 31 (y % 64 + 64)) = N2 at *
 generalize num 256 (a.set 0 (x / 8 * 8)) = N1 at *
 generalize num 256 a = N at *
 have hyq:N / 452312848583266388373324160190187140051835877600158453279131187530910662656 = y:=by omega
 have hdm:=Vn N 452312848583266388373324160190187140051835877600158453279131187530910662656
 rw [hyq] at hdm
 have hmlt:=Jn N (by decide:0 < 452312848583266388373324160190187140051835877600158453279131187530910662656)
 have hlow:N % 452312848583266388373324160190187140051835877600158453279131187530910662656 % 256 = x:=by omega
 generalize N % 452312848583266388373324160190187140051835877600158453279131187530910662656 = M at *
 refine ⟨?_,?_,?_⟩ <;> omega
theorem Qsg (s:List Nat):num 256 (scL s) % 8 = 0 ∧ 2 ^ 254 ≤ num 256 (scL s) ∧ num 256 (scL s) < 2 ^ 255:=by
 obtain ⟨x,g0,d0,lx⟩:=Qa0 s (i:=0) (by decide)
 obtain ⟨z,g31,d31,lz⟩:=Qa0 s (i:=31) (by decide)
 unfold scL
 rw [d0,d31]
 exact Qn2 (by rw [Ks,Gq]; rfl) (fun y hy => Qcz s y (Vd hy)) (by rw [Kt,if_pos (by decide)]; exact g0) (by rw [Kt,if_pos (by decide)]; exact g31)
theorem Qo7 (s:List Nat):¬ ell ∣ num 256 (scL s):=by
 obtain ⟨h1,h2,h3⟩:=Qsg s
 generalize num 256 (scL s) = a at *
 intro hd
 obtain ⟨k,rfl⟩:=hd
 have h7:k < 8:=Nat.lt_of_mul_lt_mul_left (a:=ell) (Uy h3 (by decide +kernel))
 have h0:0 < k:=by
  rcases Yb k with h | h
  ·rw [h,Qg3] at h2
   exact absurd h2 (by decide)
  ·exact h
 have hm:ell * k % 8 = (ell % 8) * k % 8:=by rw [Qlc]
 have he:ell % 8 = 5:=by decide +kernel
 rw [hm,he] at h1
 clear h2 h3 hm he
 omega
end Go.Ev.Ytgacigcbglflkaa
set_option linter.unusedSimpArgs false
set_option linter.unusedVariables false
namespace Go.Ev.Ytgacigcbglflkaa
open Go Go.Ev
set_option maxRecDepth 100000
def Y7:List Nat:=1 :: Qb 31 0
theorem Qe4:sha Y7 = [206,12,38,94,204,130,221,140,238,110,86,206,68,228,93,175,215,160,197,117,13,249,20,178,83,161,251,122,138,246,109,219,153,118,54,7,240,168,93,11,212,54,105,25,74,58,64,87,122,82,138,243,149,244,241,126,6,241,222,252,198,222,178,165]:=by decide +kernel
theorem Qac {p q:Go.Cv.Pt Go.Fp.P Go.Fp.d} (h:enc p = enc q):p = q:=by
 have:=Ql5 p q
 rw [h] at this
 simp at this
 exact this
theorem Qh0 (k:Nat) (p:Go.Cv.Pt Go.Fp.P Go.Fp.d):Yl k p.neg = (Yl k p).neg:=Go.Cv.mul_neg Go.Fp.fld k p
theorem Qlj {s m:List Nat} {c:Int} (h:Qcm (Ug s) (frL s m) (bkL s m) m c):c = 0:=by
 have hA:enc (Yl (num 256 (scL s)) We) = Ug s:=rfl
 have hR:enc (Yl (num 256 (rL s m)) We) = frL s m:=rfl
 have hb:num 256 (bkL s m) = (num 256 (chL (frL s m) (Ug s) m) * num 256 (scL s) + num 256 (rL s m)) % ell:=Qkn _ _ _
 have hnt:Yl 8 (Yl (num 256 (scL s)) We) ≠ U0:=fun h => Qo7 s (Que _ (Qfe (by rw [Mv]; exact h)))
 have hblt:num 256 (bkL s m) < ell:=by rw [hb]; exact Jn _ Hu
 rcases h with ⟨h,-⟩ | ⟨A,eA,h⟩
 ·exact absurd hA (h _)
 ·have e1:=Qac (eA.trans hA.symm)
  rw [e1] at h
  rcases h with h | h
  ·obtain ⟨h,-⟩:=h
   cases h with
   | inl h => exact absurd h hnt
   | inr h => exact absurd hblt h
  ·have h:=h.2.2
   rcases h with ⟨h,-⟩ | ⟨R,eR,h⟩
   ·exact absurd hR (h _)
   ·have e2:=Qac (eR.trans hR.symm)
    rw [e2] at h
    rw [h,if_pos]
    rw [hb,Bv By,G6,Mv,Qh0]
    generalize num 256 (chL (frL s m) (Ug s) m) = k
    generalize Yl k (Yl (num 256 (scL s)) We) = X
    rw [Qa4 X,Ti,Qh1,Th]
theorem Qmj {s m back m':List Nat} {c:Int} (hl:back.length = 32) (hx:∀ y ∈ back,y < 256) (h:Qcm (Ug s) (frL s m) back m' c):c = 70 ∨ (c = 0 ∧ num 256 back < ell ∧ (num 256 back + num 256 (chL (frL s m) (Ug s) m) * num 256 (scL s)) % ell = (num 256 (bkL s m) + num 256 (chL (frL s m) (Ug s) m') * num 256 (scL s)) % ell):=by
 have hA:enc (Yl (num 256 (scL s)) We) = Ug s:=rfl
 have hR:enc (Yl (num 256 (rL s m)) We) = frL s m:=rfl
 have hb:num 256 (bkL s m) = (num 256 (chL (frL s m) (Ug s) m) * num 256 (scL s) + num 256 (rL s m)) % ell:=Qkn _ _ _
 rcases h with ⟨h,-⟩ | ⟨A,eA,h⟩
 ·exact absurd hA (h _)
 ·have e1:=Qac (eA.trans hA.symm)
  rw [e1] at h
  rcases h with h | h
  ·exact .inl h.2
  ·have hc:=h.2.1
   have h:=h.2.2
   rcases h with ⟨-,h⟩ | ⟨R,eR,h⟩
   ·exact .inl h
   ·have e2:=Qac (eR.trans hR.symm)
    rw [e2] at h
    split at h
    ·rename_i hq
     right
     refine ⟨h,hc,?_⟩
     apply Qjb (Jn _ Hu) (Jn _ Hu)
     rw [Bv By,Bv By,G6,G6,hb,Bv By,G6,Mv,Mv]
     rw [Qh0] at hq
     generalize Yl (num 256 (chL (frL s m) (Ug s) m)) (Yl (num 256 (scL s)) We) = X
     generalize Yl (num 256 (chL (frL s m) (Ug s) m')) (Yl (num 256 (scL s)) We) = Y at *
     rw [← hq]
     generalize Yl (num 256 back) We = Z
     rw [Ti X,Ti Z,Qa4 Y.neg,Qh1,Th,Qa4]
    ·exact .inl h
theorem Qmi {s m m':List Nat} {c:Int} (hne:(num 256 (chL (frL s m) (Ug s) m) * num 256 (scL s)) % ell ≠ (num 256 (chL (frL s m) (Ug s) m') * num 256 (scL s)) % ell) (h:Qcm (Ug s) (frL s m) (bkL s m) m' c):c = 70:=by
 rcases Qmj (Hz s m) (Qdv s m) h with h | ⟨-,-,h⟩
 ·exact h
 ·exfalso
  apply hne
  generalize num 256 (chL (frL s m) (Ug s) m) * num 256 (scL s) = t at *
  generalize num 256 (chL (frL s m) (Ug s) m') * num 256 (scL s) = u at *
  generalize num 256 (bkL s m) = v at *
  have h1:Yl (v + t) We = Yl (v + u) We:=by rw [← Bv By,h,Bv By]
  rw [G6,G6] at h1
  have h2:=Qbt h1
  apply Qjb (Jn _ Hu) (Jn _ Hu)
  rw [Bv By,Bv By]; exact h2
theorem Qts {a:Jac} {q:Go.Cv.Pt Go.Fp.P Go.Fp.d} (r:JRep a q) {xN yN:Nat} (hx:xN < Go.Fp.P) (hy:yN < Go.Fp.P) (c1:a.x % Go.Fp.P = xN * a.z % Go.Fp.P) (c2:a.y % Go.Fp.P = yN * a.z % Go.Fp.P):enc q = dig 256 32 (yN + xN % 2 * 2 ^ 255):=by
 have d1:=Go.Fp.Qdm.2 c1
 have d2:=Go.Fp.Qdm.2 c2
 have F:=Go.Fp.fld
 rw [Go.Fp.Uh] at d1 d2
 have ex:q.x = Go.Fp.fp xN:=by
  refine F.cancel r.nz ?_
  have:=r.x
  rw [d1] at this
  generalize Go.Fp.fp a.z = z at *
  generalize Go.Fp.fp xN = u at *
  generalize q.x = w at *
  clear d1 d2 c1 c2 r
  grobner
 have ey:q.y = Go.Fp.fp yN:=by
  refine F.cancel r.nz ?_
  have:=r.y
  rw [d2] at this
  generalize Go.Fp.fp a.z = z at *
  generalize Go.Fp.fp yN = u at *
  generalize q.y = w at *
  clear d1 d2 c1 c2 r ex
  grobner
 have vx:q.x.val = xN:=by rw [ex]; exact Z6 hx
 have vy:q.y.val = yN:=by rw [ey]; exact Z6 hy
 rw [enc,Qbf,vx,vy]
def Qpo (a:Jac) (xN yN:Nat):Bool:=Nat.beq (a.x % Go.Fp.P) (xN * a.z % Go.Fp.P) && Nat.beq (a.y % Go.Fp.P) (yN * a.z % Go.Fp.P)
theorem Ql4 {f n xN yN:Nat} (hn:n < 2 ^ f) (hx:xN < Go.Fp.P) (hy:yN < Go.Fp.P) (h:Qpo (Qks Qio f n) xN yN = true):enc (Yl n We) = dig 256 32 (yN + xN % 2 * 2 ^ 255):=by
 simp only [Qpo,Vh,Nat.beq_eq] at h
 exact Qts (Qbb.mul hn) hx hy h.1 h.2
theorem Qhp:num 256 (scL Y7) = 41354757114163650016304086911142683682198188400503391378057401993857692208328:=by
 unfold scL; rw [Qe4]; decide +kernel
theorem Qmr:Ug Y7 = [206,204,21,7,220,29,221,114,149,149,28,41,8,136,240,149,173,185,4,77,27,115,214,150,230,223,6,93,104,59,212,252]:=by
 unfold Ug
 rw [Qhp,Ql4 (f:=256) (xN:=26822555233711949854380153315158647482531717314742952720223963642152101436051) (yN:=56461774818723834839721450787889437474891852695816614318545467683432985644238) (by decide) (by decide) (by decide) (by decide +kernel)]
 decide +kernel
theorem Qso:num 256 (rL Y7 [97,98]) = 7190534050387402144765361376655957038148003192940851339449226809932380300429:=by
 have h:sha (pfL Y7 ++ [97,98]) = [245,131,162,243,57,11,83,147,38,239,238,183,86,182,16,217,82,20,190,29,33,101,218,112,39,67,38,43,126,6,51,219,187,123,239,137,61,76,188,0,26,80,214,37,40,102,17,26,190,188,49,139,180,91,207,69,39,118,219,241,76,130,218,172]:=by
  unfold pfL; rw [Qe4]; decide +kernel
 unfold rL Qb2 rd
 rw [h]; decide +kernel
theorem Qq2:frL Y7 [97,98] = [134,63,78,239,9,61,234,83,110,157,208,124,146,195,3,229,241,254,201,125,3,83,36,232,178,253,110,174,138,47,113,26]:=by
 unfold frL
 rw [Qso,Ql4 (f:=256) (xN:=32550285640094647749913757797573026337242524108283111522313707369526038663284) (yN:=11960115902405820554232334576818862127346778307006478725868305158423201070982) (by decide) (by decide) (by decide) (by decide +kernel)]
 decide +kernel
theorem Qri:(num 256 (chL (frL Y7 [97,98]) (Ug Y7) [97,98]) * num 256 (scL Y7)) % ell ≠ (num 256 (chL (frL Y7 [97,98]) (Ug Y7) [97,99]) * num 256 (scL Y7)) % ell:=by
 rw [Qq2,Qmr,Qhp]
 have h1:num 256 (chL [134,63,78,239,9,61,234,83,110,157,208,124,146,195,3,229,241,254,201,125,3,83,36,232,178,253,110,174,138,47,113,26] [206,204,21,7,220,29,221,114,149,149,28,41,8,136,240,149,173,185,4,77,27,115,214,150,230,223,6,93,104,59,212,252] [97,98]) = 4345896033909676126526464428017597814750041397111024468569518375243159531215:=by decide +kernel
 have h2:num 256 (chL [134,63,78,239,9,61,234,83,110,157,208,124,146,195,3,229,241,254,201,125,3,83,36,232,178,253,110,174,138,47,113,26] [206,204,21,7,220,29,221,114,149,149,28,41,8,136,240,149,173,185,4,77,27,115,214,150,230,223,6,93,104,59,212,252] [97,99]) = 6890909591804878976832584633512085998992470259931648135772900504642653770023:=by decide +kernel
 rw [h1,h2]
 decide +kernel
end Go.Ev.Ytgacigcbglflkaa
set_option linter.unusedSimpArgs false
set_option linter.unusedVariables false
namespace Go.Ev.Ytgacigcbglflkaa
open Go Go.Ev
attribute [local congr] Um Uw Uj Ux W1
set_option maxRecDepth 100000
theorem Qa1:Y7.length = 32:=rfl
theorem Qho:∀ y ∈ Y7,y < 256:=by decide
theorem Args.one {H:List Ob} {a b n c:Nat} {t:List Nat} {e:Bool} {s:Nat} (ha:H[a]? = some ⟨[.slice (some ⟨b,0,none⟩) n n],true,true,e,s⟩) {e':Bool} {s':Nat} (hb:H[b]? = some ⟨u8s t,true,true,e',s'⟩) (hn:t.length = n) (xt:∀ y ∈ t,y < 256) (h40:n ≤ 2 ^ 47 - 4096):Args H (.slice (some ⟨a,0,none⟩) 1 c) [t]:=by
 have hp:HPart (LtN H.length) H (.slice (some ⟨b,0,none⟩) n n) t:=by
  have:=HPart.whole (n:=H.length) (c:=n) (Qt.1 hb).1 hb xt (by omega)
  rwa [hn] at this
 exact Args.arr ha rfl (.cons hp .nil) (by decide)
theorem Qw2:V7 T 7 [] = some (.bool true):=by
 have hz:Qb 32 (Value.int .u8 0) = u8s (dig 256 32 0):=rfl
 have lz:(dig 256 32 0).length = 32:=rfl
 have hz64:=R7
 have lz64:(Qb 64 0).length = 64:=Zi
 have fk:fillL (u8s (dig 256 32 0)) [(0,1,.int .u8 1)] = some (u8s Y7):=rfl
 have f97:fillL [Value.int .u8 0] [(0,1,.int .u8 97)] = some (u8s [97]):=rfl
 have f98:fillL [Value.int .u8 0] [(0,1,.int .u8 98)] = some (u8s [98]):=rfl
 have fab:fillL [Value.int .u8 0,.int .u8 0] [(0,1,.int .u8 97),(1,1,.int .u8 98)] = some (u8s [97,98]):=rfl
 have fac:fillL [Value.int .u8 0,.int .u8 0] [(0,1,.int .u8 97),(1,1,.int .u8 99)] = some (u8s [97,99]):=rfl
 have f2:fillL [Value.slice none 0 0,.slice none 0 0] [(0,1,.slice (some ⟨0,0,none⟩) 1 1),(1,1,.slice (some ⟨1,0,none⟩) 1 1)] = some [.slice (some ⟨0,0,none⟩) 1 1,.slice (some ⟨1,0,none⟩) 1 1]:=rfl
 have f1:∀ b n:Nat,fillL [Value.slice none 0 0] [(0,1,.slice (some ⟨b,0,none⟩) n n)] = some [.slice (some ⟨b,0,none⟩) n n]:=fun _ _ => rfl
 have lk:=Qa1
 have hpub:=Qhx Qa1 Qho
 have lP:=Dm Y7
 obtain ⟨G1,hG1⟩:∃ X,X = [(⟨u8s [97],true,true,true,1⟩:Ob),⟨u8s [98],true,true,true,1⟩,⟨[.slice (some ⟨0,0,none⟩) 1 1,.slice (some ⟨1,0,none⟩) 1 1],true,true,true,1⟩]:=⟨_,rfl⟩
 have hA1:Args G1 (.slice (some ⟨2,0,none⟩) 2 2) [[97],[98]]:=by
  have p1:HPart (LtN G1.length) G1 (.slice (some ⟨0,0,none⟩) 1 1) [97]:=HPart.whole (b:=[97]) (w:=true) (e:=true) (s:=1) (by rw [hG1]; exact (by decide:0 < 3)) (by rw [hG1]; rfl) (by decide) (by decide)
  have p2:HPart (LtN G1.length) G1 (.slice (some ⟨1,0,none⟩) 1 1) [98]:=HPart.whole (b:=[98]) (w:=true) (e:=true) (s:=1) (by rw [hG1]; exact (by decide:1 < 3)) (by rw [hG1]; rfl) (by decide) (by decide)
  exact Args.arr (ys:=[.slice (some ⟨0,0,none⟩) 1 1,.slice (some ⟨1,0,none⟩) 1 1]) (e:=true) (s:=1) (by rw [hG1]; rfl) rfl (.cons p1 (.cons p2 .nil)) (by decide)
 obtain ⟨l1,hm⟩:=Qgm Qa1 Qho hA1 (by decide) (by decide)
 rw [show ([[97],[98]]:List (List Nat)).flatten = [97,98] from rfl] at hm
 have lS:=Qcy Y7 [97,98]
 obtain ⟨G2,hG2⟩:∃ X,X = G1 ++ l1:=⟨_,rfl⟩
 obtain ⟨G3,hG3⟩:∃ X,X = G2 ++ [(⟨u8s (Hm Y7 [97,98]),true,true,true,1⟩:Ob),⟨u8s (Ug Y7),true,true,true,1⟩,⟨u8s [97,98],true,true,true,1⟩,⟨[.slice (some ⟨G2.length + 2,0,none⟩) 2 2],true,true,true,1⟩]:=⟨_,rfl⟩
 have lG3:G3.length = G2.length + 4:=by rw [hG3]; simp
 have g3:∀ j,G3[G2.length + j]? = [(⟨u8s (Hm Y7 [97,98]),true,true,true,1⟩:Ob),⟨u8s (Ug Y7),true,true,true,1⟩,⟨u8s [97,98],true,true,true,1⟩,⟨[.slice (some ⟨G2.length + 2,0,none⟩) 2 2],true,true,true,1⟩][j]? := fun j => by rw [hG3,Ze (by omega),X0]
 have hA3:Args G3 (.slice (some ⟨G2.length + 3,0,none⟩) 1 1) [[97,98]]:=Args.one (g3 3) (g3 2) rfl (by decide) (by decide)
 obtain ⟨l3,c1,hc1,hs1⟩:=Qdr (Dm Y7) (Qcf Y7) (Rm Y7 [97,98]) (Qgs Y7 [97,98]) (Hz Y7 [97,98]) (Qdv Y7 [97,98]) hA3 (by decide) (by decide)
 rw [show ([[97,98]]:List (List Nat)).flatten = [97,98] from rfl] at hs1
 have e1:=Qlj hs1
 subst e1
 obtain ⟨G4,hG4⟩:∃ X,X = G3 ++ l3:=⟨_,rfl⟩
 have lG4:G3.length ≤ G4.length:=by rw [hG4]; simp
 obtain ⟨G5,hG5⟩:∃ X,X = G4 ++ [(⟨u8s [97,99],true,true,true,1⟩:Ob),⟨[.slice (some ⟨G4.length,0,none⟩) 2 2],true,true,true,1⟩]:=⟨_,rfl⟩
 have g5:∀ j,G5[G4.length + j]? = [(⟨u8s [97,99],true,true,true,1⟩:Ob),⟨[.slice (some ⟨G4.length,0,none⟩) 2 2],true,true,true,1⟩][j]? := fun j => by rw [hG5,Ze (by omega),X0]
 have hA5:Args G5 (.slice (some ⟨G4.length + 1,0,none⟩) 1 1) [[97,99]]:=Args.one (g5 1) (g5 0) rfl (by decide) (by decide)
 obtain ⟨l5,c2,hc2,hs2⟩:=Qdr (Dm Y7) (Qcf Y7) (Rm Y7 [97,98]) (Qgs Y7 [97,98]) (Hz Y7 [97,98]) (Qdv Y7 [97,98]) hA5 (by decide) (by decide)
 rw [show ([[97,99]]:List (List Nat)).flatten = [97,99] from rfl] at hs2
 have e2:=Qmi Qri hs2
 subst e2
 rw [show frL Y7 [97,98] ++ bkL Y7 [97,98] = Hm Y7 [97,98] from rfl] at hc1 hc2
 have F1:[(⟨u8s [97],true,true,true,1⟩:Ob),⟨u8s [98],true,true,true,1⟩,⟨[.slice (some ⟨0,0,none⟩) 1 1,.slice (some ⟨1,0,none⟩) 1 1],true,true,true,1⟩] = G1:=hG1.symm
 have F2:G1 ++ l1 = G2:=hG2.symm
 have F3:G2 ++ [(⟨u8s (Hm Y7 [97,98]),true,true,true,1⟩:Ob),⟨u8s (Ug Y7),true,true,true,1⟩,⟨u8s [97,98],true,true,true,1⟩,⟨[.slice (some ⟨G2.length + 2,0,none⟩) 2 2],true,true,true,1⟩] = G3:=hG3.symm
 have F4:G3 ++ l3 = G4:=hG4.symm
 have F5:G4 ++ [(⟨u8s [97,99],true,true,true,1⟩:Ob),⟨[.slice (some ⟨G4.length,0,none⟩) 2 2],true,true,true,1⟩] = G5:=hG5.symm
 have u4:∀ l:List Ob,(G4 ++ l)[G2.length]? = some ⟨u8s (Hm Y7 [97,98]),true,true,true,1⟩:=fun l => by
  rw [Qe (by omega),hG4,Qe (by omega)]; exact g3 0
 have u4':∀ l:List Ob,(G4 ++ l)[G2.length + 1]? = some ⟨u8s (Ug Y7),true,true,true,1⟩:=fun l => by
  rw [Qe (by omega),hG4,Qe (by omega)]; exact g3 1
 have u5:G4[G2.length]? = some ⟨u8s (Hm Y7 [97,98]),true,true,true,1⟩:=by
  rw [hG4,Qe (by omega)]; exact g3 0
 have u5':G4[G2.length + 1]? = some ⟨u8s (Ug Y7),true,true,true,1⟩:=by
  rw [hG4,Qe (by omega)]; exact g3 1
 clear hG1 hG2 hG3 hG4 hG5 hs1 hs2 g3 g5 hA1 hA3 hA5
 generalize Hm Y7 [97,98] = S at *
 generalize Ug Y7 = P at *
 generalize dig 256 32 0 = Z at *
 generalize Qb 64 0 = Z64 at *
 generalize Y7 = K at *
 generalize u8s [97] = b97 at *
 generalize u8s [98] = b98 at *
 generalize u8s [97,98] = bab at *
 generalize u8s [97,99] = bac at *
 apply Vc
 apply J4
 rw [J3 (fn:=Qvj) rfl]
 simp only [Qvj,↓Ke,J2,quiet,cF,↓pF,reduceCtorEq,Qc,Qp,Ja,Je,J5,Jd,Zy,Q7,Zf,Q4,Zc,Zl,Zk,↓Kn,↓Kd,↓K4,↓K7,↓K5,↓K6,cL,Qo,Qn,Q1,Q0,Qx,Qs,Qr,Qz,Qd,Q5,Q6,Qy,Qj,Qi,Qh,Qw,Qv,Qu,Qm,Ql,cJ,hz,hz64,fk,f97,f98,fab,fac,f1,f2,F1,hm,F2,hpub,F3,hc1,F4,u4,u4',u5,u5',F5,hc2,Kv,Vf,Yq,Vg,Ky,lz,lz64,lk,lS,lP,Vm,Zi,Yt]
 rfl
structure BA (H0:List Ob) (bv:Value) (l:List Nat):Prop where
 len:vLen false bv = some (.int .i64 l.length)
 lt:∀ y ∈ l,y < 256
 le:l.length ≤ 2 ^ 47 - 4096
 fill:fillL [Value.slice none 0 0] [(0,1,bv)] = some [bv]
 whole:HPart (LtN H0.length) H0 bv l
 cut:∀ k,k ≤ l.length → ∃ s1 s2,(∀ G:List Ob,(∀ i,i < H0.length → G[i]? = H0[i]?) → vSliceSl G 1 none (some (.int .i64 (k:Nat))) none bv = some s1 ∧ vSliceSl G 1 (some (.int .i64 (k:Nat))) none none bv = some s2) ∧
  HPart (LtN H0.length) H0 s1 (l.take k) ∧ HPart (LtN H0.length) H0 s2 (l.drop k)
theorem BA.nil:BA [] (.slice none 0 0) [] :=
 ⟨rfl,by simp,by decide,rfl,⟨⟨_,_,rfl⟩,fun _ _ => rfl,by simp,by decide⟩,fun k hk => by
  have:k = 0:=by simpa using hk
  subst this
  exact ⟨.slice none 0 0,.slice none 0 0,fun G _ => ⟨rfl,rfl⟩,⟨⟨_,_,rfl⟩,fun _ _ => rfl,by simp,by decide⟩,⟨⟨_,_,rfl⟩,fun _ _ => rfl,by simp,by decide⟩⟩⟩
theorem BA.some {l:List Nat} {n:Nat} (ln:l.length = n) (xl:∀ x ∈ l,x < 256) (hm:n ≤ 2 ^ 47 - 4096):BA [⟨u8s l,true,false,false,1⟩] (.slice (some ⟨0,0,none⟩) n n) l:=by
 subst ln
 refine ⟨rfl,xl,hm,rfl,HPart.whole (w:=false) (e:=false) (s:=1) (n:=1) (Dy) rfl xl hm,fun k hk => ?_⟩
 refine ⟨.slice (Gk ⟨0,0,none⟩) k l.length,.slice (Gk ⟨0,0 + k,none⟩) (l.length - k) (l.length - k),fun G hG => ?_,?_,?_⟩
 ·have hg:G[0]? = Gk ⟨u8s l,true,false,false,1⟩:=(hG 0 Dy).trans rfl
  have hlv:liveAt G 0 = Gk ⟨u8s l,true,false,false,1⟩:=V0 hg rfl
  have b1:Wi l.length l.length none (Gk (.int .i64 (k:Nat))) none = Gk (0,k,l.length):=by
   rw [Bq,Gw hk,Qf]; rfl
  have b2:Wi l.length l.length (Gk (.int .i64 (k:Nat))) none none = Gk (k,l.length,l.length):=by
   rw [Bq,Tj,Qf,Gw hk,Qf]
  rw [R8,R8,b1,b2,Qf,Qf,hlv,Qf,Qf]
  simp [gate]
 ·have:=HPart.arr (n:=1) (H:=[(⟨u8s l,true,false,false,1⟩:Ob)]) (id:=0) (off:=0) (m:=k) (c:=l.length) (by decide) rfl xl (by omega) (by omega)
  rwa [Zc] at this
 ·have:=HPart.arr (n:=1) (H:=[(⟨u8s l,true,false,false,1⟩:Ob)]) (id:=0) (off:=0 + k) (m:=l.length - k) (c:=l.length - k) (by decide) rfl xl (by omega) (by omega)
  rw [Zh,Zq (by rw [Vw]; exact Q8 _)] at this
  rw [Zh]
  exact this
theorem Grown.set {k:IntKind} {B n:Nat} {H:List Ob} {s:Value} {xs:List Nat} {o:Ob} (h:Grown k B H s xs) (hn:n < B):Grown k B (H.set n o) s xs:=by
 cases h with
 | nil => exact .nil
 | own h1 h2 h3 => exact .own h1 h2 (by rw [Xc (by omega)]; exact h3)
 | new h1 h2 h3 => exact .new h1 h2 (by rw [Xc (by omega)]; exact h3)
structure SoInv (bk:List Nat) (j:Nat) (b:List Nat) (c:Nat):Prop where
 len:b.length = 32
 lt:∀ y ∈ b,y < 256
 cle:c ≤ 1
 eq:num 256 (b.take j) + c * 256 ^ j = num 256 (bk.take j) + num 256 (ordL.take j)
 rest:∀ i,j ≤ i → b[i]? = bk[i]?
theorem SoInv.step {bk b:List Nat} {j c x y:Nat} (h:SoInv bk j b c) (hj:j < 32) (hx:b[j]? = some x) (hx':x < 256) (hy:ordL[j]? = some y) (hy':y < 256):SoInv bk (j + 1) (b.set j ((c + (x + y)) % 256)) ((c + (x + y)) / 256):=by
 have hc:=h.cle
 have hb:=h.rest j (Q8 _)
 rw [hx] at hb
 refine ⟨by rw [X3]; exact h.len,D4 h.lt (Jn _ (by decide)),by omega,?_,fun i hi => by rw [Xc (by omega)]; exact h.rest i (by omega)⟩
 have e1:(b.set j ((c + (x + y)) % 256))[j]? = some ((c + (x + y)) % 256):=by rw [Km (by rw [h.len]; exact hj)]
 have e2:(b.set j ((c + (x + y)) % 256)).take j = b.take j:=by
  rw [List.take_set,List.set_eq_of_length_le (by rw [Ks]; omega)]
 rw [Wx e1,Wx hb.symm,Wx hy,e2]
 have h2:=h.eq
 have h3:=Vn (c + (x + y)) 256
 generalize (c + (x + y)) / 256 = q at *
 generalize (c + (x + y)) % 256 = r at *
 have e3:(256 * q + r) * 256 ^ j = (c + (x + y)) * 256 ^ j:=by rw [h3]
 have e4:q * 256 ^ (j + 1) = 256 * q * 256 ^ j:=by rw [K8]; simp only [V4,Yg,K9]
 rw [e4]
 rw [Kr,Kr,Kr] at e3
 omega
theorem Qmd {k l:List Nat} (lk:k.length = 64) (ll:l.length = 64):vEq (some (Qb 64 true)) false (.agg (u8s k).toArray) (.agg (u8s l).toArray) = some (.bool (k == l)):=by
 have:vEq (some (Qb 64 true)) false (.agg (u8s k).toArray) (.agg (u8s l).toArray) = (Yk (Qb 64 true) (u8s k) (u8s l)).bind fun c => some (.bool c):=Eq.trans rfl rfl
 rw [this,B4 lk ll]; rfl
def saI (pv s:Value) (h n:Nat) (i:Int) (Hc:List Ob) (ex:Env):St:=⟨[(1,pv),(2,.pointer (some ⟨h,0,none⟩)),(5,s),(15,pv),(16,.int .i64 n),(17,.int .i64 i)] ++ ex,Hc,[]⟩
theorem Qgu (ps:List (List Nat)) (j:Nat):(ps.take j).flatten.length ≤ ps.flatten.length:=by
 have h:=congrArg (fun l => (List.flatten l).length) (Wl j ps)
 simp only [V2,Zn] at h
 omega
theorem Qdn {ps:List (List Nat)} {j:Nat} {p:List Nat} (h:ps[j]? = some p):(ps.take (j + 1)).flatten = (ps.take j).flatten ++ p:=by
 rw [Y6,h,V2]; simp
theorem Qsh {B:Nat} {H0 Hc:List Ob} {pv s:Value} {xs:List Value} {ps:List (List Nat)} {j:Nat} (hp:PV (LtN B) H0 pv xs) (hP:HParts (LtN B) H0 xs ps) (hg:Grown .u8 (B + 1) Hc s (ps.take j).flatten) (hL:B + 1 ≤ Hc.length) (hF:∀ i,i < B → Hc[i]? = H0[i]?) (hj:j < xs.length) (hn:xs.length < 2 ^ 40) (hb:ps.flatten.length ≤ 2 ^ 40) :
  ∃ s' H',Xa T B Rv (saI pv s B xs.length j Hc []) = some (.normal,saI pv s' B xs.length ((j + 1:Nat):Int) H' []) ∧ Grown .u8 (B + 1) H' s' (ps.take (j + 1)).flatten ∧ B + 1 ≤ H'.length ∧ ∀ i,i < B + 1 → H'[i]? = Hc[i]? := by
 obtain ⟨x,hx⟩:∃ x,xs[j]? = some x:=⟨_,Qq hj⟩
 obtain ⟨p,hpi,hpp⟩:=hP.get hx
 have hfl:=Qdn hpi
 have hle:=Qgu ps (j + 1)
 rw [hfl] at hle ⊢
 have hlx:Go.Ev.lenV x = some p.length:=by obtain ⟨a,c,rfl⟩:=hpp.shape; rfl
 have hex:elemsOf Hc 1 p.length x = some (ns .u8 p):=hpp.reads Hc fun i hi => hF i hi
 obtain ⟨s',H',M,h1,h2,h3,h4,h5⟩:=hg.append (bytes:=1) hL hlx hex (by rw [Xb]; rw [Zn] at hle; omega) (by decide)
 refine ⟨s',H',?_,h2,by omega,h5⟩
 have im:Xk B [] M = []:=Y2 fun i hi => by have:=h3 i hi; omega
 rcases hp with ⟨-,h0⟩ | ⟨pid,off,cap,o,rfl,kp,ho,hlv,hc⟩
 ·rw [h0] at hj; exact absurd hj (Z9 _)
 ·have ho':Hc[pid]? = some o:=(hF pid kp).trans ho
  have hcx:o.cells[off + j]? = some x:=(hc j hj).trans hx
  have e1:((j:Int) < (xs.length:Int)) = True:=eq_true (by omega)
  have w3:IntKind.i64.wrap ((j:Int) + 1) = ((j + 1:Nat):Int):=B3 (b:=1) (by omega)
  generalize j + 1 = j1 at *
  simp only [saI,Rv,↓Ke,J2,quiet,cF,↓pF,reduceCtorEq,Qc,Qp,Ja,Je,J5,Jd,Zy,Q7,Zf,Q4,Zc,Zl,Zk,↓Kn,↓Kd,↓K4,↓K7,↓K5,↓K6,cL,Qo,Qn,Q1,Q0,Qx,Qs,Qr,Qz,Qd,Q5,Q6,Qy,Qj,Qi,Qh,Qw,Qv,Qu,Qm,Ql,cJ,e1,ho',hlv,hcx,w3,h1,im]
theorem Qpd {B:Nat} {H0 H1:List Ob} {pv:Value} {xs:List Value} {ps:List (List Nat)} (hp:PV (LtN B) H0 pv xs) (hP:HParts (LtN B) H0 xs ps) (hl1:B + 1 ≤ H1.length) (hF:∀ i,i < B → H1[i]? = H0[i]?) (hn:xs.length < 2 ^ 40) (hb:ps.flatten.length ≤ 2 ^ 40) :
  ∃ s' H',Xa T B (.block 0 (.loop Rv)) (saI pv (.slice none 0 0) B xs.length 0 H1 []) = some (.normal,saI pv s' B xs.length xs.length H' [(18,.bool false)]) ∧ Grown .u8 (B + 1) H' s' ps.flatten ∧ B + 1 ≤ H'.length ∧ ∀ i,i < B + 1 → H'[i]? = H1[i]? := by
 obtain ⟨st,hb,s',H',rfl,h1,h2,h3⟩:=Yn (T:=T) (base:=B) (id:=0) (body:=Rv)
  (fun j st => ∃ s Hc,st = saI pv s B xs.length j Hc [] ∧ Grown .u8 (B + 1) Hc s (ps.take j).flatten ∧ B + 1 ≤ Hc.length ∧ ∀ i,i < B + 1 → Hc[i]? = H1[i]?)
  (Q:=fun st => ∃ s' H',st = saI pv s' B xs.length xs.length H' [(18,.bool false)] ∧ Grown .u8 (B + 1) H' s' ps.flatten ∧ B + 1 ≤ H'.length ∧ ∀ i,i < B + 1 → H'[i]? = H1[i]?)
  xs.length (s:=saI pv (.slice none 0 0) B xs.length 0 H1 []) ⟨_,_,rfl,.nil,hl1,fun _ _ => rfl⟩
  (fun j st hj hs => by
   obtain ⟨s,Hc,rfl,hg,hL,hK⟩:=hs
   obtain ⟨s',H',k1,k2,k3,k4⟩:=Qsh hp hP hg hL (fun i hi => (hK i (by omega)).trans (hF i hi)) hj hn hb
   exact ⟨_,k1,s',H',rfl,k2,k3,fun i hi => (k4 i hi).trans (hK i hi)⟩)
  (fun st hs => by
   obtain ⟨s,Hc,rfl,hg,hL,hK⟩:=hs
   rw [Zq (by rw [hP.len]; exact Q8 _)] at hg
   refine ⟨_,?_,s,Hc,rfl,hg,hL,hK⟩
   have e1:((xs.length:Int) < (xs.length:Int)) = False:=eq_false (by omega)
   simp only [saI,Rv,J2,quiet,cF,↓pF,reduceCtorEq,Qc,Qp,Wf,X4,↓Z0,↓Zz,↓Jr,↓Ju,↓Js,↓Jt,cL,Qo,Qn,Q1,Q0,Qx,Qs,Qr,Qz,Qd,Q5,Q6,Qy,Qj,Qi,Qh,Qw,Qv,Qu,Qm,Ql,e1])
 exact ⟨s',H',hb,h1,h2,h3⟩
theorem Qhq {H0:List Ob} {s:List Nat} {pv:Value} {ps:List (List Nat)} (ls:s.length = 32) (xs:∀ y ∈ s,y < 256) (hA:Args H0 pv ps) (hsz:ps.flatten.length ≤ 2 ^ 40):∃ H',Vl T 6 [.agg (u8s s).toArray,pv] H0 = some (.bool true,H',[]):=by
 obtain ⟨vs,hA1⟩:=hA
 have hlen:vLen false pv = some (.int .i64 vs.length):=by
  rcases hA1.inPv with ⟨rfl,rfl⟩ | ⟨_,_,_,_,rfl,_⟩ <;> rfl
 have hn:=hA1.few
 have hsg:=Qw2
 obtain ⟨H1,hH1⟩:∃ X,X = H0 ++ [(⟨u8s s,true,true,true,1⟩:Ob)]:=⟨_,rfl⟩
 have F1:H0 ++ [(⟨u8s s,true,true,true,1⟩:Ob)] = H1:=hH1.symm
 have lH1:H1.length = H0.length + 1:=by rw [hH1]; simp
 have up1:∀ i,i < H0.length → H1[i]? = H0[i]? := fun i hi => by rw [hH1,Qe hi]
 have us1:H1[H0.length]? = some ⟨u8s s,true,true,true,1⟩:=by rw [hH1,Ze (Q8 _),V8]; rfl
 by_cases h8:(8:Int) < (vs.length:Int)
 ·have e1:((8:Int) < (vs.length:Int)) = True:=eq_true h8
  apply J4
  rw [J3 (fn:=Qjg) rfl]
  simp only [Qjg,↓Ke,J2,quiet,cF,↓pF,reduceCtorEq,Qc,Qp,Ja,Je,J5,Jd,Zy,Q7,Zf,Q4,Zc,Zl,Zk,↓Kn,↓Kd,↓K4,↓K7,↓K5,↓K6,cL,Qo,Qn,Q1,Q0,Qx,Qs,Qr,Qz,Qd,Q5,Q6,Qy,Qj,Qi,Qh,Qw,Qv,Qu,Qm,Ql,cJ,hsg,F1,hlen,e1]
  rfl
 have e1:((8:Int) < (vs.length:Int)) = False:=eq_false h8
 obtain ⟨all,H2,hB,hg,lH2,up2⟩:=Qpd (H1:=H1) hA1.inPv hA1.parts (by omega) up1 hn hsz
 have hal:=hg.len
 have us2:H2[H0.length]? = some ⟨u8s s,true,true,true,1⟩:=(up2 _ (by omega)).trans us1
 have up20:∀ i,i < H0.length → H2[i]? = H0[i]? := fun i hi => (up2 i (by omega)).trans (up1 i hi)
 simp only [saI,Q3,Q2] at hB
 by_cases h20:(2000:Int) < (ps.flatten.length:Int)
 ·have e2:((2000:Int) < (ps.flatten.length:Int)) = True:=eq_true h20
  apply J4
  rw [J3 (fn:=Qjg) rfl]
  simp only [Qjg,↓Ke,J2,quiet,cF,↓pF,reduceCtorEq,Qc,Qp,Ja,Je,J5,Jd,Zy,Q7,Zf,Q4,Zc,Zl,Zk,↓Kn,↓Kd,↓K4,↓K7,↓K5,↓K6,cL,Qo,Qn,Q1,Q0,Qx,Qs,Qr,Qz,Qd,Q5,Q6,Qy,Qj,Qi,Qh,Qw,Qv,Qu,Qm,Ql,cJ,hsg,F1,hlen,e1,hB,hal,e2]
  rfl
 have e2:((2000:Int) < (ps.flatten.length:Int)) = False:=eq_false h20
 have hz64:=R7
 have lz64:(Qb 64 0).length = 64:=Zi
 have hz:Qb 32 (Value.int .u8 0) = u8s (dig 256 32 0):=rfl
 have lz:(dig 256 32 0).length = 32:=rfl
 have hps:ps.length = vs.length:=hA1.parts.len
 have hA2:Args H2 pv ps:=Args.ext ⟨vs,hA1⟩ up20 (by omega)
 obtain ⟨l1,hm1⟩:=Qgm ls xs hA2 (by omega) (by omega)
 have xa:=hA2.flat
 obtain ⟨G1,hG1⟩:∃ X,X = H2 ++ l1:=⟨_,rfl⟩
 have F2:H2 ++ l1 = G1:=hG1.symm
 have lG1:H2.length ≤ G1.length:=by rw [hG1]; simp
 obtain ⟨G2,hG2⟩:∃ X,X = G1 ++ [(⟨u8s (Hm s ps.flatten),true,true,true,1⟩:Ob),⟨u8s (bkL s ps.flatten),true,true,true,1⟩,⟨[all],true,true,true,1⟩]:=⟨_,rfl⟩
 have F3:G1 ++ [(⟨u8s (Hm s ps.flatten),true,true,true,1⟩:Ob),⟨u8s (bkL s ps.flatten),true,true,true,1⟩,⟨[all],true,true,true,1⟩] = G2:=hG2.symm
 have lG2:G2.length = G1.length + 3:=by rw [hG2]; simp
 have hpart:HPart (LtN H2.length) H2 all ps.flatten:=by
  by_cases h0:ps.flatten = []
  ·rw [h0] at hg ⊢
   cases hg with
   | nil => exact ⟨⟨_,_,rfl⟩,fun _ _ => rfl,by simp,by decide⟩
   | own _ h _ => exact absurd h (by decide)
   | new _ h _ => exact absurd h (by decide)
  ·exact Grown.part hg (fun i _ hi => hi) xa (by omega) (List.length_pos_iff.2 h0)
 have hfill:fillL [Value.slice none 0 0] [(0,1,all)] = some [all]:=by
  obtain ⟨a,c,rfl⟩:=hpart.shape; rfl
 have gG2:∀ i,i < H2.length → G2[i]? = H2[i]? := fun i hi => by rw [hG2,Qe (by omega),hG1,Qe hi]
 have gA:G2[G1.length + 2]? = some ⟨[all],true,true,true,1⟩:=by rw [hG2,Ze (by omega),X0]; rfl
 have hA3:Args G2 (.slice (some ⟨G1.length + 2,0,none⟩) 1 1) [ps.flatten] :=
  Args.arr (e:=true) (s:=1) (ys:=[all]) gA rfl (.cons (hpart.ext gG2 (by omega)) .nil) (by decide)
 obtain ⟨l2,hm2⟩:=Qgm ls xs hA3 (by show 1 ≤ 1000; decide) (by rw [Ki,Ys,Kw]; omega)
 rw [Ki,Ys,Kw] at hm2
 obtain ⟨G3,hG3⟩:∃ X,X = G2 ++ l2:=⟨_,rfl⟩
 have F4:G2 ++ l2 = G3:=hG3.symm
 have lG3:G2.length ≤ G3.length:=by rw [hG3]; simp
 have gG3:∀ i,i < G2.length → G3[i]? = G2[i]? := fun i hi => by rw [hG3,Qe hi]
 have hA4:Args G3 pv ps:=hA2.ext (fun i hi => (gG3 i (by omega)).trans (gG2 i hi)) (by omega)
 obtain ⟨l3,c,hc,hs⟩:=Qdr (Dm s) (Qcf s) (Rm s ps.flatten) (Qgs s ps.flatten) (Hz s ps.flatten) (Qdv s ps.flatten) hA4 (by omega) (by omega)
 have e:=Qlj hs
 subst e
 rw [show frL s ps.flatten ++ bkL s ps.flatten = Hm s ps.flatten from rfl] at hc
 have hbk:num 256 (bkL s ps.flatten) < ell:=by rw [bkL,Qkn]; exact Jn _ Hu
 obtain ⟨lc,hcan0⟩:=Qb1 (Hz s ps.flatten) (Qdv s ps.flatten)
 have hcan:=Vc ⟨_,hcan0⟩
 rw [decide_eq_true hbk] at hcan
 have hpub:=Qhx ls xs
 have lP:=Dm s
 have lS:=Qcy s ps.flatten
 have lB:=Hz s ps.flatten
 have hdrop:((u8s (Hm s ps.flatten)).drop 32).take 32 = u8s (bkL s ps.flatten):=by
  rw [show Hm s ps.flatten = frL s ps.flatten ++ bkL s ps.flatten from rfl]
  have:=Rm s ps.flatten
  rw [u8s,← Qrz,← Qry,← this,List.drop_left,this,← lB,U5]; rfl
 have heq:=Qmd lS lS
 rw [beq_self_eq_true] at heq
 have k1:G1[H0.length]? = some ⟨u8s s,true,true,true,1⟩:=by rw [hG1,Qe (by omega)]; exact us2
 have k1m:∀ m:List Ob,(G1 ++ m)[H0.length]? = some ⟨u8s s,true,true,true,1⟩:=fun m => by rw [Qe (by omega)]; exact k1
 have k3:G3[H0.length]? = some ⟨u8s s,true,true,true,1⟩:=by rw [gG3 _ (by omega),gG2 _ (by omega)]; exact us2
 have k3S:G3[G1.length]? = some ⟨u8s (Hm s ps.flatten),true,true,true,1⟩:=by rw [gG3 _ (by omega),hG2,Ze (Q8 _),V8]; rfl
 have im1:Xk H0.length [] [G1.length] = []:=Y2 (by simp; omega)
 have im2:Xk H0.length [] [G1.length + 1] = []:=Y2 (by simp; omega)
 obtain ⟨G4,hG4⟩:∃ X,X = G3 ++ l3:=⟨_,rfl⟩
 have F5:G3 ++ l3 = G4:=hG4.symm
 have k4B:G4[G1.length + 1]? = some ⟨u8s (bkL s ps.flatten),true,true,true,1⟩:=by rw [hG4,Qe (by omega),gG3 _ (by omega),hG2,Ze (by omega),X0]; rfl
 clear hG1 hG2 hG3 hG4 hH1 hA1 hA2 hA3 hA4 hg hs hpart up2 up20 up1 gG2 gG3 hcan0
 generalize bkL s ps.flatten = K at *
 generalize Hm s ps.flatten = S at *
 generalize Ug s = P at *
 generalize Qb 64 0 = Z64 at *
 generalize dig 256 32 0 = Z32 at *
 generalize ps.flatten = fl at *
 apply J4
 rw [J3 (fn:=Qjg) rfl]
 simp only [Qjg,↓Ke,J2,quiet,cF,↓pF,reduceCtorEq,Qc,Qp,Ja,Je,J5,Jd,Zy,Q7,Zf,Q4,Zc,Zl,Zk,↓Kn,↓Kd,↓K4,↓K7,↓K5,↓K6,cL,Qo,Qn,Q1,Q0,Qx,Qs,Qr,Qz,Qd,Q5,Q6,Qy,Qj,Qi,Qh,Qw,Qv,Qu,Qm,Ql,cJ,hsg,F1,hlen,e1,hB,hal,e2,us2,hm1,F2,hz64,hz,k1,k1m,hdrop,hfill,F3,hm2,F4,heq,hpub,k3,k3S,hc,F5,k4B,hcan,im1,im2,Kv,Vf,Yq,Vg,Ky,lz64,lz,ls,lP,lS,lB,Vm,Zi,Yt]
 rfl
end Go.Ev.Ytgacigcbglflkaa
set_option linter.unusedSimpArgs false
set_option linter.unusedVariables false
namespace Go.Ev.Ytgacigcbglflkaa
open Go Go.Ev
set_option maxRecDepth 100000
theorem T6 {K:Nat → Prop} {H:List Ob} {f:Nat → Value} {g:Nat → List Nat}:∀ n,(∀ i,i < n → HPart K H (f i) (g i)) → HParts K H ((Yi n).map f) ((Yi n).map g)
 | 0,_ => .nil
 | n + 1,h => by
  rw [List.range_succ,Uu,Uu]
  exact (T6 n fun i hi => h i (by omega)).append (.cons (h n (by omega)) .nil)
theorem Qn9 {len:Nat} {A:Nat → Option Addr} {L:Nat → Nat} {B:Nat → List Nat} (h0:∀ r,r < len → A r = none → B r = []) (hl:∀ r,r < len → (B r).length = L r) (hx:∀ r,r < len → ∀ x ∈ B r,x < 256) (hb:∀ r,r < len → (B r).length ≤ 2 ^ 40) (hn:len < 2 ^ 40) :
  Args (Dl len A L B) (.slice (some ⟨0,0,none⟩) len len) ((Yi len).map B):=by
 have hlen:(Dl len A L B).length = len + 1:=by simp [Dl]
 refine ⟨(Yi len).map (Qei A L),?_,T6 len fun r hr => ?_,by simpa using hn,by simp [Go.Ev.lenV],fun G hG => ?_⟩
 ·exact .inr ⟨0,0,len,_,by simp,by omega,rfl,rfl,fun i _ => by rw [Zh]⟩
 ·unfold Qei
  cases hA:A r with
  | none =>
   rw [h0 r hr hA]
   exact ⟨⟨_,_,rfl⟩,fun _ _ => rfl,by simp,by decide⟩
  | some a' =>
   rw [← hl r hr]
   exact HPart.whole (c:=(B r).length) (w:=false) (e:=false) (s:=1) (by omega) (Qe6 hr) (hx r hr) (by have:=hb r hr; omega)
 ·have hg:=(hG 0 (by omega)).trans (show (Dl len A L B)[0]? = some ⟨(Yi len).map (Qei A L),true,false,false,1⟩ from rfl)
  simp [elemsOf,V0 hg rfl]
  exact Zq (by simp)
end Go.Ev.Ytgacigcbglflkaa

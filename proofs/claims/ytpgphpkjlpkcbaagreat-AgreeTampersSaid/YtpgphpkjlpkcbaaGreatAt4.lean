/- What the law leans on, part 4. -/
import Derived.Test.YtpgphpkjlpkcbaaGreatAt3
set_option linter.unusedSimpArgs false
set_option linter.unusedVariables false
set_option linter.defProp false
open Bool renaming and_eq_true → Yw, false_eq_true → Jd
open Exists renaming intro → Zu
open Int renaming natCast_add → Gw, natCast_mul → U1, natCast_one → Hr, natCast_pow → Ma, natCast_zero → J6, reduceAdd → Qy, reduceBEq → Q6, reduceBNe → Q5, reduceEq → Qq, reduceGE → Q2, reduceGT → Q1, reduceLE → Qp, reduceLT → Qo, reduceMul → Qx, reduceNeg → Qw, reducePow → Qr, reduceSub → Qv, reduceTDiv → Ql, reduceTMod → Qk, reduceToNat → Qc, toNat_natCast → Jr
open List renaming all_eq_true → Wb, append_assoc → Je, append_nil → Xd, cons_append → Ze, drop → W0, drop_append_of_le_length → Y3, drop_drop → Gj, drop_eq_getElem?_toList_append → Yf, drop_eq_getElem_cons → Ui, drop_of_length_le → Vv, drop_succ_cons → Qe, drop_zero → Qz, eq_nil_of_length_eq_zero → Ws, ext_getElem? → Wa, flatten_append → Y9, flatten_cons → Xs, flatten_nil → Y4, foldl_cons → U8, foldl_nil → Dq, getD_eq_getElem?_getD → Jz, getElem?_append_left → Qm, getElem?_append_right → Za, getElem?_cons_succ → Z0, getElem?_cons_zero → Z1, getElem?_drop → Vy, getElem?_eq_getElem → Q3, getElem?_eq_none → Xe, getElem?_eq_some_iff → Q7, getElem?_map → U4, getElem?_of_mem → Bp, getElem?_range → Re, getElem?_replicate → R1, getElem?_set → Gv, getElem?_set_ne → Z4, getElem?_set_self → Jj, getElem?_take → Ks, getElem?_zipWith → Mf, length_append → Zh, length_drop → X5, length_map → Rn, length_nil → Jg, length_replicate → Q4, length_set → Jk, length_take → Js, length_zipWith → Rd, map_append → Hq, map_cons → W7, map_map → Qcr, map_nil → Be, mem_append → J8, mem_append_left → Qj3, mem_cons → Wh, mem_cons_of_mem → Qba, mem_map → Bd, mem_of_getElem? → Zp, mem_of_mem_drop → Y2, mem_of_mem_take → Ki, mem_or_eq_of_mem_set → Ho, mem_replicate → Rz, mem_singleton → U7, nil_append → Q9, not_mem_nil → W8, range → We, replicate → Qa, replicate_succ → Bi, replicate_succ' → Mt, set_append_left → Bo, set_append_right → Yu, set_cons_zero → Qc1, set_set → Th, take → Vt, take_add_one → Ym, take_append_drop → Yn, take_append_of_le_length → Yr, take_length → Rc, take_of_length_le → Zk, take_succ_cons → Qf, take_zero → Q0, zipWith → Bc
open Nat renaming Coprime → Zf1, add_assoc → Kc, add_comm → Bn, add_mul → Kw, add_sub_cancel_left → Jh, add_zero → Jy, and_lt_two_pow → Ga, and_two_pow_sub_one_eq_mod → Dp, div_add_mod → Ya, div_div_eq_div_mul → Kb, div_eq_of_lt → Uk, div_le_self → Uj, div_lt_of_lt_mul → Ms, div_one → Ww, eq_zero_or_pos → Wl, le_of_lt → W3, le_refl → Zn, le_trans → Uz, lt_add_one → Q1u, lt_irrefl → Xt, lt_of_le_of_lt → Wv, lt_of_lt_of_le → Xr, lt_or_ge → Yp, lt_succ_of_lt → Mj, lt_succ_self → Qut, lt_trans → Uc, min_eq_left → Vz, mod_eq_of_lt → Z5, mod_lt → Jo, mod_mod → Ha, mod_mul_mod → Qb3, mul_assoc → Ye, mul_comm → Ve, mul_le_mul_right → Yh, mul_mod_mul_right → Qac, mul_one → Kh, mul_zero → Tf, not_lt_zero → J7, one_mul → Ul, or_lt_two_pow → Hy, pow_add → Ud, pow_le_pow_right → Vr, pow_mul → Y5, pow_pos → Us, pow_succ → Kv, pow_zero → Yv, reduceAdd → Qg, reduceDiv → Qu, reduceEqDiff → Qb, reduceLT → Qn, reduceLeDiff → Qd, reduceMod → Qt, reduceMul → Qi, reducePow → Qs, reduceSub → Qh, sub_self → Jw, sub_zero → Xw, testBit_and → Qhw, testBit_or → Qj1, testBit_xor → Qxd, xor_lt_two_pow → Rw, zero_add → Z3, zero_lt_one → Qb2, zero_lt_succ → Quq, zero_mul → Xv
open Option renaming bind_some → Zb, map_some → Rm
open Option.some renaming inj → B0
namespace Go.Ev.YtpgphpkjlpkcbaaGreat
open Go Go.Ev
attribute [local congr] W5 Up W4 Uq Wo
set_option maxRecDepth 100000
def Qal (u v:Go.Fp.Fe):Go.Fp.Fe:=u*(v*v*v)*Go.Fp.pow (u*(v*v*v)*(v*v*v)*v) (2^252-1-2)
def jj:Go.Fp.Fe:=Go.Fp.pow 2 (2^253-1-4)
theorem jj_eq:jj=Go.Fp.i:=by
 show Go.Fp.pow (Go.Fp.fp 2) _=Go.Fp.fp Go.Fp.iN
 exact Go.Fp.Qlg (f:=256) (by decide +kernel) (by decide +kernel)
theorem jj_sq:jj*jj = -1:=by rw [jj_eq]; exact Go.Fp.Qvg
theorem quarter:(2^252-1-2)+(2^252-1-2)+1+((2^252-1-2)+(2^252-1-2)+1)=(Go.Fp.P-1)/2:=by rw [Go.Fp.Qd4]
theorem Q9n {u v s:Go.Fp.Fe} (h1:v*Qal u v*Qal u v≠u) (h2:v*Qal u v*Qal u v ≠ -u):v*(s*s)≠u:=fun hs=>by
 have F:=Go.Fp.fld
 obtain ⟨g,hg⟩:∃ g,g=v*v*v*v*s:=⟨_,rfl⟩
 have ht:u*(v*v*v)*(v*v*v)*v=g*g:=by subst hg; subst hs; grobner
 rcases Go.Fp.Qlh g with h | h
 ·obtain ⟨k,hk⟩:∃ k,k=2^252-1-2:=⟨_,rfl⟩
  have hq:=quarter
  rw [←hk] at hq
  rw [←hq,Go.Fp.pow_add,Go.Fp.pow_add,Go.Fp.pow_add,Go.Fp.pow_one] at h
  have hw:Qal u v=u*(v*v*v)*Go.Fp.pow (g*g) k:=by unfold Qal; rw [ht,hk]
  rw [hw] at h1 h2
  generalize Go.Fp.pow (g*g) k=q at *
  have he:(q*q*(g*g)-1)*(q*q*(g*g)+1)=0:=by clear h1 h2 hw ht hg hs; grobner
  have hv:v*(u*(v*v*v)*q)*(u*(v*v*v)*q)=u*(q*q*(g*g)):=by clear h1 h2 hw hg hs he h; grobner
  rcases F.dom he with h | h
  ·exact h1 (by rw [hv]; clear h1 h2 hw ht hg hs he hv; grobner)
  ·exact h2 (by rw [hv]; clear h1 h2 hw ht hg hs he hv; grobner)
 ·have hu:u*(v*v*v)*(v*v*v)*v=0:=by rw [ht,h]; grobner
  have hu0:u=0:=by
   rcases F.dom hu with h0 | h0
   ·rcases F.dom h0 with h0 | h0
    ·rcases F.dom h0 with h0 | h0
     ·exact h0
     ·rcases F.dom h0 with h0 | h0
      ·rcases F.dom h0 with h0 | h0<;>(rw [←hs,h0]; grobner)
      ·rw [←hs,h0]; grobner
    ·rcases F.dom h0 with h0 | h0
     ·rcases F.dom h0 with h0 | h0<;>(rw [←hs,h0]; grobner)
     ·rw [←hs,h0]; grobner
   ·rw [←hs,h0]; grobner
  exact h1 (by unfold Qal; rw [hu0]; grobner)
theorem Q9a:evVal T 133 [.int .i64 252,.int .u8 2]=some (.agg (u8s (dig 256 32 (2^252-1-2))).toArray):=Qv3 (n:=252) (less:=2) (by decide) (by decide) (by decide)
theorem Q89:evVal T 133 [.int .i64 253,.int .u8 4]=some (.agg (u8s (dig 256 32 (2^253-1-4))).toArray):=Qv3 (n:=253) (less:=4) (by decide) (by decide) (by decide)
def Qsb (r:List Nat) (ok:Bool):Value := .tuple #[eV r,.bool ok]
theorem Zc1 {u v:List Nat} (Eu:El u (2^52)) (Ev:El v (2^52)) :
  ∃ r ok,evVal T 88 [eV u,eV v]=some (Qsb r ok)∧El r (2^52)∧(ok=true→fe v*(fe r*fe r)=fe u∧((fe r).val%2=0∨fe r=0))∧(ok=false→∀ s,fe v*(s*s)≠fe u):=by
 obtain ⟨r1,hr1,Er1,fr1⟩:=Qan (H:=[⟨ns .u64 u,true,true,true,1⟩,⟨ns .u64 v,true,true,true,1⟩,⟨ns .u64 [0,0,0,0,0],true,true,true,1⟩,⟨ns .u64 [v,v,v].flatten,true,true,true,1⟩]) (id:=3) (n:=3) (xs:=[v,v,v]) rfl (by decide) (by intro w hw; simp only [Wh,W8,or_false] at hw; rcases hw with rfl | rfl | rfl<;>assumption) rfl
 simp only [W7,Be,Ze,Q9] at hr1
 simp only [W7,Be,U8,Dq] at fr1
 obtain ⟨r2,hr2,Er2,fr2⟩:=Qan (H:=[⟨ns .u64 u,true,true,true,1⟩,⟨ns .u64 v,true,true,true,1⟩,⟨ns .u64 [0,0,0,0,0],true,true,true,1⟩,⟨ns .u64 [v,v,v].flatten,true,true,true,1⟩,⟨ns .u64 r1,true,true,true,1⟩,⟨ns .u64 r1,true,true,true,1⟩,⟨ns .u64 v,true,true,true,1⟩,⟨ns .u64 v,true,true,true,1⟩,⟨ns .u64 v,true,true,true,1⟩,⟨ns .u64 r1,true,true,true,1⟩,⟨ns .u64 [u,r1,r1,v].flatten,true,true,true,1⟩]) (id:=10) (n:=4) (xs:=[u,r1,r1,v]) rfl (by decide) (by intro w hw; simp only [Wh,W8,or_false] at hw; rcases hw with rfl | rfl | rfl | rfl<;>assumption) rfl
 simp only [W7,Be,Ze,Q9] at hr2
 simp only [W7,Be,U8,Dq] at fr2
 obtain ⟨r3,hr3,Er3,fr3⟩:=Qft (n:=252) (less:=2) Er2 (by decide) (by decide) (by decide)
 obtain ⟨r4,hr4,Er4,fr4⟩:=Qan (H:=[⟨ns .u64 u,true,true,true,1⟩,⟨ns .u64 v,true,true,true,1⟩,⟨ns .u64 [0,0,0,0,0],true,true,true,1⟩,⟨ns .u64 [v,v,v].flatten,true,true,true,1⟩,⟨ns .u64 r1,true,true,true,1⟩,⟨ns .u64 r1,true,true,true,1⟩,⟨ns .u64 v,true,true,true,1⟩,⟨ns .u64 v,true,true,true,1⟩,⟨ns .u64 v,true,true,true,1⟩,⟨ns .u64 r1,true,true,true,1⟩,⟨ns .u64 [u,r1,r1,v].flatten,true,true,true,1⟩,⟨ns .u64 r2,true,true,true,1⟩,⟨ns .u64 r2,true,true,true,1⟩,⟨ns .u64 u,true,true,true,1⟩,⟨ns .u64 r1,true,true,true,1⟩,⟨ns .u64 r1,true,true,true,1⟩,⟨ns .u64 v,true,true,true,1⟩,⟨ns .u64 [u,r1,r3].flatten,true,true,true,1⟩]) (id:=17) (n:=3) (xs:=[u,r1,r3]) rfl (by decide) (by intro w hw; simp only [Wh,W8,or_false] at hw; rcases hw with rfl | rfl | rfl<;>assumption) rfl
 simp only [W7,Be,Ze,Q9] at hr4
 simp only [W7,Be,U8,Dq] at fr4
 obtain ⟨r5,hr5,Er5,fr5⟩:=Qan (H:=[⟨ns .u64 u,true,true,true,1⟩,⟨ns .u64 v,true,true,true,1⟩,⟨ns .u64 [0,0,0,0,0],true,true,true,1⟩,⟨ns .u64 [v,v,v].flatten,true,true,true,1⟩,⟨ns .u64 r1,true,true,true,1⟩,⟨ns .u64 r1,true,true,true,1⟩,⟨ns .u64 v,true,true,true,1⟩,⟨ns .u64 v,true,true,true,1⟩,⟨ns .u64 v,true,true,true,1⟩,⟨ns .u64 r1,true,true,true,1⟩,⟨ns .u64 [u,r1,r1,v].flatten,true,true,true,1⟩,⟨ns .u64 r2,true,true,true,1⟩,⟨ns .u64 r2,true,true,true,1⟩,⟨ns .u64 u,true,true,true,1⟩,⟨ns .u64 r1,true,true,true,1⟩,⟨ns .u64 r1,true,true,true,1⟩,⟨ns .u64 v,true,true,true,1⟩,⟨ns .u64 [u,r1,r3].flatten,true,true,true,1⟩,⟨ns .u64 r4,true,true,true,1⟩,⟨ns .u64 r4,true,true,true,1⟩,⟨ns .u64 u,true,true,true,1⟩,⟨ns .u64 r1,true,true,true,1⟩,⟨ns .u64 r3,true,true,true,1⟩,⟨ns .u64 r4,true,true,true,1⟩,⟨ns .u64 [v,r4,r4].flatten,true,true,true,1⟩]) (id:=24) (n:=3) (xs:=[v,r4,r4]) rfl (by decide) (by intro w hw; simp only [Wh,W8,or_false] at hw; rcases hw with rfl | rfl | rfl<;>assumption) rfl
 simp only [W7,Be,Ze,Q9] at hr5
 simp only [W7,Be,U8,Dq] at fr5
 have k1:=Zav Er5 Eu
 obtain ⟨nu,hnu,Enu,fnu⟩:=Qo6 Eu
 have k2:=Zav Er5 Enu
 obtain ⟨two,htwo⟩:∃ two:List Nat,two=[2,0,0,0,0]:=⟨_,rfl⟩
 have Etwo:El two (2^52):=by rw [htwo]; exact Q2m
 have vtwo:evVal T 73 [.int .u32 2]=some (eV two):=by rw [htwo]; exact Q2j
 have ftwo:fe two=2:=by rw [htwo]; exact Qu4
 clear htwo
 obtain ⟨j,hj,Ej,fj⟩:=Qft (n:=253) (less:=4) Etwo (by decide) (by decide) (by decide)
 obtain ⟨q,hq,Eq,fq⟩:=Uw Er4 Ej
 obtain ⟨n1,hn1,En1,fn1⟩:=Qo6 Er4
 obtain ⟨n2,hn2,En2,fn2⟩:=Qo6 Eq
 have o1:=Q4x Er4
 have o2:=Q4x Eq
 have c1:=Q9a
 have c2:=Q89
 have g1:=Qpl Ev Ev Ev
 have g2:=Qjp Eu Er1 Er1 Ev
 rw [Qx7] at g2
 have g3:=Qpl Eu Er1 Er3
 have g4:=Qpl Ev Er4 Er4
 have hw:fe r4=Qal (fe u) (fe v):=by
  rw [fr4,fr3,fr1,fr2,fr1]; unfold Qal
  rw [show (1*fe u*(1*fe v*fe v*fe v)*(1*fe v*fe v*fe v)*fe v)=fe u*(fe v*fe v*fe v)*(fe v*fe v*fe v)*fe v from by grobner]
  generalize Go.Fp.pow _ _=p
  grobner
 have hjj:fe j=jj:=by rw [fj,ftwo]; rfl
 have l1:=Eu.len
 have l2:=Ev.len
 have l3:=Er1.len
 have l4:=Er4.len
 have l5:=Er5.len
 have l6:=Eq.len
 have l7:=En1.len
 have l8:=En2.len
 have hz5:Qa 5 (Value.int .u64 0)=ns .u64 [0,0,0,0,0]:=rfl
 have hf5:fillL (ns .u64 [0,0,0,0,0]) []=some (ns .u64 [0,0,0,0,0]):=rfl
 have l0:([0,0,0,0,0]:List Nat).length=5:=rfl
 clear Ej Etwo ftwo fj
 generalize dig 256 32 (2^252-1-2)=K1,dig 256 32 (2^253-1-4)=K2 at *
 have hsq:fe r5=fe v*Qal (fe u) (fe v)*Qal (fe u) (fe v):=by rw [fr5,hw]; generalize Qal (fe u) (fe v)=w; grobner
 have evn:∀ a:Go.Fp.Fe,a.val%2=1→(-a).val%2=0 ∨ -a=0:=by
  intro a ha
  left
  have hlt:=a.isLt
  have h0:(Go.Fp.P-a.val)<Go.Fp.P:=by omega
  have h1:(-a).val=(Go.Fp.P-a.val)%Go.Fp.P:=rfl
  rw [h1,Z5 h0]
  have hP:Go.Fp.P%2=1:=by rw [Go.Fp.Qd4]
  omega
 by_cases hA:fe r5=fe u
 ·rw [decide_eq_true hA] at k1
  have hroot:fe v*(fe r4*fe r4)=fe u:=by rw [←hA,hsq,hw]; generalize Qal (fe u) (fe v)=w; grobner
  by_cases hO:(fe r4).val%2=1
  ·rw [decide_eq_true hO] at o1
   refine ⟨n1,true,?_,En1,fun _=>⟨?_,?_⟩,fun h=>by cases h⟩
   ·apply Jx
    apply Zu
    rw [Zz (fn:=a60) rfl]
    simp only [a60,Zw,quiet,cF,↓pF,reduceCtorEq,Qb,Qq,Zj,Zd,Zg,Zc,Q8,Qf,Q0,Qe,Qz,Q6,Q5,↓Zy,↓Zx,↓Z7,↓Jb,↓Z9,↓Ja,cL,Qp,Qo,Qy,Qx,Qv,Ql,Qk,Qw,Qc,Q1,Q2,Qr,Qg,Qi,Qh,Qu,Qt,Qs,Qn,Qd,cJ,hz5,hf5,l0,g1,g2,g3,g4,c1,c2,hr1,hr2,hr3,hr4,hr5,k1,o1,hn1,l1,l2,l3,l4,l5,l7,Q4,Ji,Jf,Jt,Ku,Ju,J0,Ko]
    rfl
   ·rw [fn1,←hroot]; generalize fe r4=w; grobner
   ·rw [fn1]; exact evn _ hO
  ·rw [decide_eq_false hO] at o1
   refine ⟨r4,true,?_,Er4,fun _=>⟨hroot,by left; omega⟩,fun h=>by cases h⟩
   apply Jx
   apply Zu
   rw [Zz (fn:=a60) rfl]
   simp only [a60,Zw,quiet,cF,↓pF,reduceCtorEq,Qb,Qq,Zj,Zd,Zg,Zc,Q8,Qf,Q0,Qe,Qz,Q6,Q5,↓Zy,↓Zx,↓Z7,↓Jb,↓Z9,↓Ja,cL,Qp,Qo,Qy,Qx,Qv,Ql,Qk,Qw,Qc,Q1,Q2,Qr,Qg,Qi,Qh,Qu,Qt,Qs,Qn,Qd,cJ,hz5,hf5,l0,g1,g2,g3,g4,c1,c2,hr1,hr2,hr3,hr4,hr5,k1,o1,hn1,l1,l2,l3,l4,l5,l7,Q4,Ji,Jf,Jt,Ku,Ju,J0,Ko]
   rfl
 ·rw [decide_eq_false hA] at k1
  by_cases hB:fe r5=fe nu
  ·rw [decide_eq_true hB] at k2
   have hroot:fe v*(fe q*fe q)=fe u:=by
    have hs:=jj_sq
    rw [hsq,fnu] at hB
    rw [fq,hw,hjj]
    generalize Qal (fe u) (fe v)=w at *
    clear k1 k2 o1 o2 c1 c2 hA hsq hw fr1 fr2 fr3 fr4 fr5
    grobner
   by_cases hO:(fe q).val%2=1
   ·rw [decide_eq_true hO] at o2
    refine ⟨n2,true,?_,En2,fun _=>⟨?_,?_⟩,fun h=>by cases h⟩
    ·apply Jx
     apply Zu
     rw [Zz (fn:=a60) rfl]
     simp only [a60,Zw,quiet,cF,↓pF,reduceCtorEq,Qb,Qq,Zj,Zd,Zg,Zc,Q8,Qf,Q0,Qe,Qz,Q6,Q5,↓Zy,↓Zx,↓Z7,↓Jb,↓Z9,↓Ja,cL,Qp,Qo,Qy,Qx,Qv,Ql,Qk,Qw,Qc,Q1,Q2,Qr,Qg,Qi,Qh,Qu,Qt,Qs,Qn,Qd,cJ,hz5,hf5,l0,g1,g2,g3,g4,c1,c2,hr1,hr2,hr3,hr4,hr5,k1,k2,hnu,vtwo,hj,hq,o2,hn2,l1,l2,l3,l4,l5,l6,l8,Q4,Ji,Jf,Jt,Ku,Ju,J0,Ko]
     rfl
    ·rw [fn2,←hroot]; generalize fe q=w; grobner
    ·rw [fn2]; exact evn _ hO
   ·rw [decide_eq_false hO] at o2
    refine ⟨q,true,?_,Eq,fun _=>⟨hroot,by left; omega⟩,fun h=>by cases h⟩
    apply Jx
    apply Zu
    rw [Zz (fn:=a60) rfl]
    simp only [a60,Zw,quiet,cF,↓pF,reduceCtorEq,Qb,Qq,Zj,Zd,Zg,Zc,Q8,Qf,Q0,Qe,Qz,Q6,Q5,↓Zy,↓Zx,↓Z7,↓Jb,↓Z9,↓Ja,cL,Qp,Qo,Qy,Qx,Qv,Ql,Qk,Qw,Qc,Q1,Q2,Qr,Qg,Qi,Qh,Qu,Qt,Qs,Qn,Qd,cJ,hz5,hf5,l0,g1,g2,g3,g4,c1,c2,hr1,hr2,hr3,hr4,hr5,k1,k2,hnu,vtwo,hj,hq,o2,hn2,l1,l2,l3,l4,l5,l6,l8,Q4,Ji,Jf,Jt,Ku,Ju,J0,Ko]
    rfl
  ·rw [decide_eq_false hB] at k2
   refine ⟨[0,0,0,0,0],false,?_,Qkm,fun h=>(by cases h),fun _ s=>Q9n (by rw [←hsq]; exact hA) (by rw [←hsq,←fnu]; exact hB)⟩
   apply Jx
   apply Zu
   rw [Zz (fn:=a60) rfl]
   simp only [a60,Zw,quiet,cF,↓pF,reduceCtorEq,Qb,Qq,Zj,Zd,Zg,Zc,Q8,Qf,Q0,Qe,Qz,Q6,Q5,↓Zy,↓Zx,↓Z7,↓Jb,↓Z9,↓Ja,cL,Qp,Qo,Qy,Qx,Qv,Ql,Qk,Qw,Qc,Q1,Q2,Qr,Qg,Qi,Qh,Qu,Qt,Qs,Qn,Qd,cJ,hz5,hf5,l0,g1,g2,g3,g4,c1,c2,hr1,hr2,hr3,hr4,hr5,k1,k2,hnu,l1,l2,l3,l4,l5,Q4,Ji,Jf,Jt,Ku,Ju,J0,Ko]
   rfl
structure Jac where
 x:Nat
 y:Nat
 z:Nat
 t:Nat
structure JRep (a:Jac) (p:Go.Cv.Pt Go.Fp.P Go.Fp.d):Prop where
 nz:Go.Fp.fp a.z≠0
 x:Go.Fp.fp a.x=p.x*Go.Fp.fp a.z
 y:Go.Fp.fp a.y=p.y*Go.Fp.fp a.z
 t:Go.Fp.fp a.t=p.x*p.y*Go.Fp.fp a.z
def Qs9 (a b:Nat):Nat:=a+(Go.Fp.P-b%Go.Fp.P)
theorem Qer (a b:Nat):Go.Fp.fp (Qs9 a b)=Go.Fp.fp a-Go.Fp.fp b:=by
 unfold Qs9
 have h:b%Go.Fp.P≤Go.Fp.P:=W3 (Jo _ (by rw [Go.Fp.Qd4]; decide))
 rw [Go.Fp.Dg,Go.Fp.Q59 h,Go.Fp.Zd9,Go.Fp.Ra]
 grobner
def Ql9 (a b:Jac):Nat:=Qs9 a.y a.x*Qs9 b.y b.x%Go.Fp.P
def Ql8 (a b:Jac):Nat:=(a.y+a.x)*(b.y+b.x)%Go.Fp.P
def Ql7 (a b:Jac):Nat:=1*2*Go.Fp.dN*a.t*b.t%Go.Fp.P
def Ql6 (a b:Jac):Nat:=1*2*a.z*b.z%Go.Fp.P
def jfin (a b c e:Nat):Jac:=⟨Qs9 b a*Qs9 e c%Go.Fp.P,(e+c)*(b+a)%Go.Fp.P,Qs9 e c*(e+c)%Go.Fp.P,Qs9 b a*(b+a)%Go.Fp.P⟩
def Qti (a b:Jac):Jac:=jfin (Ql9 a b) (Ql8 a b) (Ql7 a b) (Ql6 a b)
theorem JRep.add {a b:Jac} {p q:Go.Cv.Pt Go.Fp.P Go.Fp.d} (h1:JRep a p) (h2:JRep b q):JRep (Qti a b) (W6 p q):=by
 have ha:Go.Fp.fp (Ql9 a b)=(Go.Fp.fp a.y-Go.Fp.fp a.x)*(Go.Fp.fp b.y-Go.Fp.fp b.x):=by
  unfold Ql9; rw [Go.Fp.Ra,Go.Fp.Ge,Qer,Qer]
 have hb:Go.Fp.fp (Ql8 a b)=(Go.Fp.fp a.y+Go.Fp.fp a.x)*(Go.Fp.fp b.y+Go.Fp.fp b.x):=by
  unfold Ql8; rw [Go.Fp.Ra,Go.Fp.Ge,Go.Fp.Dg,Go.Fp.Dg]
 have hc:Go.Fp.fp (Ql7 a b)=1*2*Go.Fp.d*Go.Fp.fp a.t*Go.Fp.fp b.t:=by
  unfold Ql7; rw [Go.Fp.Ra,Go.Fp.Ge,Go.Fp.Ge,Go.Fp.Ge,Go.Fp.Ge,Go.Fp.Qq5,Go.Fp.Q58]; rfl
 have hd:Go.Fp.fp (Ql6 a b)=1*2*Go.Fp.fp a.z*Go.Fp.fp b.z:=by
  unfold Ql6; rw [Go.Fp.Ra,Go.Fp.Ge,Go.Fp.Ge,Go.Fp.Ge,Go.Fp.Qq5,Go.Fp.Q58]
 have hx:Go.Fp.fp (Qti a b).x=(Go.Fp.fp (Ql8 a b)-Go.Fp.fp (Ql9 a b))*(Go.Fp.fp (Ql6 a b)-Go.Fp.fp (Ql7 a b)):=by
  show Go.Fp.fp (_%_)=_; rw [Go.Fp.Ra,Go.Fp.Ge,Qer,Qer]
 have hy:Go.Fp.fp (Qti a b).y=(Go.Fp.fp (Ql6 a b)+Go.Fp.fp (Ql7 a b))*(Go.Fp.fp (Ql8 a b)+Go.Fp.fp (Ql9 a b)):=by
  show Go.Fp.fp (_%_)=_; rw [Go.Fp.Ra,Go.Fp.Ge,Go.Fp.Dg,Go.Fp.Dg]
 have hz:Go.Fp.fp (Qti a b).z=(Go.Fp.fp (Ql6 a b)-Go.Fp.fp (Ql7 a b))*(Go.Fp.fp (Ql6 a b)+Go.Fp.fp (Ql7 a b)):=by
  show Go.Fp.fp (_%_)=_; rw [Go.Fp.Ra,Go.Fp.Ge,Go.Fp.Dg,Qer]
 have ht:Go.Fp.fp (Qti a b).t=(Go.Fp.fp (Ql8 a b)-Go.Fp.fp (Ql9 a b))*(Go.Fp.fp (Ql8 a b)+Go.Fp.fp (Ql9 a b)):=by
  show Go.Fp.fp (_%_)=_; rw [Go.Fp.Ra,Go.Fp.Ge,Go.Fp.Dg,Qer]
 obtain ⟨g1,g2,g3,g4⟩:=Qot h1.x h1.y h1.t h2.x h2.y h2.t ha hb hc hd hx hy hz ht (Go.Cv.Qfj Go.Fp.fld p q) (Go.Cv.Qb1 Go.Fp.fld p q)
 refine ⟨?_,g1,g2,g3⟩
 rw [g4]
 have F:=Go.Fp.fld
 have w:=F.mul_ne (F.mul_ne F.two h1.nz) h2.nz
 exact F.mul_ne (F.mul_ne w w) (F.mul_ne (F.denM p.on q.on) (F.denP p.on q.on))
def Q0s (p:Jac):Nat→Nat→Jac
 | 0,_=>⟨0,1,1,0⟩
 | f+1,k=>(fun r=>if k%2=1 then Qti (Qti r r) p else Qti r r) (Q0s p f (k/2))
theorem JRep.mul {a:Jac} {p:Go.Cv.Pt Go.Fp.P Go.Fp.d} (h:JRep a p):∀ {f k:Nat},k<2^f→JRep (Q0s a f k) (Ys k p)
 | 0,k,hk=>by
  have:k=0:=by omega
  subst this
  exact ⟨Go.Fp.Mk,by show (0:Go.Fp.Fe)=0*1; grobner,by show (1:Go.Fp.Fe)=1*1; grobner,by show (0:Go.Fp.Fe)=0*1*1; grobner⟩
 | f+1,k,hk=>by
  have ih:=JRep.mul h (f:=f) (k:=k/2) (by omega)
  have hb:=Jo k (by decide:0<2)
  have e:Ys k p=Ys (2*(k/2)+k%2) p:=by rw [Ya]
  rw [e,Qor p (k/2) (k%2) hb]
  simp only [Q0s]
  split
  ·exact (ih.add ih).add h
  ·exact ih.add ih
def Qyi:Jac:=⟨bxN,byN,1,bxN*byN%Go.Fp.P⟩
theorem Qpe:JRep Qyi Un:=by
 have h1:Go.Fp.fp 1=(1:Go.Fp.Fe):=rfl
 refine ⟨Go.Fp.Mk,?_,?_,?_⟩
 ·show Go.Fp.fp bxN=Go.Fp.fp bxN*Go.Fp.fp 1; rw [h1]; grobner
 ·show Go.Fp.fp byN=Go.Fp.fp byN*Go.Fp.fp 1; rw [h1]; grobner
 ·show Go.Fp.fp (bxN*byN%Go.Fp.P)=Go.Fp.fp bxN*Go.Fp.fp byN*Go.Fp.fp 1; rw [h1,Go.Fp.Ra,Go.Fp.Ge]; grobner
theorem Qww:Ys 8 Un≠Bt:=fun h=>by
 have r:=Qpe.mul (f:=4) (k:=8) (by decide)
 rw [h] at r
 have hx:=r.x
 rw [show (Bt:Go.Cv.Pt Go.Fp.P Go.Fp.d).x=0 from rfl] at hx
 have h0:Go.Fp.fp (Q0s Qyi 4 8).x=Go.Fp.fp 0:=by rw [hx]; show _=(0:Go.Fp.Fe); grobner
 have h1:=Go.Fp.Qjo.1 h0
 have h2:(Q0s Qyi 4 8).x%Go.Fp.P≠0%Go.Fp.P:=by decide +kernel
 exact h2 h1
theorem Q5k {a:Jac} {q:Go.Cv.Pt Go.Fp.P Go.Fp.d} (r:JRep a q) (c1:a.x%Go.Fp.P=0%Go.Fp.P) (c2:a.y%Go.Fp.P=a.z%Go.Fp.P):q=Bt:=by
 have d1:=Go.Fp.Qjo.2 c1
 have d2:=Go.Fp.Qjo.2 c2
 have F:=Go.Fp.fld
 have hx:=r.x
 have hy:=r.y
 have hz:=r.nz
 rw [d1] at hx
 rw [d2] at hy
 generalize Go.Fp.fp a.z=z at *
 apply Go.Cv.Pt.ext
 ·show _=(0:Go.Fp.Fe)
  have h0:Go.Fp.fp 0=(0:Go.Fp.Fe):=rfl
  rw [h0] at hx
  refine F.cancel hz ?_
  generalize q.x=w at *
  clear r hy d1 d2
  grobner
 ·show _=(1:Go.Fp.Fe)
  refine F.cancel hz ?_
  generalize q.y=w at *
  clear r hx d1 d2
  grobner
def Qyu (a:Jac):Bool:=Nat.beq (a.x%Go.Fp.P) 0&&Nat.beq (a.y%Go.Fp.P) (a.z%Go.Fp.P)
theorem Q6m:Qyu (Q0s Qyi 253 ell)=true:=by decide +kernel
theorem Qtz:Ys ell Un=Bt:=by
 have h:=Q6m
 simp only [Qyu,Yw] at h
 exact Q5k (Qpe.mul (f:=253) (k:=ell) (by decide +kernel)) (Nat.eq_of_beq_eq_true h.1) (Nat.eq_of_beq_eq_true h.2)
theorem Zq {α:Type} {x y:Option α}:R7 (.bool true) true x y=x:=Eq.trans rfl rfl
theorem Zt {α:Type} {x y:Option α}:R7 (.bool false) false x y=x:=Eq.trans rfl rfl
theorem Zr {α:Type} {x y:Option α}:R7 (.bool true) false x y=y:=Eq.trans rfl rfl
theorem Zs {α:Type} {x y:Option α}:R7 (.bool false) true x y=y:=Eq.trans rfl rfl
theorem Zo {t:Nat} {v:Value} {l:Env}:Q5i t (some v) l=(t,v)::l:=Eq.trans rfl rfl
theorem Zl {α:Type} {v:α} {y:Option α}:Qgl (some v) y=some v:=Eq.trans rfl rfl
theorem Qh8 {T:Tab} {b:Nat} {q:Bool}:∀ (o1 o2:List AOper) (s:St),steps T b q (o1++o2) s=(steps T b q o1 s).bind (steps T b q o2)
 | [],o2,s=>rfl
 | o::o1,o2,s=>by
  rw [Ze]
  unfold steps
  cases hg:guardOf s.env o.guard with
  | none=>rfl
  | some g =>
   cases g with
   | true =>
    simp only
    cases hx:Wj T o.op s.env s.h with
    | none=>rfl
    | some x =>
     simp only [Zb]
     split
     ·rfl
     ·exact Qh8 o1 o2 _
   | false=>exact Qh8 o1 o2 _
theorem Zm {T:Tab} {b:Nat} {q:Bool} {a1 a2 a3 a4 a5 a6 a7:AOper} {r:List AOper} {s:St}:steps T b q (a1::a2::a3::a4::a5::a6::a7::r) s=(steps T b q [a1,a2,a3,a4,a5,a6] s).bind fun s'=>steps T b q (a7::r) s':=by
 rw [←Qh8]; rfl
theorem Qqn {a:Go.Fp.Fe} (h0:a≠0):(-a).val%2≠a.val%2:=by
 have hlt:=a.isLt
 have hne:a.val≠0:=fun h=>h0 (Fin.ext h)
 have h1:(-a).val=(Go.Fp.P-a.val)%Go.Fp.P:=rfl
 have h2:(Go.Fp.P-a.val)<Go.Fp.P:=by omega
 rw [h1,Z5 h2]
 have hP:Go.Fp.P%2=1:=by rw [Go.Fp.Qd4]
 omega
theorem Qxq {a b:Go.Fp.Fe} (h:a*a=b*b):a=b∨a = -b:=by
 have F:=Go.Fp.fld
 have:(a-b)*(a+b)=0:=by grobner
 rcases F.dom this with h1 | h1
 ·left; clear h this; grobner
 ·right; clear h this; grobner
theorem Zdh (dd z:Go.Fp.Fe) (hz:z=0):dd*(z*z)+1=1:=by grobner
theorem Qwy (y:Go.Fp.Fe):Go.Fp.d*(y*y)+1≠0:=fun h=>by
 have F:=Go.Fp.fld
 have hy:y≠0:=by
  intro h0
  rw [Zdh _ _ h0] at h
  exact Go.Fp.Mk h
 have hi:=Go.Fp.Dz hy
 have hr:=Go.Fp.Qvg
 apply Go.Fp.nosq (Go.Fp.i*Go.Fp.iv y)
 generalize Go.Fp.d=dd,Go.Fp.i=ii,Go.Fp.iv y=w at *
 clear F hy
 have e1:dd*(y*w)*(y*w)+w*w=0:=by
  have:dd*(y*w)*(y*w)+w*w=(dd*(y*y)+1)*(w*w):=by clear h hi hr; grobner
  rw [this,h]; clear this h hi hr; grobner
 rw [hi] at e1
 have e2:ii*w*(ii*w)=(ii*ii)*(w*w):=by clear h hi hr e1; grobner
 rw [e2,hr]
 clear h hi hr e2
 grobner
theorem Q7n (p:Go.Cv.Pt Go.Fp.P Go.Fp.d):(Go.Fp.d*(p.y*p.y)+1)*(p.x*p.x)=p.y*p.y-1:=by
 have h:=p.on
 unfold Go.Cv.On at h
 generalize Go.Fp.d=dd,p.x=x,p.y=y at *
 grobner
theorem Q6l {p q:Go.Cv.Pt Go.Fp.P Go.Fp.d} (h:Qg1 p=Qg1 q):p=q:=by
 unfold Qg1 at h
 have h1:=Qc7 p.y
 have h2:=Qc7 q.y
 have h3:=Jo p.x.val (by decide:0<2)
 have h4:=Jo q.x.val (by decide:0<2)
 have hy:p.y.val=q.y.val:=by omega
 have hx:p.x.val%2=q.x.val%2:=by omega
 have hy':p.y=q.y:=Fin.ext hy
 have e1:=Q7n p
 have e2:=Q7n q
 rw [hy',←e2] at e1
 have e3:=Go.Fp.fld.cancel (Qwy q.y) e1
 refine Go.Cv.Pt.ext ?_ hy'
 rcases Qxq e3 with h | h
 ·exact h
 ·by_cases h0:q.x=0
  ·rw [h,h0]; grobner
  ·exfalso
   have:=Qqn h0
   rw [←h] at this
   exact this hx
theorem Qg0 (p q:Go.Cv.Pt Go.Fp.P Go.Fp.d):(enc p==enc q)=decide (p=q):=by
 unfold enc
 rw [key_inj (Qq7 p) (Qq7 q)]
 by_cases h:p=q
 ·subst h; rw [decide_eq_true rfl,decide_eq_true rfl]
 ·rw [decide_eq_false h,decide_eq_false (fun e=>h (Q6l e))]
theorem Zeb {a b:List Nat} {p q:Go.Cv.Pt Go.Fp.P Go.Fp.d} (ha:RepL a p) (hb:RepL b q):fillL (Qa 40 (Value.int .u64 0)) [(0,20,eV a),(20,20,eV b)]=some (ns .u64 [a,b].flatten):=by
 obtain ⟨x1,y1,z1,t1,rfl,h1⟩:=ha
 obtain ⟨x2,y2,z2,t2,rfl,h2⟩:=hb
 obtain ⟨a0,a1,a2,a3,a4,rfl,-⟩:=h1.ex.five
 obtain ⟨b0,b1,b2,b3,b4,rfl,-⟩:=h1.ey.five
 obtain ⟨c0,c1,c2,c3,c4,rfl,-⟩:=h1.ez.five
 obtain ⟨d0,d1,d2,d3,d4,rfl,-⟩:=h1.et.five
 obtain ⟨e0,e1,e2,e3,e4,rfl,-⟩:=h2.ex.five
 obtain ⟨f0,f1,f2,f3,f4,rfl,-⟩:=h2.ey.five
 obtain ⟨g0,g1,g2,g3,g4,rfl,-⟩:=h2.ez.five
 obtain ⟨i0,i1,i2,i3,i4,rfl,-⟩:=h2.et.five
 rfl
theorem Qbs (p q:Go.Cv.Pt Go.Fp.P Go.Fp.d):W6 p q=W6 q p:=Go.Cv.add_comm Go.Fp.fld p q
theorem Tw (p q r:Go.Cv.Pt Go.Fp.P Go.Fp.d):W6 (W6 p q) r=W6 p (W6 q r):=Go.Cv.add_assoc Go.Fp.fld p q r
theorem Qyr {k:List Nat} (lk:k.length=32) (xk:∀ x∈k,x<256) {p:Go.Cv.Pt Go.Fp.P Go.Fp.d}:enc p=k↔Qg1 p=num 256 k:=by
 have h1:=num_lt xk
 rw [lk] at h1
 have h2:=Tc (by decide:0<256) xk
 rw [lk] at h2
 constructor
 ·intro h
  have:=Bq (B:=256) (by decide) 32 (Qg1 p)
  rw [Z5 (Qq7 p)] at this
  rw [←this,←h]; rfl
 ·intro h
  unfold enc
  rw [h,h2]
theorem Qpn {p:Go.Cv.Pt Go.Fp.P Go.Fp.d} {V:Nat}:Qg1 p=V↔p.y.val=V%2^255∧p.x.val%2=V/2^255:=by
 have h1:=Qc7 p.y
 have h3:=Jo p.x.val (by decide:0<2)
 unfold Qg1
 constructor
 ·intro h; omega
 ·rintro ⟨h,h'⟩; rw [h,h',Ve,Nat.mod_add_div]
theorem Q4l {u v x y:Go.Fp.Fe} (hu:u=y*y-1) (hv:v=Go.Fp.d*(y*y)+1) (h:v*(x*x)=u):Go.Cv.On Go.Fp.d x y:=by
 unfold Go.Cv.On
 generalize Go.Fp.d=dd at *
 subst hu hv
 grobner
theorem Qyh {k:List Nat} (lk:k.length=32) (xk:∀ x∈k,x<256):∃ w,k[31]?=some w∧w<256∧w/128=num 256 k/2^255∧num 256 (k.set 31 (w&&&127))=num 256 k%2^255∧(∀ x∈k.set 31 (w&&&127),x<256)∧(k.set 31 (w&&&127)).length=32:=by
 obtain ⟨w,hw⟩:∃ w,k[31]?=some w:=⟨_,Q3 (by omega)⟩
 have hw':w<256:=xk w (Zp hw)
 have hV:=num_lt xk
 rw [lk] at hV
 have hg:=G8 (by decide:0<256) xk hw
 have hs:=Dl (B:=256) (w&&&127) hw
 have ha:w&&&127=w%128:=Dp w 7
 refine ⟨w,hw,hw',?_⟩
 rw [ha] at hs ⊢
 have e31:(256:Nat)^31=452312848583266388373324160190187140051835877600158453279131187530910662656:=by decide
 have e32:(256:Nat)^32=115792089237316195423570985008687907853269984665640564039457584007913129639936:=by decide
 have e255:(2:Nat)^255=57896044618658097711785492504343953926634992332820282019728792003956564819968:=by decide
 rw [e31] at hg hs
 rw [e32] at hV
 rw [e255]
 refine ⟨by omega,by omega,?_,by rw [Jk]; exact lk⟩
 intro x hx
 rcases Ho hx with h | h
 ·exact xk x h
 ·omega
def Qa8 (l:List Nat) (c:Int):Value := .tuple #[eV l,.int .i64 c]
theorem Qt6 {k:List Nat} (lk:k.length=32) (xk:∀ x∈k,x<256) :
  (∃ l p,evVal T 45 [.agg (u8s k).toArray]=some (Qa8 l 0)∧RepL l p∧enc p=k)∨(∃ l,evVal T 45 [.agg (u8s k).toArray]=some (Qa8 l 60)∧l.length=20∧∀ p,enc p≠k):=by
 obtain ⟨w,hw,hw',ht,hm,xm,lm⟩:=Qyh lk xk
 have hwc:=Wy hw
 have hset:=Ba k 31 (w&&&127)
 have o1:Vx .and .u8 (w:Int) 127=((w&&&127:Nat):Int):=T8 (k := .u8) (a:=w) (b:=127) rfl hw' (by decide)
 have hof:=Q0c lm xm
 have hcan:=Qub lm xm
 rw [hm] at hof hcan
 rw [Ha] at hof
 have hkey:∀ p:Go.Cv.Pt Go.Fp.P Go.Fp.d,enc p=k↔p.y.val=num 256 k%2^255∧p.x.val%2=num 256 k/2^255:=fun p=>by rw [Qyr lk xk,Qpn]
 rw [←ht] at hkey
 have Ey:=Qs6 (V:=num 256 k%2^255)
 have fy:fe (dig (2^51) 5 (num 256 k%2^255))=Go.Fp.fp (num 256 k%2^255):=by unfold fe; rw [Qir]
 generalize k.set 31 (w&&&127)=km,dig (2^51) 5 (num 256 k%2^255)=Y at *
 generalize num 256 k%2^255=V at *
 have hz20:∃ O,Qa 20 (Value.int .u64 0)=ns .u64 O∧O.length=20∧fillL (ns .u64 O) []=some (ns .u64 O):=⟨Qa 20 0,rfl,rfl,rfl⟩
 obtain ⟨O,hz20,l0,hf0⟩:=hz20
 have l1:=Ey.len
 have hz5:Qa 5 (Value.int .u64 0)=ns .u64 [0,0,0,0,0]:=rfl
 have l5:([0,0,0,0,0]:List Nat).length=5:=rfl
 have hbit:((((w/128:Nat):Int))==1)=decide (w/128=1):=by
  by_cases h:w/128=1
  ·rw [h]; rfl
  ·have:¬ (((w/128:Nat):Int)=1):=by omega
   rw [decide_eq_false h,beq_eq_false_iff_ne.2 this]
 have hshr:((w:Int)/128)=((w/128:Nat):Int):=rfl
 by_cases hV:V<Go.Fp.P
 ·rw [decide_eq_true hV] at hcan
  have hYv:(Go.Fp.fp V).val=V:=Z5 hV
  obtain ⟨one,hone⟩:∃ O:List Nat,O=[1,0,0,0,0]:=⟨_,rfl⟩
  have Eone:El one (2^52):=by rw [hone]; exact Qfw
  have vone:evVal T 73 [.int .u32 1]=some (eV one):=by rw [hone]; exact Q4k
  have fone:fe one=1:=by rw [hone]; exact Qfv
  clear hone
  obtain ⟨yy,hyy,Eyy,fyy⟩:=Uw Ey Ey
  obtain ⟨D,hD,ED,fD⟩:=Qmg
  obtain ⟨uu,huu,Euu,fuu⟩:=Qct Eyy Eone
  obtain ⟨dy,hdy,Edy,fdy⟩:=Uw ED Eyy
  obtain ⟨vv,sv,hvv,Evv,fvv⟩:=Mh (H:=[⟨u8s km,true,true,true,1⟩,⟨ns .u64 O,true,true,true,1⟩,⟨ns .u64 Y,true,true,true,1⟩,⟨ns .u64 yy,true,true,true,1⟩,⟨ns .u64 (dy++one),true,true,true,1⟩]) (id:=4) Edy Eone rfl
  simp only [Ze,Q9] at hvv
  obtain ⟨r,ok,hr,Er,hok,hno⟩:=Zc1 Euu Evv
  have hf2:=T4 Edy Eone
  have l6:=Eyy.len
  have l7:=Er.len
  have kz:=Q5l Er
  obtain ⟨nr,hnr,Enr,fnr⟩:=Qo6 Er
  obtain ⟨t1,ht1,Et1,ft1⟩:=Uw Er Ey
  obtain ⟨t2,ht2,Et2,ft2⟩:=Uw Enr Ey
  have g1:=Qjp Er Ey Eone Et1
  have g2:=Qjp Enr Ey Eone Et2
  rw [hz20] at g1 g2
  have q1:=Mz Er Ey Eone Et1
  have q2:=Mz Enr Ey Eone Et2
  have l8:=Enr.len
  have hu:fe uu=Go.Fp.fp V*Go.Fp.fp V-1:=by rw [fuu,fyy,fy,fone]
  have hv:fe vv=Go.Fp.d*(Go.Fp.fp V*Go.Fp.fp V)+1:=by rw [fvv,fdy,fD,fyy,fy,fone]
  have hyp:∀ p:Go.Cv.Pt Go.Fp.P Go.Fp.d,enc p=k→p.y=Go.Fp.fp V:=fun p hp=>Fin.ext (by rw [hYv]; exact ((hkey p).1 hp).1)
  have hxx:∀ p:Go.Cv.Pt Go.Fp.P Go.Fp.d,enc p=k→fe vv*(p.x*p.x)=fe uu:=fun p hp=>by
   have:=Q7n p
   rw [hyp p hp] at this
   rw [hu,hv]; exact this
  have rft:∀ b:Bool,rf (Value.tuple #[eV r,.bool b])=true:=fun b=>Hw (a:=eV r) (b := .bool b) (Ko r) rfl
  cases ok with
  | false =>
   refine .inr ⟨O,?_,l0,fun p hp=>hno rfl p.x (hxx p hp)⟩
   apply Jx
   apply Zu
   rw [Zz (fn:=a31) rfl]
   simp only [a31,↓Zm,Zw,quiet,cF,↓pF,reduceCtorEq,Qb,Qq,Zj,Zd,Zg,Zc,Q8,Qf,Q0,Qe,Qz,Q6,Q5,↓Zo,↓Zl,↓Zq,↓Zt,↓Zr,↓Zs,cL,Qp,Qo,Qy,Qx,Qv,Ql,Qk,Qw,Qc,Q1,Q2,Qr,Qg,Qi,Qh,Qu,Qt,Qs,Qn,Qd,cJ,cU,hz20,hf0,hz5,hwc,hset,o1,hof,hcan,hbit,hshr,vone,hyy,hD,huu,hdy,hf2,hvv,hr,Q4,Ji,Jf,Jt,Ku,Ju,J0,Zv,lk,lm,l0,l1,l5,l6,l7,Tp,Qsb,rft,Ko]
   rfl
  | true =>
   obtain ⟨hroot,hev⟩:=hok rfl
   have hev':(fe r).val%2=0:=by
    rcases hev with h | h
    ·exact h
    ·rw [h]; rfl
   by_cases hb:w/128=1
   ·rw [decide_eq_true hb] at hbit
    by_cases h0:fe r=0
    ·rw [decide_eq_true h0] at kz
     refine .inr ⟨O,?_,l0,fun p hp => ?_⟩
     ·apply Jx
      apply Zu
      rw [Zz (fn:=a31) rfl]
      simp only [a31,↓Zm,Zw,quiet,cF,↓pF,reduceCtorEq,Qb,Qq,Zj,Zd,Zg,Zc,Q8,Qf,Q0,Qe,Qz,Q6,Q5,↓Zo,↓Zl,↓Zq,↓Zt,↓Zr,↓Zs,cL,Qp,Qo,Qy,Qx,Qv,Ql,Qk,Qw,Qc,Q1,Q2,Qr,Qg,Qi,Qh,Qu,Qt,Qs,Qn,Qd,cJ,cU,hz20,hf0,hz5,hwc,hset,o1,hof,hcan,hbit,hshr,vone,hyy,hD,huu,hdy,hf2,hvv,hr,Q4,Ji,Jf,Jt,Ku,Ju,J0,Zv,lk,lm,l0,l1,l5,l6,l7,Tp,Qsb,rft,Ko,kz]
      rfl
     ·have h2:=((hkey p).1 hp).2
      have h3:=hxx p hp
      rw [←hroot,h0] at h3
      have h4:p.x*p.x=0*0:=Go.Fp.fld.cancel (by rw [hv]; exact Qwy _) h3
      rcases Qxq h4 with h5 | h5
      ·rw [h5,hb] at h2; exact absurd h2 (by decide)
      ·rw [h5,hb] at h2; exact absurd h2 (by decide)
    ·rw [decide_eq_false h0] at kz
     have hroot':fe vv*(-fe r * -fe r)=fe uu:=by rw [←hroot]; generalize fe r=a; generalize fe vv=b; grobner
     refine .inl ⟨pL nr Y one t2,⟨-fe r,Go.Fp.fp V,Q4l hu hv hroot'⟩,?_,⟨nr,Y,one,t2,rfl,Enr,Ey,Eone,Et2,by rw [fone]; exact Go.Fp.Mk,?_,?_,?_⟩,(hkey _).2 ⟨hYv,?_⟩⟩
     ·generalize pL nr Y one t2=L at *
      apply Jx
      apply Zu
      rw [Zz (fn:=a31) rfl]
      simp only [a31,↓Zm,Zw,quiet,cF,↓pF,reduceCtorEq,Qb,Qq,Zj,Zd,Zg,Zc,Q8,Qf,Q0,Qe,Qz,Q6,Q5,↓Zo,↓Zl,↓Zq,↓Zt,↓Zr,↓Zs,cL,Qp,Qo,Qy,Qx,Qv,Ql,Qk,Qw,Qc,Q1,Q2,Qr,Qg,Qi,Qh,Qu,Qt,Qs,Qn,Qd,cJ,cU,hz20,hf0,hz5,hwc,hset,o1,hof,hcan,hbit,hshr,vone,hyy,hD,huu,hdy,hf2,hvv,hr,Q4,Ji,Jf,Jt,Ku,Ju,J0,Zv,lk,lm,l0,l1,l5,l6,l7,Tp,Qsb,rft,Ko,kz,hnr,ht2,g2,q2,l8]
      rfl
     ·rw [fnr,fone]; show -fe r = -fe r*1; generalize fe r=a; grobner
     ·rw [fy,fone]; show Go.Fp.fp V=Go.Fp.fp V*1; generalize Go.Fp.fp V=a; grobner
     ·rw [ft2,fnr,fy,fone]; show -fe r*Go.Fp.fp V = -fe r*Go.Fp.fp V*1; generalize Go.Fp.fp V=a; generalize fe r=b; grobner
     ·have:=Qqn h0
      rw [hev'] at this
      show (-fe r).val%2=_
      rw [hb]; omega
   ·rw [decide_eq_false hb] at hbit
    refine .inl ⟨pL r Y one t1,⟨fe r,Go.Fp.fp V,Q4l hu hv hroot⟩,?_,⟨r,Y,one,t1,rfl,Er,Ey,Eone,Et1,by rw [fone]; exact Go.Fp.Mk,?_,?_,?_⟩,(hkey _).2 ⟨hYv,?_⟩⟩
    ·generalize pL r Y one t1=L at *
     apply Jx
     apply Zu
     rw [Zz (fn:=a31) rfl]
     simp only [a31,↓Zm,Zw,quiet,cF,↓pF,reduceCtorEq,Qb,Qq,Zj,Zd,Zg,Zc,Q8,Qf,Q0,Qe,Qz,Q6,Q5,↓Zo,↓Zl,↓Zq,↓Zt,↓Zr,↓Zs,cL,Qp,Qo,Qy,Qx,Qv,Ql,Qk,Qw,Qc,Q1,Q2,Qr,Qg,Qi,Qh,Qu,Qt,Qs,Qn,Qd,cJ,cU,hz20,hf0,hz5,hwc,hset,o1,hof,hcan,hbit,hshr,vone,hyy,hD,huu,hdy,hf2,hvv,hr,Q4,Ji,Jf,Jt,Ku,Ju,J0,Zv,lk,lm,l0,l1,l5,l6,l7,Tp,Qsb,rft,Ko,ht1,g1,q1]
     rfl
    ·rw [fone]; show fe r=fe r*1; generalize fe r=a; grobner
    ·rw [fy,fone]; show Go.Fp.fp V=Go.Fp.fp V*1; generalize Go.Fp.fp V=a; grobner
    ·rw [ft1,fy,fone]; show fe r*Go.Fp.fp V=fe r*Go.Fp.fp V*1; generalize Go.Fp.fp V=a; generalize fe r=b; grobner
    ·show (fe r).val%2=_
     rw [hev']; omega
 ·rw [decide_eq_false hV] at hcan
  refine .inr ⟨O,?_,l0,fun p hp=>hV ?_⟩
  ·apply Jx
   apply Zu
   rw [Zz (fn:=a31) rfl]
   simp only [a31,↓Zm,Zw,quiet,cF,↓pF,reduceCtorEq,Qb,Qq,Zj,Zd,Zg,Zc,Q8,Qf,Q0,Qe,Qz,Q6,Q5,↓Zo,↓Zl,↓Zq,↓Zt,↓Zr,↓Zs,cL,Qp,Qo,Qy,Qx,Qv,Ql,Qk,Qw,Qc,Q1,Q2,Qr,Qg,Qi,Qh,Qu,Qt,Qs,Qn,Qd,cJ,cU,hz20,hf0,hz5,hwc,hset,o1,hof,hcan,hbit,hshr,Q4,Ji,Jf,Jt,Ku,Ju,J0,Zv,lk,lm,l0,l1,l5,Ko]
   rfl
  ·rw [←((hkey p).1 hp).1]; exact p.y.isLt
def pf (n:Nat) (L:List Nat) (i:Nat):List Nat:=L.take i++Qa (n-i) 0
theorem Dj (n:Nat) (L:List Nat):pf n L 0=Qa n 0:=by simp [pf]
theorem Dk {n:Nat} {L:List Nat} (h:L.length=n):pf n L n=L:=by simp [pf,←h]
theorem Df {n:Nat} {L:List Nat} (h:L.length=n) {i:Nat} (hi:i≤n):(pf n L i).length=n:=by simp [pf]; omega
theorem Gu {n i x:Nat} {L:List Nat} (h:L.length=n) (hi:i<n) (hx:L[i]?=some x):(pf n L i).set i x=pf n L (i+1):=by
 unfold pf
 rw [Yu _ _ (by simp; omega)]
 have e1:(L.take i).length=i:=by simp; omega
 rw [e1,Jw]
 have e2:n-i=(n-(i+1))+1:=by omega
 rw [e2,Bi,Qc1,Ym,hx]
 simp
structure Nm (l:List Nat):Prop where
 len:l.length=16
 lt:∀ x∈l,x<65536
theorem Nm.num_lt {l:List Nat} (h:Nm l):num 65536 l<2^256:=by
 have:=Go.Ev.num_lt h.lt
 rw [h.len] at this
 exact this
theorem Nm.dig (v:Nat):Nm (dig 65536 16 v):=⟨Km _ _ _,fun x h=>Dh (by decide) h⟩
theorem Nm.eq {l:List Nat} (h:Nm l):l=Go.Ev.dig 65536 16 (num 65536 l):=by
 have:=Tc (B:=65536) (by decide) h.lt
 rw [h.len] at this
 exact this.symm
theorem Nm.inj {l m:List Nat} (h:Nm l) (h':Nm m) (e:num 65536 l=num 65536 m):l=m:=by rw [h.eq,h'.eq,e]
theorem D9 {v:Nat} (h:v<2^256):num 65536 (dig 65536 16 v)=v:=by
 rw [Bq (by decide)]; exact Z5 h
def nf (l:List Nat):Go.Fp.Fe:=Go.Fp.fp (num 65536 l)
theorem Qzb {k:List Nat} (xk:∀ x∈k,x<256) {i x y:Nat} (hx:k[2*i]?=some x) (hy:k[2*i+1]?=some y):num 256 k/65536^i%65536=x+256*y:=by
 have h1:=G8 (B:=256) (by decide) xk hx
 have h2:=G8 (B:=256) (by decide) xk hy
 have e:(65536:Nat)^i=256^(2*i):=by rw [show (65536:Nat)=256^2 from rfl,←Y5]
 rw [e]
 rw [Kv,←Kb] at h2
 omega
def Wi:List Nat:=Qa 16 0
theorem De:Qa 16 (Value.int .u64 0)=ns .u64 Wi:=rfl
theorem Qbd:fillL (ns .u64 Wi) []=some (ns .u64 Wi):=rfl
theorem Gt:Wi.length=16:=rfl
theorem wn {n:Nat} (h:n<9223372036854775808):IntKind.i64.wrap (n:Int)=n:=Yi h
theorem R2 {n:Nat} (h:n<18446744073709551616):IntKind.u64.wrap (n:Int)=n:=by rw [Qfi,Z5 h]
theorem Ri {a b:Nat} (h:a+b<18446744073709551616):IntKind.u64.wrap ((a:Int)+(b:Int))=((a+b:Nat):Int):=by rw [←Gw]; exact R2 h
theorem Qai {a b:Nat} (h:a*b<18446744073709551616):IntKind.u64.wrap ((a:Int)*(b:Int))=((a*b:Nat):Int):=by rw [←U1]; exact R2 h
theorem Yx {a b:Nat} (h:a+b<9223372036854775808):IntKind.i64.wrap ((a:Int)+(b:Int))=((a+b:Nat):Int):=by rw [←Gw]; exact wn h
theorem Qc5 {a b:Nat} (h:a*b<9223372036854775808):IntKind.i64.wrap ((a:Int)*(b:Int))=((a*b:Nat):Int):=by rw [←U1]; exact wn h
def Qvh (k o:List Nat) (i:Int) (ex:Env):St:=⟨[(1,.pointer (some ⟨0,0,none⟩)),(2,.pointer (some ⟨1,0,none⟩)),(3,.pointer (some ⟨2,0,none⟩)),(4,.int .i64 i)]++ex,[⟨u8s k,true,true,true,1⟩,⟨ns .u64 Wi,true,true,true,1⟩,⟨ns .u64 o,true,true,true,1⟩],[]⟩
theorem Q3i {k:List Nat} {i:Nat} (lk:k.length=32) (xk:∀ x∈k,x<256) (hi:i<16) :
  Jl T 0 Qm6 (Qvh k (pf 16 (dig 65536 16 (num 256 k)) i) i [])=some (.normal,Qvh k (pf 16 (dig 65536 16 (num 256 k)) (i+1)) ((i+1:Nat):Int) []):=by
 obtain ⟨x,hx⟩:∃ x,k[2*i]?=some x:=⟨_,Q3 (by omega)⟩
 obtain ⟨y,hy⟩:∃ y,k[2*i+1]?=some y:=⟨_,Q3 (by omega)⟩
 have hx':=xk x (Zp hx)
 have hy':=xk y (Zp hy)
 have hd:=Qzb xk hx hy
 have hg:(dig 65536 16 (num 256 k))[i]?=some (x+256*y):=by rw [B6 hi,hd]
 have hstep:=Gu (Km _ _ _) hi hg
 have hlen:=Df (Km 65536 16 (num 256 k)) (W3 hi)
 have hset:=Bf .u64 (pf 16 (dig 65536 16 (num 256 k)) i) i (x+256*y)
 rw [hstep] at hset
 have hxc:=Wy hx
 have hyc:=Wy hy
 have w1:IntKind.i64.wrap ((i:Int)+1)=((i+1:Nat):Int):=Yx (b:=1) (by omega)
 have w2:IntKind.i64.wrap (2*(i:Int))=((2*i:Nat):Int):=Qc5 (a:=2) (by omega)
 have w3:IntKind.i64.wrap (((2*i:Nat):Int)+1)=((2*i+1:Nat):Int):=Yx (b:=1) (by omega)
 have w4:IntKind.u64.wrap (x:Int)=(x:Int):=R2 (by omega)
 have w5:IntKind.u64.wrap (y:Int)=(y:Int):=R2 (by omega)
 have w6:IntKind.u64.wrap (256*(y:Int))=((256*y:Nat):Int):=Qai (a:=256) (by omega)
 have w7:IntKind.u64.wrap ((x:Int)+((256*y:Nat):Int))=((x+256*y:Nat):Int):=Ri (by omega)
 have e1:((i:Int)<16)=True:=eq_true (by omega)
 have e2:(((2*i:Nat):Int)<32)=True:=eq_true (by omega)
 have e3:(((2*i+1:Nat):Int)<32)=True:=eq_true (by omega)
 have e4:(i≤15)=True:=eq_true (by omega)
 generalize pf 16 (dig 65536 16 (num 256 k)) i=o at *
 generalize hj:2*i=j at *
 generalize hj1:j+1=j1 at *
 generalize hv:256*y=v at *
 simp only [Qvh,Qm6,Zw,quiet,cF,↓pF,reduceCtorEq,Qb,Qq,Zj,Zd,Zg,Zc,Q8,Qf,Q0,Qe,Qz,Q6,Q5,↓Zy,↓Zx,↓Z7,↓Jb,↓Z9,↓Ja,cL,Qp,Qo,Qy,Qx,Qv,Ql,Qk,Qw,Qc,Q1,Q2,Qr,Qg,Qi,Qh,Qu,Qt,Qs,Qn,Qd,cJ,hxc,hyc,w1,w2,w3,w4,w5,w6,w7,e1,e2,e3,e4,hset,J0,hlen]
theorem rof_v {k:List Nat} (lk:k.length=32) (xk:∀ x∈k,x<256):evVal T 104 [.agg (u8s k).toArray]=some (eV (dig 65536 16 (num 256 k%2^255))):=by
 have hb:=Wf (T:=T) (base:=0) (id:=0) (body:=Qm6) (fun i=>Qvh k (pf 16 (dig 65536 16 (num 256 k)) i) i []) (s':=Qvh k (dig 65536 16 (num 256 k)) 16 [(7,.bool false)]) 16
  (fun i hi=>Q3i lk xk hi) (by
   rw [Dk (Km _ _ _)]
   simp only [Qvh,Qm6,Zw,quiet,cF,↓pF,reduceCtorEq,Qb,Qq,Zj,Zd,Zg,Zc,Q8,Qf,Q0,Qe,Qz,Q6,Q5,↓Zy,↓Zx,↓Z7,↓Jb,↓Z9,↓Ja,cL,Qp,Qo,Qy,Qx,Qv,Ql,Qk,Qw,Qc,Q1,Q2,Qr,Qg,Qi,Qh,Qu,Qt,Qs,Qn,Qd])
 rw [Dj] at hb
 have hV:=num_lt xk
 rw [lk] at hV
 have hN:=Nm.dig (num 256 k)
 obtain ⟨w,hw⟩:∃ w,(dig 65536 16 (num 256 k))[15]?=some w:=⟨_,Q3 (by rw [Km]; omega)⟩
 have hw':=hN.lt w (Zp hw)
 have hwv:w=num 256 k/65536^15%65536:=by rw [B6 (by decide)] at hw; exact (B0 hw).symm
 have hs:=Dl (B:=65536) (w%32768) hw
 rw [D9 hV] at hs
 have hfin:(dig 65536 16 (num 256 k)).set 15 (w%32768)=dig 65536 16 (num 256 k%2^255):=by
  have hNs:Nm ((dig 65536 16 (num 256 k)).set 15 (w%32768)):=⟨by rw [Jk,Km],Hl hN.lt (by omega)⟩
  refine hNs.eq.trans (congrArg (dig 65536 16) ?_)
  have e15:(65536:Nat)^15=1766847064778384329583297500742918515827483896875618958121606201292619776:=by decide
  have e255:(2:Nat)^255=57896044618658097711785492504343953926634992332820282019728792003956564819968:=by decide
  have e256:(256:Nat)^32=115792089237316195423570985008687907853269984665640564039457584007913129639936:=by decide
  have hq:w=num 256 k/65536^15:=by
   rw [e15] at hwv ⊢
   rw [e256] at hV
   omega
  have hq2:num 256 k/2^255=w/32768:=by
   rw [hq,e15,e255]
   omega
  have hdm:=Ya (num 256 k) (2^255)
  rw [hq2] at hdm
  rw [e15] at hs
  rw [e255] at *
  omega
 have hset:=Bf .u64 (dig 65536 16 (num 256 k)) 15 (w%32768)
 rw [hfin] at hset
 have hwc:=Yy (k := .u64) hw
 have l1:=Km 65536 16 (num 256 k)
 have l2:=Km 65536 16 (num 256 k%2^255)
 have hm:((w:Int).tmod 32768)=((w%32768:Nat):Int):=rfl
 have wm:IntKind.u64.wrap ((w%32768:Nat):Int)=((w%32768:Nat):Int):=R2 (by omega)
 simp only [Qvh,Ze,Q9,J6] at hb
 have hz:=De
 have hf:=Qbd
 have lz:=Gt
 rw [show Qa 16 0=Wi from rfl] at hb
 generalize Wi=Z,dig 65536 16 (num 256 k)=D,dig 65536 16 (num 256 k%2^255)=R at *
 apply Jx
 apply Zu
 rw [Zz (fn:=a65) rfl]
 simp only [a65,↓Zm,Zw,quiet,cF,↓pF,reduceCtorEq,Qb,Qq,Zj,Zd,Zg,Zc,Q8,Qf,Q0,Qe,Qz,Q6,Q5,↓Zo,↓Zl,↓Zq,↓Zt,↓Zr,↓Zs,cL,Qp,Qo,Qy,Qx,Qv,Ql,Qk,Qw,Qc,Q1,Q2,Qr,Qg,Qi,Qh,Qu,Qt,Qs,Qn,Qd,cJ,hz,hf,hb,hwc,hm,wm,hset,Q4,Ji,Jf,Jt,Ku,Ju,J0,Zv,lk,l1,l2,lz,Ko]
 rfl
theorem Qj7 {a b:Nat} (h:b≤a) (ha:a<18446744073709551616):IntKind.u64.wrap ((a:Int)-(b:Int))=((a-b:Nat):Int):=by rw [Tm]; omega
theorem Qjs {n:Nat} {p q:List Nat} (hp:p.length=n) (hq:q.length=n):Wt (Qa n true) (ns .u64 p) (ns .u64 q)=some (p==q):=by
 induction n generalizing p q with
 | zero=>cases p with
  | nil=>cases q with
   | nil=>rfl
   | cons=>cases hq
  | cons=>cases hp
 | succ n ih=>cases p with
  | nil=>cases hp
  | cons a p=>cases q with
   | nil=>cases hq
   | cons b q =>
    have:=ih (p:=p) (q:=q) (by simpa using hp) (by simpa using hq)
    rw [Rk,Rk,Bi]
    simp only [Wt,this,Qdz,if_true,Zb,List.cons_beq_cons]
    congr 2
    by_cases h:a=b
    ·subst h; simp
    ·have h':¬ (a:Int)=(b:Int):=by omega
     rw [beq_eq_false_iff_ne.2 h,beq_eq_false_iff_ne.2 h']
def Hn:List Nat:=dig 65536 16 Go.Fp.P
theorem Mo:Nm Hn:=Nm.dig _
theorem Tu:num 65536 Hn=Go.Fp.P:=by decide +kernel
def Qvf (o:List Nat) (i:Int) (ex:Env):St:=⟨[(0,.pointer (some ⟨0,0,none⟩)),(1,.pointer (some ⟨1,0,none⟩)),(2,.int .i64 i)]++ex,[⟨ns .u64 Wi,true,true,true,1⟩,⟨ns .u64 o,true,true,true,1⟩],[]⟩
theorem Q3f {i:Nat} (hi:i<16) :
  Jl T 0 Qmv (Qvf (pf 16 (Qa 16 65535) i) i [])=some (.normal,Qvf (pf 16 (Qa 16 65535) (i+1)) ((i+1:Nat):Int) []):=by
 have hl:(Qa 16 65535).length=16:=rfl
 have hg:(Qa 16 65535)[i]?=some 65535:=by rw [R1,if_pos hi]
 have hstep:=Gu hl hi hg
 have hlen:=Df hl (W3 hi)
 have hset:=Bf .u64 (pf 16 (Qa 16 65535) i) i 65535
 rw [hstep] at hset
 have hset':(ns .u64 (pf 16 (Qa 16 65535) i)).set i (.int .u64 65535)=ns .u64 (pf 16 (Qa 16 65535) (i+1)):=hset
 clear hset
 have w1:IntKind.i64.wrap ((i:Int)+1)=((i+1:Nat):Int):=Yx (b:=1) (by omega)
 have e1:((i:Int)<16)=True:=eq_true (by omega)
 have e4:(i≤15)=True:=eq_true (by omega)
 generalize pf 16 (Qa 16 65535) i=o at *
 simp only [Qvf,Qmv,Zw,quiet,cF,↓pF,reduceCtorEq,Qb,Qq,Zj,Zd,Zg,Zc,Q8,Qf,Q0,Qe,Qz,Q6,Q5,↓Zy,↓Zx,↓Z7,↓Jb,↓Z9,↓Ja,cL,Qp,Qo,Qy,Qx,Qv,Ql,Qk,Qw,Qc,Q1,Q2,Qr,Qg,Qi,Qh,Qu,Qt,Qs,Qn,Qd,cJ,w1,e1,e4,hset',J0,hlen]
theorem Qde:evVal T 153 []=some (eV Hn):=by
 have hb:=Wf (T:=T) (base:=0) (id:=0) (body:=Qmv) (fun i=>Qvf (pf 16 (Qa 16 65535) i) i []) (s':=Qvf (Qa 16 65535) 16 [(5,.bool false)]) 16
  (fun i hi=>Q3f hi) (by
   rw [Dk (n:=16) (L:=Qa 16 65535) rfl]
   simp only [Qvf,Qmv,Zw,quiet,cF,↓pF,reduceCtorEq,Qb,Qq,Zj,Zd,Zg,Zc,Q8,Qf,Q0,Qe,Qz,Q6,Q5,↓Zy,↓Zx,↓Z7,↓Jb,↓Z9,↓Ja,cL,Qp,Qo,Qy,Qx,Qv,Ql,Qk,Qw,Qc,Q1,Q2,Qr,Qg,Qi,Qh,Qu,Qt,Qs,Qn,Qd])
 rw [Dj,show Qa 16 0=Wi from rfl] at hb
 simp only [Qvf,Ze,Q9,J6] at hb
 have hz:=De
 have hf:=Qbd
 have lz:=Gt
 have s1:(ns .u64 (Qa 16 65535)).set 0 (.int .u64 65517)=ns .u64 (65517::Qa 15 65535):=rfl
 have s2:(ns .u64 (65517::Qa 15 65535)).set 15 (.int .u64 32767)=ns .u64 Hn:=by
  have:Hn=(65517::Qa 15 65535).set 15 32767:=by decide +kernel
  rw [this]; rfl
 have l1:(Qa 16 65535).length=16:=rfl
 have l2:(65517::Qa 15 65535).length=16:=rfl
 have l3:=Mo.len
 generalize Wi=Z,Hn=R at *
 generalize 65517::Qa 15 65535=M at *
 generalize Qa 16 65535=L at *
 apply Jx
 apply Zu
 rw [Zz (fn:=a87) rfl]
 simp only [a87,↓Zm,Zw,quiet,cF,↓pF,reduceCtorEq,Qb,Qq,Zj,Zd,Zg,Zc,Q8,Qf,Q0,Qe,Qz,Q6,Q5,↓Zo,↓Zl,↓Zq,↓Zt,↓Zr,↓Zs,cL,Qp,Qo,Qy,Qx,Qv,Ql,Qk,Qw,Qc,Q1,Q2,Qr,Qg,Qi,Qh,Qu,Qt,Qs,Qn,Qd,cJ,hz,hf,hb,s1,s2,Q4,Ji,Jf,Jt,Ku,Ju,J0,l1,l2,l3,lz,Ko]
 rfl
def Uv (n:Nat):List Nat:=n%65536::n/65536%65536::Qa 14 0
theorem Gz (n:Nat):Nm (Uv n):=⟨rfl,fun x hx=>by
 simp only [Uv,Wh,Rz] at hx
 omega⟩
theorem Dr {n:Nat} (h:n<4294967296):num 65536 (Uv n)=n:=by
 have:num 65536 (Qa 14 0)=0:=by decide
 simp only [Uv,num,this]
 omega
theorem Qvc (a b:Nat):fillL (ns .u64 Wi) [(0,1,.int .u64 (a:Int)),(1,1,.int .u64 (b:Int))]=some (ns .u64 (a::b::Qa 14 0)):=rfl
theorem My (n:Nat) (hn:n<18446744073709551616):evVal T 109 [.int .u64 (n:Nat)]=some (eV (Uv n)):=by
 have hz:=De
 have lz:=Gt
 have hf:=Qvc (n%65536) (n/65536%65536)
 have e1:(n:Int).tmod 65536=((n%65536:Nat):Int):=rfl
 have e2:(n:Int).tdiv 65536=((n/65536:Nat):Int):=rfl
 have e3:(((n/65536:Nat):Int)).tmod 65536=((n/65536%65536:Nat):Int):=rfl
 have w1:IntKind.u64.wrap ((n%65536:Nat):Int)=((n%65536:Nat):Int):=R2 (by omega)
 have w2:IntKind.u64.wrap ((n/65536:Nat):Int)=((n/65536:Nat):Int):=R2 (by omega)
 have w3:IntKind.u64.wrap ((n/65536%65536:Nat):Int)=((n/65536%65536:Nat):Int):=R2 (by omega)
 have hl:(n%65536::n/65536%65536::Qa 14 0).length=16:=rfl
 unfold Uv
 generalize Wi=Z,n%65536::n/65536%65536::Qa 14 0=R at *
 apply Jx
 apply Zu
 rw [Zz (fn:=a70) rfl]
 simp only [a70,↓Zm,Zw,quiet,cF,↓pF,reduceCtorEq,Qb,Qq,Zj,Zd,Zg,Zc,Q8,Qf,Q0,Qe,Qz,Q6,Q5,↓Zo,↓Zl,↓Zq,↓Zt,↓Zr,↓Zs,cL,Qp,Qo,Qy,Qx,Qv,Ql,Qk,Qw,Qc,Q1,Q2,Qr,Qg,Qi,Qh,Qu,Qt,Qs,Qn,Qd,cJ,hz,hf,e1,e2,e3,w1,w2,w3,Q4,Ji,Jf,Jt,Ku,Ju,J0,hl,lz,Ko]
 rfl
theorem Q38 {n i x:Nat} {o:List Nat} (h:o.length=i) (hi:i<n):(o++Qa (n-i) 0).set i x=(o++[x])++Qa (n-(i+1)) 0:=by
 rw [Yu _ _ (by omega),h,Jw]
 have e2:n-i=(n-(i+1))+1:=by omega
 rw [e2,Bi,Qc1]
 simp
theorem Q82 {n i:Nat} {o:List Nat} (h:o.length=i) (hi:i≤n):(o++Qa (n-i) 0).length=n:=by simp; omega
theorem Qs8 (B:Nat) (o:List Nat) (x:Nat):num B (o++[x])=num B o+B^o.length*x:=by
 rw [Hx]; simp [num]
def rmI (a b o:List Nat) (r:Nat) (i:Int) (ex:Env):St:=⟨[(2,.pointer (some ⟨0,0,none⟩)),(3,.pointer (some ⟨1,0,none⟩)),(4,.pointer (some ⟨2,0,none⟩)),(5,.pointer (some ⟨3,0,none⟩)),(6,.int .u64 r),(7,.int .i64 i)]++ex,[⟨ns .u64 a,true,true,true,1⟩,⟨ns .u64 b,true,true,true,1⟩,⟨ns .u64 Wi,true,true,true,1⟩,⟨ns .u64 o,true,true,true,1⟩],[]⟩
theorem Q8j {a b o:List Nat} {i r:Nat} (ha:Nm a) (hb:Nm b) (hi:i<16) (ho:o.length=i) (hr:r≤1) (xo:∀ x∈o,x<65536)
  (hn:num 65536 (a.take i)+65536^i*r=num 65536 (b.take i)+num 65536 o) :
  ∃ x r',Jl T 0 Qmr (rmI a b (o++Qa (16-i) 0) r i [])=some (.normal,rmI a b ((o++[x])++Qa (16-(i+1)) 0) r' ((i+1:Nat):Int) [])∧x<65536∧r'≤1 ∧
   num 65536 (a.take (i+1))+65536^(i+1)*r'=num 65536 (b.take (i+1))+num 65536 (o++[x]):=by
 obtain ⟨x,hx⟩:∃ x,a[i]?=some x:=⟨_,Q3 (by rw [ha.len]; omega)⟩
 obtain ⟨y,hy⟩:∃ y,b[i]?=some y:=⟨_,Q3 (by rw [hb.len]; omega)⟩
 have hx':=ha.lt x (Zp hx)
 have hy':=hb.lt y (Zp hy)
 refine ⟨(x+65536-y-r)%65536,1-(x+65536-y-r)/65536,?_,by omega,by omega,?_⟩
 ·have hset:=Bf .u64 (o++Qa (16-i) 0) i ((x+65536-y-r)%65536)
  rw [Q38 ho hi] at hset
  have hlen:=Q82 ho (W3 hi)
  have hxc:=Yy (k := .u64) hx
  have hyc:=Yy (k := .u64) hy
  have l1:=ha.len
  have l2:=hb.len
  have w1:IntKind.i64.wrap ((i:Int)+1)=((i+1:Nat):Int):=Yx (b:=1) (by omega)
  have w2:IntKind.u64.wrap ((x:Int)+65536)=((x+65536:Nat):Int):=Ri (b:=65536) (by omega)
  have w3:IntKind.u64.wrap (((x+65536:Nat):Int)-(y:Int))=((x+65536-y:Nat):Int):=Qj7 (by omega) (by omega)
  have w4:IntKind.u64.wrap (((x+65536-y:Nat):Int)-(r:Int))=((x+65536-y-r:Nat):Int):=Qj7 (by omega) (by omega)
  have w5:(((x+65536-y-r:Nat):Int)).tmod 65536=(((x+65536-y-r)%65536:Nat):Int):=rfl
  have w6:IntKind.u64.wrap ((((x+65536-y-r:Nat):Int)).tdiv 65536)=(((x+65536-y-r)/65536:Nat):Int):=R2 (n:=(x+65536-y-r)/65536) (by omega)
  have w7:IntKind.u64.wrap (1-(((x+65536-y-r)/65536:Nat):Int))=((1-(x+65536-y-r)/65536:Nat):Int):=Qj7 (a:=1) (by omega) (by omega)
  have e1:((i:Int)<16)=True:=eq_true (by omega)
  have e4:(i≤15)=True:=eq_true (by omega)
  generalize (o++Qa (16-i) 0)=O at *
  generalize (o++[(x+65536-y-r)%65536]++Qa (16-(i+1)) 0)=O' at *
  generalize (x+65536-y-r)/65536=q,(x+65536-y-r)%65536=m at *
  generalize x+65536-y-r=v1 at *
  generalize x+65536-y=v2 at *
  generalize x+65536=v3,1-q=v4,i+1=i1 at *
  simp only [rmI,Qmr,Zw,quiet,cF,↓pF,reduceCtorEq,Qb,Qq,Zj,Zd,Zg,Zc,Q8,Qf,Q0,Qe,Qz,Q6,Q5,↓Zy,↓Zx,↓Z7,↓Jb,↓Z9,↓Ja,cL,Qp,Qo,Qy,Qx,Qv,Ql,Qk,Qw,Qc,Q1,Q2,Qr,Qg,Qi,Qh,Qu,Qt,Qs,Qn,Qd,cJ,hxc,hyc,w1,w2,w3,w4,w5,w6,w7,e1,e4,hset,J0,hlen,l1,l2]
 ·rw [Uh hx,Uh hy,Qs8,ho]
  have h:x+65536*(1-(x+65536-y-r)/65536)=y+r+(x+65536-y-r)%65536:=by omega
  generalize (x+65536-y-r)%65536=m,1-(x+65536-y-r)/65536=q at *
  have h2:=congrArg (fun t=>t*65536^i) h
  simp only [Kw] at h2
  rw [Kv]
  generalize 65536^i=p at *
  rw [Ve p r] at hn
  rw [Ye p,Ve p (65536*q),Ve p m]
  omega
theorem Qk8 {a b:List Nat} (ha:Nm a) (hb:Nm b) (h:num 65536 b≤num 65536 a):evVal T 156 [eV a,eV b]=some (eV (dig 65536 16 (num 65536 a-num 65536 b))):=by
 obtain ⟨st,hl,o,r,rfl,h1,h2,h3,h4⟩:=Vi (T:=T) (base:=0) (id:=0) (body:=Qmr)
  (fun i st=>∃ (o:List Nat) (r:Nat),st=rmI a b (o++Qa (16-i) 0) r i []∧o.length=i∧r≤1∧(∀ x∈o,x<65536)∧num 65536 (a.take i)+65536^i*r=num 65536 (b.take i)+num 65536 o)
  (Q:=fun st=>∃ (o:List Nat) (r:Nat),st=rmI a b o r 16 [(11,.bool false)]∧o.length=16∧r≤1∧(∀ x∈o,x<65536)∧num 65536 a+65536^16*r=num 65536 b+num 65536 o)
  16 (s:=rmI a b Wi 0 0 []) ⟨[],0,rfl,rfl,by omega,by simp,by simp [num]⟩
  (fun i st hi hs=>by
   obtain ⟨o,r,rfl,h1,h2,h3,h4⟩:=hs
   obtain ⟨x,r',g1,g2,g3,g4⟩:=Q8j ha hb hi h1 h2 h3 h4
   refine ⟨_,g1,o++[x],r',rfl,by simp [h1],g3,?_,g4⟩
   intro y hy
   rcases J8.1 hy with hy | hy
   ·exact h3 y hy
   ·rw [U7.1 hy]; exact g2)
  (fun st hs=>by
   obtain ⟨o,r,rfl,h1,h2,h3,h4⟩:=hs
   rw [Zk (by rw [ha.len]; omega),Zk (by rw [hb.len]; omega)] at h4
   refine ⟨_,?_,o,r,rfl,h1,h2,h3,h4⟩
   rw [Jw,List.replicate_zero,Xd]
   simp only [rmI,Qmr,Zw,quiet,cF,↓pF,reduceCtorEq,Qb,Qq,Zj,Zd,Zg,Zc,Q8,Qf,Q0,Qe,Qz,Q6,Q5,↓Zy,↓Zx,↓Z7,↓Jb,↓Z9,↓Ja,cL,Qp,Qo,Qy,Qx,Qv,Ql,Qk,Qw,Qc,Q1,Q2,Qr,Qg,Qi,Qh,Qu,Qt,Qs,Qn,Qd])
 have hN:Nm o:=⟨h1,h3⟩
 have hlt:=hN.num_lt
 have hr:r=0:=by
  rcases Wl r with h0 | h0
  ·exact h0
  ·exfalso
   have:r=1:=by omega
   subst this
   rw [show (65536:Nat)^16=2^256 by decide] at h4
   generalize (2:Nat)^256=M at *
   omega
 subst hr
 have ho:o=dig 65536 16 (num 65536 a-num 65536 b):=by
  rw [hN.eq]
  refine congrArg (dig 65536 16) ?_
  generalize (65536:Nat)^16=M at *
  omega
 rw [←ho]
 have hz:=De
 have hf:=Qbd
 have lz:=Gt
 have l1:=ha.len
 have l2:=hb.len
 simp only [rmI,Ze,Q9,J6] at hl
 generalize Wi=Z at *
 apply Jx
 apply Zu
 rw [Zz (fn:=a90) rfl]
 simp only [a90,↓Zm,Zw,quiet,cF,↓pF,reduceCtorEq,Qb,Qq,Zj,Zd,Zg,Zc,Q8,Qf,Q0,Qe,Qz,Q6,Q5,↓Zo,↓Zl,↓Zq,↓Zt,↓Zr,↓Zs,cL,Qp,Qo,Qy,Qx,Qv,Ql,Qk,Qw,Qc,Q1,Q2,Qr,Qg,Qi,Qh,Qu,Qt,Qs,Qn,Qd,cJ,hz,hf,hl,Q4,Ji,Jf,Jt,Ku,Ju,J0,l1,l2,h1,lz,Ko]
 rfl
end Go.Ev.YtpgphpkjlpkcbaaGreat
namespace Go.Ev.YtpgphpkjlpkcbaaGreat
open Go Go.Ev
attribute [local congr] W5 Up W4 Uq Wo
set_option maxRecDepth 100000
def Ue (x r:Nat):Nat:=x/2^r+x*2^(64-r)%18446744073709551616
def sg0 (x:Nat):Nat:=Ue x 1^^^Ue x 8^^^(x/2^7)
def sg1 (x:Nat):Nat:=Ue x 19^^^Ue x 61^^^(x/2^6)
def Sg0 (x:Nat):Nat:=Ue x 28^^^Ue x 34^^^Ue x 39
def Sg1 (x:Nat):Nat:=Ue x 14^^^Ue x 18^^^Ue x 41
def chO (e f g:Nat):Nat:=(e&&&f)^^^((18446744073709551615^^^e)&&&g)
def maO (a b c:Nat):Nat:=(a&&&b)^^^(a&&&c)^^^(b&&&c)
def be (l:List Nat):Nat:=l.foldl (fun a x=>a*256+x) 0
def Zb0 (w:List Nat):Nat:=(w.getD (w.length-16) 0+w.getD (w.length-7) 0+sg0 (w.getD (w.length-15) 0)+sg1 (w.getD (w.length-2) 0))%18446744073709551616
def Qc6:Nat→List Nat→List Nat
 | 0,l=>l
 | n+1,l=>Qc6 n l++[Zb0 (Qc6 n l)]
def Qoc (b:List Nat):List Nat:=(We 16).map fun i=>be ((b.drop (8*i)).take 8)
def Ug (b:List Nat):List Nat:=Qc6 64 (Qoc b)
def Dy:List Nat:=[4794697086780616226,8158064640168781261,13096744586834688815,16840607885511220156,4131703408338449720,6480981068601479193,10538285296894168987,12329834152419229976,15566598209576043074,1334009975649890238,2608012711638119052,6128411473006802146,8268148722764581231,9286055187155687089,11230858885718282805,13951009754708518548,16472876342353939154,17275323862435702243,1135362057144423861,2597628984639134821,3308224258029322869,5365058923640841347,6679025012923562964,8573033837759648693,10970295158949994411,12119686244451234320,12683024718118986047,13788192230050041572,14330467153632333762,15395433587784984357,489312712824947311,1452737877330783856,2861767655752347644,3322285676063803686,5560940570517711597,5996557281743188959,7280758554555802590,8532644243296465576,9350256976987008742,10552545826968843579,11727347734174303076,12113106623233404929,14000437183269869457,14369950271660146224,15101387698204529176,15463397548674623760,17586052441742319658,1182934255886127544,1847814050463011016,2177327727835720531,2830643537854262169,3796741975233480872,4115178125766777443,5681478168544905931,6601373596472566643,7507060721942968483,8399075790359081724,8693463985226723168,9568029438360202098,10144078919501101548,10430055236837252648,11840083180663258601,13761210420658862357,14299343276471374635,14566680578165727644,15097957966210449927,16922976911328602910,17689382322260857208,500013540394364858,748580250866718886,1242879168328830382,1977374033974150939,2944078676154940804,3659926193048069267,4368137639120453308,4836135668995329356,5532061633213252278,6448918945643986474,6902733635092675308,7801388544844847127]
def t1O (s:List Nat) (k w:Nat):Nat:=(s.getD 7 0+Sg1 (s.getD 4 0)+chO (s.getD 4 0) (s.getD 5 0) (s.getD 6 0)+k+w)%18446744073709551616
def t2O (s:List Nat):Nat:=(Sg0 (s.getD 0 0)+maO (s.getD 0 0) (s.getD 1 0) (s.getD 2 0))%18446744073709551616
def rnd (s:List Nat) (k w:Nat):List Nat:=[(t1O s k w+t2O s)%18446744073709551616,s.getD 0 0,s.getD 1 0,s.getD 2 0,(s.getD 3 0+t1O s k w)%18446744073709551616,s.getD 4 0,s.getD 5 0,s.getD 6 0]
def Qdf:Nat→List Nat→List Nat→List Nat
 | 0,_,s=>s
 | n+1,w,s=>rnd (Qdf n w s) (Dy.getD n 0) (w.getD n 0)
def blk (s b:List Nat):List Nat:=Bc (fun x y=>(x+y)%18446744073709551616) s (Qdf 80 (Ug b) s)
def Rf:List Nat:=[7640891576956012808,13503953896175478587,4354685564936845355,11912009170470909681,5840696475078001361,11170449401992604703,2270897969802886507,6620516959819538809]
def stK:Nat→List Nat→List Nat
 | 0,_=>Rf
 | n+1,b=>blk (stK n b) ((b.drop (128*n)).take 128)
def Da (n:Nat):Nat:=(239-n%128)%128
def Qa6 (n:Nat):List Nat:=128::(Qa (Da n) 0++((We 16).map fun i=>8*n/256^(15-i)%256))
def sha (b:List Nat):List Nat:=(We 64).map fun i=>(stK ((b++Qa6 b.length).length/128) (b++Qa6 b.length)).getD (i/8) 0/256^(7-i%8)%256
theorem Qbw:Dy.length=80:=rfl
theorem Qzj:Rf.length=8:=rfl
theorem Bu {x r:Nat} (hx:x<18446744073709551616) (hr:0<r) (hr':r≤63):Ue x r<18446744073709551616:=by
 unfold Ue
 have e:(18446744073709551616:Nat)=2^r*2^(64-r):=by rw [←Ud,show r+(64-r)=64 by omega]
 have h1:x/2^r<2^(64-r):=Ms (by rw [←e]; exact hx)
 have h2:x*2^(64-r)%18446744073709551616=(x%2^r)*2^(64-r):=by rw [e,Qac]
 rw [h2]
 have h3:x%2^r+1≤2^r:=Jo _ (Us (by decide))
 have h4:=Yh (2^(64-r)) h3
 rw [←e,Kw,Ul] at h4
 omega
theorem Q8g {x r:Nat} (hx:x<18446744073709551616) (hr:0<r) (hr':r≤63):(x*2^(64-r)%18446744073709551616)|||(x/2^r)=Ue x r:=by
 have e:(18446744073709551616:Nat)=2^r*2^(64-r):=by rw [←Ud,show r+(64-r)=64 by omega]
 have h1:x/2^r<2^(64-r):=Ms (by rw [←e]; exact hx)
 have h2:x*2^(64-r)%18446744073709551616=(x%2^r)*2^(64-r):=by rw [e,Qac]
 unfold Ue
 rw [h2,M0 h1,Bn]
theorem Qff {x r:Nat} (hx:x<18446744073709551616) (hr:0<r) (hr':r≤63):evVal T 164 [.int .u64 x,.int .i64 (-(r:Int))]=some (.int .u64 (Ue x r:Nat)):=by
 have hw:IntKind.u64.wrap (-(r:Int))=((18446744073709551616-r:Nat):Int):=by rw [Tm]; omega
 have hm:Vx .and .u64 ((18446744073709551616-r:Nat):Int) 63=((64-r:Nat):Int):=by
  have:=Qa7 .u64 rfl 6 (18446744073709551616-r) (by decide)
  have e:((2^6-1:Nat):Int)=63:=by decide
  rw [e] at this
  rw [this]
  have:(18446744073709551616-r)%2^6=64-r:=by omega
  rw [this]
 have n1:(((64-r:Nat):Int)<0)=False:=eq_false (by omega)
 have h64:min (64-r) IntKind.u64.bits=64-r:=Vz (by show 64-r≤64; omega)
 have hr64:min r IntKind.u64.bits=r:=Vz (by show r≤64; omega)
 have hs1:IntKind.u64.wrap ((x:Int)*2^(64-r))=((x*2^(64-r)%18446744073709551616:Nat):Int):=by
  rw [←Qfi,U1,Ma]; rfl
 have hsub:IntKind.u64.wrap (64-((64-r:Nat):Int))=(r:Int):=by rw [Tm]; omega
 have n2:((r:Int)<0)=False:=eq_false (by omega)
 have hs2:(x:Int).fdiv (2^r)=((x/2^r:Nat):Int):=by
  rw [←Qit,Ma]; rfl
 have hlt1:x*2^(64-r)%18446744073709551616<2^IntKind.u64.bits:=Jo _ (by decide)
 have hlt2:x/2^r<2^IntKind.u64.bits:=Wv (Uj _ _) hx
 have ho:Vx .or .u64 ((x*2^(64-r)%18446744073709551616:Nat):Int) ((x/2^r:Nat):Int)=((Ue x r:Nat):Int):=by
  rw [Hg rfl hlt1 hlt2,Q8g hx hr hr']
 generalize hq:64-r=q at *
 generalize hu:18446744073709551616-r=u at *
 apply Jx
 apply Zu
 rw [Zz (fn:=Zfq) rfl]
 simp only [Zfq,↓Zm,Zw,quiet,cF,↓pF,reduceCtorEq,Qb,Qq,Zj,Zd,Zg,Zc,Q8,Qf,Q0,Qe,Qz,Q6,Q5,↓Zy,↓Zx,↓Z7,↓Jb,↓Z9,↓Ja,cL,Qp,Qo,Qy,Qx,Qv,Ql,Qk,Qw,Qc,Q1,Q2,Qr,Qg,Qi,Qh,Qu,Qt,Qs,Qn,Qd,cJ,hw,hm,n1,h64,hs1,hsub,n2,hr64,hs2,ho,Jr]
 rfl
theorem Qpd:fillL (Qa 80 (Value.int .u64 0)) [(0,1,.int .u64 4794697086780616226),(1,1,.int .u64 8158064640168781261),(2,1,.int .u64 13096744586834688815),(3,1,.int .u64 16840607885511220156),(4,1,.int .u64 4131703408338449720),(5,1,.int .u64 6480981068601479193),(6,1,.int .u64 10538285296894168987),(7,1,.int .u64 12329834152419229976),(8,1,.int .u64 15566598209576043074),(9,1,.int .u64 1334009975649890238),(10,1,.int .u64 2608012711638119052),(11,1,.int .u64 6128411473006802146),(12,1,.int .u64 8268148722764581231),(13,1,.int .u64 9286055187155687089),(14,1,.int .u64 11230858885718282805),(15,1,.int .u64 13951009754708518548),(16,1,.int .u64 16472876342353939154),(17,1,.int .u64 17275323862435702243),(18,1,.int .u64 1135362057144423861),(19,1,.int .u64 2597628984639134821),(20,1,.int .u64 3308224258029322869),(21,1,.int .u64 5365058923640841347),(22,1,.int .u64 6679025012923562964),(23,1,.int .u64 8573033837759648693),(24,1,.int .u64 10970295158949994411),(25,1,.int .u64 12119686244451234320),(26,1,.int .u64 12683024718118986047),(27,1,.int .u64 13788192230050041572),(28,1,.int .u64 14330467153632333762),(29,1,.int .u64 15395433587784984357),(30,1,.int .u64 489312712824947311),(31,1,.int .u64 1452737877330783856),(32,1,.int .u64 2861767655752347644),(33,1,.int .u64 3322285676063803686),(34,1,.int .u64 5560940570517711597),(35,1,.int .u64 5996557281743188959),(36,1,.int .u64 7280758554555802590),(37,1,.int .u64 8532644243296465576),(38,1,.int .u64 9350256976987008742),(39,1,.int .u64 10552545826968843579),(40,1,.int .u64 11727347734174303076),(41,1,.int .u64 12113106623233404929),(42,1,.int .u64 14000437183269869457),(43,1,.int .u64 14369950271660146224),(44,1,.int .u64 15101387698204529176),(45,1,.int .u64 15463397548674623760),(46,1,.int .u64 17586052441742319658),(47,1,.int .u64 1182934255886127544),(48,1,.int .u64 1847814050463011016),(49,1,.int .u64 2177327727835720531),(50,1,.int .u64 2830643537854262169),(51,1,.int .u64 3796741975233480872),(52,1,.int .u64 4115178125766777443),(53,1,.int .u64 5681478168544905931),(54,1,.int .u64 6601373596472566643),(55,1,.int .u64 7507060721942968483),(56,1,.int .u64 8399075790359081724),(57,1,.int .u64 8693463985226723168),(58,1,.int .u64 9568029438360202098),(59,1,.int .u64 10144078919501101548),(60,1,.int .u64 10430055236837252648),(61,1,.int .u64 11840083180663258601),(62,1,.int .u64 13761210420658862357),(63,1,.int .u64 14299343276471374635),(64,1,.int .u64 14566680578165727644),(65,1,.int .u64 15097957966210449927),(66,1,.int .u64 16922976911328602910),(67,1,.int .u64 17689382322260857208),(68,1,.int .u64 500013540394364858),(69,1,.int .u64 748580250866718886),(70,1,.int .u64 1242879168328830382),(71,1,.int .u64 1977374033974150939),(72,1,.int .u64 2944078676154940804),(73,1,.int .u64 3659926193048069267),(74,1,.int .u64 4368137639120453308),(75,1,.int .u64 4836135668995329356),(76,1,.int .u64 5532061633213252278),(77,1,.int .u64 6448918945643986474),(78,1,.int .u64 6902733635092675308),(79,1,.int .u64 7801388544844847127)]=some (ns .u64 Dy):=rfl
theorem Qxk:evVal T 161 []=some (eV Dy):=by
 have hf:=Qpd
 have lk:=Qbw
 generalize Dy=K at *
 apply Jx
 apply Zu
 rw [Zz (fn:=Zfp) rfl]
 simp only [Zfp,Zw,quiet,cF,↓pF,reduceCtorEq,Qb,Qq,Zj,Zd,Zg,Zc,Q8,Qf,Q0,Qe,Qz,Q6,Q5,↓Zy,↓Zx,↓Z7,↓Jb,↓Z9,↓Ja,cL,Qp,Qo,Qy,Qx,Qv,Ql,Qk,Qw,Qc,Q1,Q2,Qr,Qg,Qi,Qh,Qu,Qt,Qs,Qn,Qd,cJ,hf,Q4,Ji,Jf,Jt,Ku,Ju,J0,lk,Ko]
 rfl
theorem Qd9 (l:List Nat):∀ n,(Qc6 n l).length=l.length+n
 | 0=>rfl
 | n+1=>by rw [Qc6,Zh,Qd9 l n]; rfl
theorem Qea (l:List Nat) {n j:Nat} (hj:j<l.length+n):∀ m,n≤m→(Qc6 m l)[j]?=(Qc6 n l)[j]?
 | 0,h=>by rw [show n=0 by omega]
 | m+1,h=>by
  by_cases e:n=m+1
  ·rw [e]
  ·rw [Qc6,Qm (by rw [Qd9]; omega),Qea l hj m (by omega)]
theorem Qh1 (b:List Nat):(Qoc b).length=16:=by simp [Qoc]
theorem Mv (b:List Nat):(Ug b).length=80:=by rw [Ug,Qd9,Qh1]
theorem Qh4 {b:List Nat} {i:Nat} (hi:i<16):(Ug b)[i]?=some (be ((b.drop (8*i)).take 8)):=by
 rw [Ug,Qea _ (n:=0) (by rw [Qh1]; omega) 64 (by omega)]
 simp [Qc6,Qoc,hi]
theorem Qh3 {b:List Nat} {i:Nat} (hi:16≤i) (hi':i<80):(Ug b)[i]?=some (((Ug b).getD (i-16) 0+(Ug b).getD (i-7) 0+sg0 ((Ug b).getD (i-15) 0)+sg1 ((Ug b).getD (i-2) 0))%18446744073709551616):=by
 obtain ⟨n,rfl⟩:∃ n,i=16+n:=⟨i-16,by omega⟩
 have hl:=Qh1 b
 have hn:=Qd9 (Qoc b) n
 rw [hl] at hn
 have hg:∀ j,j<16+n→(Ug b).getD j 0=(Qc6 n (Qoc b)).getD j 0:=fun j hj=>by
  rw [Jz,Jz,Ug,Qea _ (n:=n) (by rw [hl]; omega) 64 (by omega)]
 rw [hg _ (by omega),hg _ (by omega),hg _ (by omega),hg _ (by omega)]
 rw [Ug,Qea _ (n:=n+1) (by rw [hl]; omega) 64 (by omega),Qc6,Za (by omega),hn,Jw]
 simp only [Zb0,hn,Z1]
theorem Qrc (l:List Nat) (x:Nat):be (l++[x])=be l*256+x:=by simp [be]
theorem Qui:∀ (n:Nat) (l:List Nat),l.length=n→(∀ x∈l,x<256)→be l<256^n
 | 0,l,h,_=>by rw [Ws h]; decide
 | n+1,l,h,hx=>by
  obtain ⟨m,x,rfl⟩:∃ m x,l=m++[x]:=⟨l.dropLast,l.getLast (by intro e; rw [e] at h; cases h),(List.dropLast_concat_getLast _).symm⟩
  rw [Zh] at h
  have h1:=Qui n m (by simpa using h) (fun y hy=>hx y (Qj3 _ hy))
  have h2:=hx x (by simp)
  rw [Qrc,Kv]
  omega
theorem Qj6 {b:List Nat} (hb:∀ x∈b,x<256) {i x:Nat} (hx:(Ug b)[i]?=some x):x<18446744073709551616:=by
 have hi:i<80:=by have:=(Q7.1 hx).1; rwa [Mv] at this
 by_cases h:i<16
 ·rw [Qh4 h] at hx
  cases hx
  have hl:((b.drop (8*i)).take 8).length≤8:=by rw [Js]; omega
  have:=Qui _ _ rfl (fun y hy=>hb y (Y2 (Ki hy)):∀ y∈(b.drop (8*i)).take 8,y<256)
  exact Xr this (Vr (n:=256) (by decide) hl)
 ·rw [Qh3 (by omega) hi] at hx
  cases hx
  exact Jo _ (by decide)
theorem R4 {n i j:Nat} {L:List Nat} (hj:j<i) (hi:i≤L.length):(pf n L i)[j]?=L[j]? := by
 unfold pf
 rw [Qm (by rw [Js]; omega),Ks,if_pos hj]
theorem Qsa {l:List Nat} {i x:Nat} (h:l[i]?=some x):l.set i x=l:=by
 apply Wa
 intro k
 rw [Gv]
 by_cases c:i=k
 ·rw [if_pos c,←c,h,if_pos (Q7.1 h).1]
 ·rw [if_neg c]
theorem Qlk {n i:Nat} {L:List Nat} (hi:i<n) (hl:L.length=n):(pf n L i)[i]?=some 0:=by
 unfold pf
 rw [Za (by rw [Js]; omega),Js,Vz (by omega),Jw,R1,if_pos (by omega)]
theorem To (a b:Nat):IntKind.u64.wrap ((a:Int)+(b:Int))=(((a+b)%18446744073709551616:Nat):Int):=by rw [←Gw,Qfi]
theorem Rq {a b:Nat} (ha:a<18446744073709551616) (hb:b<18446744073709551616):Vx .xor .u64 (a:Int) (b:Int)=((a^^^b:Nat):Int):=Qmm rfl ha hb
theorem Qd2 {a b:Nat} (ha:a<18446744073709551616) (hb:b<18446744073709551616):Vx .and .u64 (a:Int) (b:Int)=((a&&&b:Nat):Int):=T8 rfl ha hb
theorem Mb {a b:Nat} (ha:a<18446744073709551616) (hb:b<18446744073709551616):a^^^b<18446744073709551616:=Rw (n:=64) ha hb
theorem Gr {a b:Nat} (hb:b<18446744073709551616):a&&&b<18446744073709551616:=Ga (n:=64) a hb
theorem Qfe {x r:Nat} (hr:r≤64):(x:Int).fdiv (2^min r IntKind.u64.bits)=((x/2^r:Nat):Int):=by
 rw [show min r IntKind.u64.bits=r from Vz hr,←Qit,Ma]; rfl
theorem Qg4 {x r:Nat} (hx:x<18446744073709551616):x/2^r<18446744073709551616:=Wv (Uj _ _) hx
structure BB (H:List Ob) (id off:Nat) (b:List Nat):Prop where
 ob:∃ all:List Nat,H[id]?=some ⟨u8s all,true,true,false,1⟩∧∀ i,i<b.length→all[off+i]?=b[i]?
 lt:∀ x∈b,x<256
theorem BB.app {H l:List Ob} {id off:Nat} {b:List Nat} (h:BB H id off b):BB (H++l) id off b:=by
 obtain ⟨⟨all,h1,h2⟩,h3⟩:=h
 exact ⟨⟨all,by rw [Qm (Q7.1 h1).1]; exact h1,h2⟩,h3⟩
def w2I (H:List Ob) (P:Value) (id off cap:Nat) (w:List Nat) (i:Int) (o8 c8:Nat) (j:Int) (ex:Env):St:=⟨[(0,P),(1,.slice (some ⟨id,off,none⟩) 128 cap),(4,.pointer (some ⟨H.length,0,none⟩)),(5,.int .i64 i),(17,.int .i64 i),(28,.slice (some ⟨id,o8,none⟩) 8 c8),(29,.int .i64 8),(30,.int .i64 j)]++ex,H++[⟨ns .u64 w,true,true,true,1⟩],[]⟩
theorem Q15 {H:List Ob} {P:Value} {id off cap c8 i:Nat} {b:List Nat} (hb:BB H id off b) (hl:b.length=128) (hi:i<16) :
  Jl T H.length (.block 2 (.loop Qhq)) (w2I H P id off cap (pf 80 (Ug b) i) i (off+8*i) c8 0 [])=some (.normal,w2I H P id off cap (pf 80 (Ug b) (i+1)) i (off+8*i) c8 8 [(31,.bool false)]):=by
 obtain ⟨⟨all,h1,h2⟩,h3⟩:=hb
 have hWl:=Mv b
 have h8:((b.drop (8*i)).take 8).length=8:=by rw [Js,X5]; omega
 have hz:=Qlk (L:=Ug b) (by omega:i<80) hWl
 have hpl:=Df hWl (by omega:i≤80)
 have Qmc:(pf 80 (Ug b) i).set i (be [])=pf 80 (Ug b) i:=Qsa hz
 have hW:=Qh4 (b:=b) hi
 have hstep:=Gu hWl (by omega:i<80) hW
 have h:=Wf (T:=T) (base:=H.length) (id:=2) (body:=Qhq) (fun j=>w2I H P id off cap ((pf 80 (Ug b) i).set i (be (((b.drop (8*i)).take 8).take j))) i (off+8*i) c8 j []) (s':=w2I H P id off cap (pf 80 (Ug b) (i+1)) i (off+8*i) c8 8 [(31,.bool false)]) 8
  (fun j hj=>by
   obtain ⟨x,hx⟩:∃ x,((b.drop (8*i)).take 8)[j]?=some x:=⟨_,Q3 (by omega)⟩
   have hxb:b[8*i+j]?=some x:=by
    rw [Ks,if_pos hj,Vy] at hx; exact hx
   have hx':=h3 x (Zp hxb)
   have hxa:(u8s all)[off+8*i+j]?=some (.int .u8 (x:Nat)):=Wy (by rw [show off+8*i+j=off+(8*i+j) by omega,h2 _ (by omega)]; exact hxb)
   have hbel:=Qui j (((b.drop (8*i)).take 8).take j) (by rw [Js]; omega) (fun y hy=>h3 y (Y2 (Ki (Ki hy))))
   have hbes:be (((b.drop (8*i)).take 8).take (j+1))=be (((b.drop (8*i)).take 8).take j)*256+x:=by rw [Ym,hx]; exact Qrc _ _
   rw [hbes]
   have h256:(256:Nat)^j≤256^7:=Vr (by decide) (by omega)
   have e7:(256:Nat)^7=72057594037927936:=by decide
   rw [e7] at h256
   generalize be (((b.drop (8*i)).take 8).take j)=a at *
   have hg:((pf 80 (Ug b) i).set i a)[i]?=some a:=by rw [Jj (by rw [hpl]; omega)]
   have hgc:=Yy (k := .u64) hg
   have hss:=Bf .u64 ((pf 80 (Ug b) i).set i a) i (a*256+x)
   rw [Th] at hss
   have hln:((pf 80 (Ug b) i).set i a).length=80:=by rw [Jk]; exact hpl
   have w1:IntKind.i64.wrap ((j:Int)+1)=((j+1:Nat):Int):=Yx (b:=1) (by omega)
   have w2:IntKind.u64.wrap (x:Int)=(x:Int):=R2 (by omega)
   have w3:IntKind.u64.wrap ((a:Int)*2^min 8 IntKind.u64.bits)=((a*256:Nat):Int):=Qai (b:=256) (by omega)
   have w4:Vx .or .u64 ((a*256:Nat):Int) (x:Int)=((a*256+x:Nat):Int):=by
    rw [Hg rfl (show a*256<2^64 by omega) (show x<2^64 by omega)]
    have:=M0 (a:=x) (b:=a) (n:=8) (by omega)
    rw [show (2:Nat)^8=256 from rfl] at this
    rw [this]
   have e1:((j:Int)<8)=True:=eq_true (by omega)
   have e2:((i:Int)<80)=True:=eq_true (by omega)
   have e4:(i≤79)=True:=eq_true (by omega)
   have hl1:liveAt (H++[⟨ns .u64 ((pf 80 (Ug b) i).set i a),true,true,true,1⟩]) id=some ⟨u8s all,true,true,false,1⟩:=Hb (V9 h1 rfl)
   generalize (pf 80 (Ug b) i).set i a=O1,(pf 80 (Ug b) i).set i (a*256+x)=O2 at *
   generalize hv:a*256+x=v at *
   generalize a*256=v2 at *
   simp only [liveAt] at hl1
   generalize hoo:off+8*i=oo at *
   have hget:(H++[⟨ns .u64 O1,true,true,true,1⟩])[id]?=some ⟨u8s all,true,true,false,1⟩:=by rw [Qm (Q7.1 h1).1]; exact h1
   simp only [w2I,Qhq,Zw,quiet,cF,↓pF,reduceCtorEq,Qb,Qq,Zj,Zd,Zg,Zc,Q8,Qf,Q0,Qe,Qz,Q6,Q5,↓Zy,↓Zx,↓Z7,↓Jb,↓Z9,↓Ja,cL,Qp,Qo,Qy,Qx,Qv,Ql,Qk,Qw,Qc,Q1,Q2,Qr,Qg,Qi,Qh,Qu,Qt,Qs,Qn,Qd,cJ,hget,hxa,hgc,w1,w2,w3,w4,e1,e2,e4,hss,J0,hln])
  (by
   rw [Zk (by omega),hstep]
   simp only [w2I,Qhq,Zw,quiet,cF,↓pF,reduceCtorEq,Qb,Qq,Zj,Zd,Zg,Zc,Q8,Qf,Q0,Qe,Qz,Q6,Q5,↓Zy,↓Zx,↓Z7,↓Jb,↓Z9,↓Ja,cL,Qp,Qo,Qy,Qx,Qv,Ql,Qk,Qw,Qc,Q1,Q2,Qr,Qg,Qi,Qh,Qu,Qt,Qs,Qn,Qd,cJ])
 rw [Q0,Qmc] at h
 exact h
theorem Gi {k:IntKind} {n y d:Nat} (h:n≤y):Db (some (.int k (n:Int))) y d=some n:=by
 have e:(0:Int)≤(n:Int)∧(n:Int)≤(y:Int):=⟨by omega,by omega⟩
 simp only [Db,if_pos e,Jr]
def w3I (H:List Ob) (P:Value) (id off cap:Nat) (w:List Nat) (i:Int) (ex:Env):St:=⟨[(0,P),(1,.slice (some ⟨id,off,none⟩) 128 cap),(4,.pointer (some ⟨H.length,0,none⟩)),(17,.int .i64 i)]++ex,H++[⟨ns .u64 w,true,true,true,1⟩],[]⟩
theorem Zck {H:List Ob} {P:Value} {id off cap i:Nat} {b:List Nat} (hb:BB H id off b) (hl:b.length=128) (hc:128≤cap) (hi:i<16) :
  Jl T H.length Qaz (w3I H P id off cap (pf 80 (Ug b) i) i [])=some (.normal,w3I H P id off cap (pf 80 (Ug b) (i+1)) ((i+1:Nat):Int) []):=by
 have h2:=Q15 (P:=P) (cap:=cap) (c8:=cap-8*i) hb hl hi
 obtain ⟨⟨all,h1,-⟩,h3⟩:=hb
 simp only [w2I,Ze,Q9,J6] at h2
 have e1:((i:Int)<80)=True:=eq_true (by omega)
 have e2:((i:Int)<16)=True:=eq_true (by omega)
 have w1:IntKind.i64.wrap (8*(i:Int))=((8*i:Nat):Int):=Qc5 (a:=8) (by omega)
 have w2:IntKind.i64.wrap (((8*i:Nat):Int)+8)=((8*i+8:Nat):Int):=Yx (b:=8) (by omega)
 have w3:IntKind.i64.wrap ((i:Int)+1)=((i+1:Nat):Int):=Yx (b:=1) (by omega)
 have b1:Wz 128 cap (some (.int .i64 ((8*i:Nat):Int))) (some (.int .i64 ((8*i+8:Nat):Int))) none=some (8*i,8*i+8,cap):=by
  have n1:Db (some (.int .i64 ((8*i+8:Nat):Int))) cap 128=some (8*i+8):=Gi (by omega)
  have n2:Db (some (.int .i64 ((8*i:Nat):Int))) (8*i+8) 0=some (8*i):=Gi (by omega)
  rw [Gf,n1,Zb,n2,Zb]
 have hs:8*i+8-8*i=8:=by omega
 have hget:∀ l:List Ob,(H++l)[id]?=some ⟨u8s all,true,true,false,1⟩:=fun l=>by rw [Qm (Q7.1 h1).1]; exact h1
 generalize pf 80 (Ug b) i=O1,pf 80 (Ug b) (i+1)=O2 at *
 generalize hk8:8*i+8=k8 at *
 generalize hk:8*i=k at *
 generalize i+1=i1 at *
 simp only [w3I,Qaz,Zw,quiet,cF,↓pF,reduceCtorEq,Qb,Qq,Zj,Zd,Zg,Zc,Q8,Qf,Q0,Qe,Qz,Q6,Q5,↓Zy,↓Zx,↓Z7,↓Jb,↓Z9,↓Ja,cL,Qp,Qo,Qy,Qx,Qv,Ql,Qk,Qw,Qc,Q1,Q2,Qr,Qg,Qi,Qh,Qu,Qt,Qs,Qn,Qd,cJ,e1,e2,w1,w2,w3,b1,hs,hget,h2]
theorem U6 {l:List Nat} {i x:Nat} (h:l[i]?=some x):l.getD i 0=x:=by rw [Jz,h]; rfl
theorem Q7p {H:List Ob} {P:Value} {id off cap i:Nat} {b:List Nat} (hb:∀ x∈b,x<256) (hi:16≤i) (hi':i<80) :
  Jl T H.length Qaz (w3I H P id off cap (pf 80 (Ug b) i) i [])=some (.normal,w3I H P id off cap (pf 80 (Ug b) (i+1)) ((i+1:Nat):Int) []):=by
 have hWl:=Mv b
 have hW:=Qh3 (b:=b) hi hi'
 have hstep:=Gu hWl hi' hW
 have hpl:=Df hWl (W3 hi')
 obtain ⟨x,hx⟩:∃ x,(Ug b)[i-15]?=some x:=⟨_,Q3 (by omega)⟩
 obtain ⟨y,hy⟩:∃ x,(Ug b)[i-2]?=some x:=⟨_,Q3 (by omega)⟩
 obtain ⟨u,hu⟩:∃ x,(Ug b)[i-16]?=some x:=⟨_,Q3 (by omega)⟩
 obtain ⟨v,hv⟩:∃ x,(Ug b)[i-7]?=some x:=⟨_,Q3 (by omega)⟩
 have lx:=Qj6 hb hx
 have ly:=Qj6 hb hy
 have cx:=Yy (k := .u64) ((R4 (n:=80) (by omega:i-15<i) (by omega)).trans hx)
 have cy:=Yy (k := .u64) ((R4 (n:=80) (by omega:i-2<i) (by omega)).trans hy)
 have cu:=Yy (k := .u64) ((R4 (n:=80) (by omega:i-16<i) (by omega)).trans hu)
 have cv:=Yy (k := .u64) ((R4 (n:=80) (by omega:i-7<i) (by omega)).trans hv)
 rw [U6 hx,U6 hy,U6 hu,U6 hv] at hstep
 have r1:evVal T 164 [.int .u64 x,.int .i64 (-1)]=some (.int .u64 (Ue x 1:Nat)):=Qff (r:=1) lx (by decide) (by decide)
 have r8:evVal T 164 [.int .u64 x,.int .i64 (-8)]=some (.int .u64 (Ue x 8:Nat)):=Qff (r:=8) lx (by decide) (by decide)
 have r19:evVal T 164 [.int .u64 y,.int .i64 (-19)]=some (.int .u64 (Ue y 19:Nat)):=Qff (r:=19) ly (by decide) (by decide)
 have r61:evVal T 164 [.int .u64 y,.int .i64 (-61)]=some (.int .u64 (Ue y 61:Nat)):=Qff (r:=61) ly (by decide) (by decide)
 have b1:=Bu (r:=1) lx (by decide) (by decide)
 have b8:=Bu (r:=8) lx (by decide) (by decide)
 have b19:=Bu (r:=19) ly (by decide) (by decide)
 have b61:=Bu (r:=61) ly (by decide) (by decide)
 have x1:=Rq b1 b8
 have x2:Vx .xor .u64 ((Ue x 1^^^Ue x 8:Nat):Int) ((x/2^7:Nat):Int)=((sg0 x:Nat):Int):=Rq (Mb b1 b8) (Qg4 lx)
 have y1:=Rq b19 b61
 have y2:Vx .xor .u64 ((Ue y 19^^^Ue y 61:Nat):Int) ((y/2^6:Nat):Int)=((sg1 y:Nat):Int):=Rq (Mb b19 b61) (Qg4 ly)
 have s7:(x:Int).fdiv (2^min 7 IntKind.u64.bits)=((x/2^7:Nat):Int):=Qfe (by decide)
 have s6:(y:Int).fdiv (2^min 6 IntKind.u64.bits)=((y/2^6:Nat):Int):=Qfe (by decide)
 have m1:=To u v
 have m2:=To ((u+v)%18446744073709551616) (sg0 x)
 have m3:=To (((u+v)%18446744073709551616+sg0 x)%18446744073709551616) (sg1 y)
 have hsum:(((u+v)%18446744073709551616+sg0 x)%18446744073709551616+sg1 y)%18446744073709551616=(u+v+sg0 x+sg1 y)%18446744073709551616:=by omega
 rw [hsum] at m3
 have hset:=Bf .u64 (pf 80 (Ug b) i) i ((u+v+sg0 x+sg1 y)%18446744073709551616)
 rw [hstep] at hset
 have e1:((i:Int)<80)=True:=eq_true (by omega)
 have e2:((i:Int)<16)=False:=eq_false (by omega)
 have i15:IntKind.i64.wrap ((i:Int)-15)=((i-15:Nat):Int):=by rw [Kn (by omega) (by omega)]; omega
 have i2:IntKind.i64.wrap ((i:Int)-2)=((i-2:Nat):Int):=by rw [Kn (by omega) (by omega)]; omega
 have i16:IntKind.i64.wrap ((i:Int)-16)=((i-16:Nat):Int):=by rw [Kn (by omega) (by omega)]; omega
 have i7:IntKind.i64.wrap ((i:Int)-7)=((i-7:Nat):Int):=by rw [Kn (by omega) (by omega)]; omega
 have j15:(((i-15:Nat):Int)<80)=True:=eq_true (by omega)
 have j2:(((i-2:Nat):Int)<80)=True:=eq_true (by omega)
 have j16:(((i-16:Nat):Int)<80)=True:=eq_true (by omega)
 have j7:(((i-7:Nat):Int)<80)=True:=eq_true (by omega)
 have w3:IntKind.i64.wrap ((i:Int)+1)=((i+1:Nat):Int):=Yx (b:=1) (by omega)
 have e4:(i≤79)=True:=eq_true (by omega)
 clear hsum hstep hW hx hy hu hv hWl
 generalize pf 80 (Ug b) i=O1,pf 80 (Ug b) (i+1)=O2,(u+v+sg0 x+sg1 y)%18446744073709551616=z,((u+v)%18446744073709551616+sg0 x)%18446744073709551616=z2 at *
 generalize (u+v)%18446744073709551616=z3,sg0 x=gx,sg1 y=gy,Ue x 1^^^Ue x 8=xx,Ue y 19^^^Ue y 61=yy at *
 generalize Ue x 1=x1v,Ue x 8=x8v,Ue y 19=y19v,Ue y 61=y61v,x/2^7=x7v,y/2^6=y6v,i-15=k15,i-2=k2 at *
 generalize i-16=k16,i-7=k7,i+1=i1 at *
 simp only [w3I,Qaz,↓Zm,Zw,quiet,cF,↓pF,reduceCtorEq,Qb,Qq,Zj,Zd,Zg,Zc,Q8,Qf,Q0,Qe,Qz,Q6,Q5,↓Zo,↓Zl,↓Zq,↓Zt,↓Zr,↓Zs,cL,Qp,Qo,Qy,Qx,Qv,Ql,Qk,Qw,Qc,Q1,Q2,Qr,Qg,Qi,Qh,Qu,Qt,Qs,Qn,Qd,cJ,e1,e2,e4,i15,i2,i16,i7,j15,j2,j16,j7,cx,cy,cu,cv,r1,r8,r19,r61,x1,x2,y1,y2,s7,s6,m1,m2,m3,hset,w3,J0,hpl]
theorem Q13 {H:List Ob} {P:Value} {id off cap:Nat} {b:List Nat} (hb:BB H id off b) (hl:b.length=128) (hc:128≤cap) :
  Jl T H.length (.block 0 (.loop Qaz)) (w3I H P id off cap (Qa 80 0) 0 [])=some (.normal,w3I H P id off cap (Ug b) 80 [(18,.bool false)]):=by
 have hWl:=Mv b
 have h:=Wf (T:=T) (base:=H.length) (id:=0) (body:=Qaz) (fun i=>w3I H P id off cap (pf 80 (Ug b) i) i []) (s':=w3I H P id off cap (Ug b) 80 [(18,.bool false)]) 80
  (fun i hi=>by
   by_cases h:i<16
   ·exact Zck hb hl hc h
   ·exact Q7p hb.lt (by omega) hi)
  (by
   rw [Dk hWl]
   simp only [w3I,Qaz,Zw,quiet,cF,↓pF,reduceCtorEq,Qb,Qq,Zj,Zd,Zg,Zc,Q8,Qf,Q0,Qe,Qz,Q6,Q5,↓Zy,↓Zx,↓Z7,↓Jb,↓Z9,↓Ja,cL,Qp,Qo,Qy,Qx,Qv,Ql,Qk,Qw,Qc,Q1,Q2,Qr,Qg,Qi,Qh,Qu,Qt,Qs,Qn,Qd,cJ])
 rw [Dj] at h
 exact h
theorem eight {l:List Nat} (h:l.length=8):∃ a b c d e f g i,l=[a,b,c,d,e,f,g,i]:=by
 match l,h with
 | [a,b,c,d,e,f,g,i],_=>exact ⟨a,b,c,d,e,f,g,i,rfl⟩
theorem Qxu (s:List Nat) (k w:Nat):(rnd s k w).length=8:=rfl
theorem Qbo {s:List Nat} (hs:s.length=8) (w:List Nat):∀ n,(Qdf n w s).length=8
 | 0=>hs
 | n+1=>rfl
theorem Zc2 {s:List Nat} (hs:s.length=8) (hx:∀ x∈s,x<18446744073709551616) (k w:Nat):∀ x∈rnd s k w,x<18446744073709551616:=by
 obtain ⟨a,b,c,d,e,f,g,h,rfl⟩:=eight hs
 intro x hm
 have h1:∀ y z:Nat,(y+z)%18446744073709551616<18446744073709551616:=fun _ _=>Jo _ (by decide)
 simp only [rnd,Wh,W8,or_false] at hm
 rcases hm with rfl | rfl | rfl | rfl | rfl | rfl | rfl | rfl
 ·exact h1 _ _
 ·exact hx _ (by simp)
 ·exact hx _ (by simp)
 ·exact hx _ (by simp)
 ·exact h1 _ _
 ·exact hx _ (by simp)
 ·exact hx _ (by simp)
 ·exact hx _ (by simp)
theorem Qqf {s:List Nat} (hs:s.length=8) (hx:∀ x∈s,x<18446744073709551616) (w:List Nat):∀ n,∀ x∈Qdf n w s,x<18446744073709551616
 | 0=>hx
 | n+1=>Zc2 (Qbo hs w n) (Qqf hs hx w n) _ _
theorem Zaa:∀ x∈Dy,x<18446744073709551616:=by decide +kernel
theorem Zca (a b c d e f g h:Nat):fillL (Qa 8 (Value.int .u64 0)) [(0,1,.int .u64 (a:Int)),(1,1,.int .u64 (b:Int)),(2,1,.int .u64 (c:Int)),(3,1,.int .u64 (d:Int)),(4,1,.int .u64 (e:Int)),(5,1,.int .u64 (f:Int)),(6,1,.int .u64 (g:Int)),(7,1,.int .u64 (h:Int))]=some (ns .u64 [a,b,c,d,e,f,g,h]):=rfl
def w1I (H:List Ob) (P:Value) (w s:List Nat) (i:Int) (ex:Env):St:=⟨[(0,P),(4,.pointer (some ⟨H.length,0,none⟩)),(10,.pointer (some ⟨H.length+1,0,none⟩)),(86,eV Dy),(87,.int .i64 i)]++ex,H++[⟨ns .u64 w,true,true,true,1⟩,⟨ns .u64 s,true,true,true,1⟩],[]⟩
theorem Q7r {H:List Ob} {P:Value} {w s:List Nat} {i:Nat} (hw:w.length=80) (hs:s.length=8) (hx:∀ x∈s,x<18446744073709551616) (hi:i<80) :
  Jl T H.length Qe6 (w1I H P w s i [])=some (.normal,w1I H P w (rnd s (Dy.getD i 0) (w.getD i 0)) ((i+1:Nat):Int) []):=by
 obtain ⟨a,b,c,d,e,f,g,h,rfl⟩:=eight hs
 obtain ⟨k,hk⟩:∃ k,Dy[i]?=some k:=⟨_,Q3 (by rw [Qbw]; exact hi)⟩
 obtain ⟨v,hv⟩:∃ k,w[i]?=some k:=⟨_,Q3 (by omega)⟩
 rw [U6 hk,U6 hv]
 have kc:=Yy (k := .u64) hk
 have vc:=Yy (k := .u64) hv
 have la:=hx a (by simp)
 have lb:=hx b (by simp)
 have lc:=hx c (by simp)
 have le:=hx e (by simp)
 have lf:=hx f (by simp)
 have lg:=hx g (by simp)
 have r14:evVal T 164 [.int .u64 e,.int .i64 (-14)]=some (.int .u64 (Ue e 14:Nat)):=Qff (r:=14) le (by decide) (by decide)
 have r18:evVal T 164 [.int .u64 e,.int .i64 (-18)]=some (.int .u64 (Ue e 18:Nat)):=Qff (r:=18) le (by decide) (by decide)
 have r41:evVal T 164 [.int .u64 e,.int .i64 (-41)]=some (.int .u64 (Ue e 41:Nat)):=Qff (r:=41) le (by decide) (by decide)
 have r28:evVal T 164 [.int .u64 a,.int .i64 (-28)]=some (.int .u64 (Ue a 28:Nat)):=Qff (r:=28) la (by decide) (by decide)
 have r34:evVal T 164 [.int .u64 a,.int .i64 (-34)]=some (.int .u64 (Ue a 34:Nat)):=Qff (r:=34) la (by decide) (by decide)
 have r39:evVal T 164 [.int .u64 a,.int .i64 (-39)]=some (.int .u64 (Ue a 39:Nat)):=Qff (r:=39) la (by decide) (by decide)
 have b14:=Bu (r:=14) le (by decide) (by decide)
 have b18:=Bu (r:=18) le (by decide) (by decide)
 have b41:=Bu (r:=41) le (by decide) (by decide)
 have b28:=Bu (r:=28) la (by decide) (by decide)
 have b34:=Bu (r:=34) la (by decide) (by decide)
 have b39:=Bu (r:=39) la (by decide) (by decide)
 have x1:=Rq b14 b18
 have x2:Vx .xor .u64 ((Ue e 14^^^Ue e 18:Nat):Int) ((Ue e 41:Nat):Int)=((Sg1 e:Nat):Int):=Rq (Mb b14 b18) b41
 have x3:=Rq b28 b34
 have x4:Vx .xor .u64 ((Ue a 28^^^Ue a 34:Nat):Int) ((Ue a 39:Nat):Int)=((Sg0 a:Nat):Int):=Rq (Mb b28 b34) b39
 have a1:=Qd2 le lf
 have a2:Vx .xor .u64 (if IntKind.u64.signed=true then -1 else IntKind.u64.max) (e:Int)=((18446744073709551615^^^e:Nat):Int):=Rq (a:=18446744073709551615) (by decide) le
 have lne:18446744073709551615^^^e<18446744073709551616:=Mb (by decide) le
 have a3:=Qd2 lne lg
 have a4:Vx .xor .u64 ((e&&&f:Nat):Int) (((18446744073709551615^^^e)&&&g:Nat):Int)=((chO e f g:Nat):Int):=Rq (Gr lf) (Gr lg)
 have a5:=Qd2 la lb
 have a6:=Qd2 la lc
 have a7:=Qd2 lb lc
 have a8:=Rq (a:=a&&&b) (b:=a&&&c) (Gr lb) (Gr lc)
 have a9:Vx .xor .u64 (((a&&&b)^^^(a&&&c):Nat):Int) ((b&&&c:Nat):Int)=((maO a b c:Nat):Int):=Rq (Mb (Gr lb) (Gr lc)) (Gr lc)
 have m1:=To h (Sg1 e)
 have m2:=To ((h+Sg1 e)%18446744073709551616) (chO e f g)
 have m3:=To (((h+Sg1 e)%18446744073709551616+chO e f g)%18446744073709551616) k
 have m4:=To ((((h+Sg1 e)%18446744073709551616+chO e f g)%18446744073709551616+k)%18446744073709551616) v
 have hT1:((((h+Sg1 e)%18446744073709551616+chO e f g)%18446744073709551616+k)%18446744073709551616+v)%18446744073709551616=t1O [a,b,c,d,e,f,g,h] k v:=by
  show _=(h+Sg1 e+chO e f g+k+v)%18446744073709551616
  omega
 rw [hT1] at m4
 have m5:IntKind.u64.wrap ((Sg0 a:Int)+(maO a b c:Int))=((t2O [a,b,c,d,e,f,g,h]:Nat):Int):=To (Sg0 a) (maO a b c)
 have m6:=To (t1O [a,b,c,d,e,f,g,h] k v) (t2O [a,b,c,d,e,f,g,h])
 have m7:=To d (t1O [a,b,c,d,e,f,g,h] k v)
 have hr:rnd [a,b,c,d,e,f,g,h] k v=[(t1O [a,b,c,d,e,f,g,h] k v+t2O [a,b,c,d,e,f,g,h])%18446744073709551616,a,b,c,(d+t1O [a,b,c,d,e,f,g,h] k v)%18446744073709551616,e,f,g]:=rfl
 have hf:=Zca ((t1O [a,b,c,d,e,f,g,h] k v+t2O [a,b,c,d,e,f,g,h])%18446744073709551616) a b c ((d+t1O [a,b,c,d,e,f,g,h] k v)%18446744073709551616) e f g
 rw [←hr] at hf
 have lR:=Qxu [a,b,c,d,e,f,g,h] k v
 have e1:((i:Int)<80)=True:=eq_true (by omega)
 have w3:IntKind.i64.wrap ((i:Int)+1)=((i+1:Nat):Int):=Yx (b:=1) (by omega)
 have vi:Qp0 none 80 1 (eV Dy) (.int .i64 (i:Int))=some (.int .u64 (k:Nat)):=by
  unfold eV
  rw [Qfm]
  simp only [e1,Zw,quiet,cF,↓pF,reduceCtorEq,Qb,Qq,Zj,Zd,Zg,Zc,Q8,Qf,Q0,Qe,Qz,Q6,Q5,↓Zy,↓Zx,↓Z7,↓Jb,↓Z9,↓Ja,cL,Qp,Qo,Qy,Qx,Qv,Ql,Qk,Qw,Qc,Q1,Q2,Qr,Qg,Qi,Qh,Qu,Qt,Qs,Qn,Qd,kc]
 have g0:(ns .u64 [a,b,c,d,e,f,g,h])[0]?=some (.int .u64 (a:Nat)):=rfl
 have g1:(ns .u64 [a,b,c,d,e,f,g,h])[1]?=some (.int .u64 (b:Nat)):=rfl
 have g2:(ns .u64 [a,b,c,d,e,f,g,h])[2]?=some (.int .u64 (c:Nat)):=rfl
 have g3:(ns .u64 [a,b,c,d,e,f,g,h])[3]?=some (.int .u64 (d:Nat)):=rfl
 have g4:(ns .u64 [a,b,c,d,e,f,g,h])[4]?=some (.int .u64 (e:Nat)):=rfl
 have g5:(ns .u64 [a,b,c,d,e,f,g,h])[5]?=some (.int .u64 (f:Nat)):=rfl
 have g6:(ns .u64 [a,b,c,d,e,f,g,h])[6]?=some (.int .u64 (g:Nat)):=rfl
 have g7:(ns .u64 [a,b,c,d,e,f,g,h])[7]?=some (.int .u64 (h:Nat)):=rfl
 have lS:(ns .u64 [a,b,c,d,e,f,g,h]).length=8:=rfl
 clear hT1 hr hk hv kc hs hx
 generalize rnd [a,b,c,d,e,f,g,h] k v=R at *
 generalize (t1O [a,b,c,d,e,f,g,h] k v+t2O [a,b,c,d,e,f,g,h])%18446744073709551616=z1 at *
 generalize (d+t1O [a,b,c,d,e,f,g,h] k v)%18446744073709551616=z2 at *
 generalize t1O [a,b,c,d,e,f,g,h] k v=t1 at *
 generalize t2O [a,b,c,d,e,f,g,h]=t2 at *
 generalize (((h+Sg1 e)%18446744073709551616+chO e f g)%18446744073709551616+k)%18446744073709551616=z3 at *
 generalize ((h+Sg1 e)%18446744073709551616+chO e f g)%18446744073709551616=z4 at *
 generalize (h+Sg1 e)%18446744073709551616=z5 at *
 generalize Sg1 e=se,Sg0 a=sa,chO e f g=cc,maO a b c=mm,(a&&&b)^^^(a&&&c)=q1,(18446744073709551615^^^e)&&&g=q2 at *
 generalize 18446744073709551615^^^e=q3,e&&&f=q4,a&&&b=q5,a&&&c=q6,b&&&c=q7,Ue e 14^^^Ue e 18=q8,Ue a 28^^^Ue a 34=q9 at *
 generalize Ue e 14=p1,Ue e 18=p2,Ue e 41=p3,Ue a 28=p4,Ue a 34=p5,Ue a 39=p6,i+1=i1 at *
 generalize hS:ns .u64 [a,b,c,d,e,f,g,h]=S at *
 simp only [w1I,hS]
 generalize eV Dy=kt at *
 simp only [Qe6,↓Zm,Zw,quiet,cF,↓pF,reduceCtorEq,Qb,Qq,Zj,Zd,Zg,Zc,Q8,Qf,Q0,Qe,Qz,Q6,Q5,↓Zo,↓Zl,↓Zq,↓Zt,↓Zr,↓Zs,cL,Qp,Qo,Qy,Qx,Qv,Ql,Qk,Qw,Qc,Q1,Q2,Qr,Qg,Qi,Qh,Qu,Qt,Qs,Qn,Qd,cJ,e1,vi,vc,r14,r18,r41,r28,r34,r39,x1,x2,x3,x4,a1,a2,a3,a4,a5,a6,a7,a8,a9,m1,m2,m3,m4,m5,m6,m7,hf,w3,g0,g1,g2,g3,g4,g5,g6,g7,lS,J0,hw,lR,Ji,Q4]
theorem Q16 {H:List Ob} {P:Value} {w s:List Nat} (hw:w.length=80) (hs:s.length=8) (hx:∀ x∈s,x<18446744073709551616) :
  Jl T H.length (.block 4 (.loop Qe6)) (w1I H P w s 0 [])=some (.normal,w1I H P w (Qdf 80 w s) 80 [(88,.bool false)]):=by
 have h:=Wf (T:=T) (base:=H.length) (id:=4) (body:=Qe6) (fun i=>w1I H P w (Qdf i w s) i []) (s':=w1I H P w (Qdf 80 w s) 80 [(88,.bool false)]) 80
  (fun i hi=>Q7r hw (Qbo hs w i) (Qqf hs hx w i) hi)
  (by
   generalize Qdf 80 w s=R
   simp only [w1I]
   generalize eV Dy=kt
   simp only [Qe6,Zw,quiet,cF,↓pF,reduceCtorEq,Qb,Qq,Zj,Zd,Zg,Zc,Q8,Qf,Q0,Qe,Qz,Q6,Q5,↓Zy,↓Zx,↓Z7,↓Jb,↓Z9,↓Ja,cL,Qp,Qo,Qy,Qx,Qv,Ql,Qk,Qw,Qc,Q1,Q2,Qr,Qg,Qi,Qh,Qu,Qt,Qs,Qn,Qd,cJ])
 exact h
def hcl (rv:Value) (n:Nat) (st:List Nat):List Value:=rv::.int .u64 (n:Nat)::ns .u64 st
def hob (rv:Value) (n:Nat) (st:List Nat):Ob:=⟨hcl rv n st,true,true,true,1⟩
theorem Qep (rv:Value) (n:Nat) (st:List Nat):(hcl rv n st).length=2+st.length:=by simp [hcl,J0]; omega
theorem Qym {rv:Value} {n i x:Nat} {st:List Nat} (h:st[i]?=some x):(hcl rv n st)[2+i]?=some (.int .u64 (x:Nat)):=by
 rw [Bn]; exact Yy h
theorem Zad (rv:Value) (n i x:Nat) (st:List Nat):(hcl rv n st).set (2+i) (.int .u64 (x:Nat))=hcl rv n (st.set i x):=by
 rw [Bn]
 show rv::.int .u64 (n:Nat)::(ns .u64 st).set i _=_
 rw [Bf]; rfl
theorem Qpf {rv:Value} {n:Nat} {st:List Nat} (h:st.length=8):Vt 8 (W0 2 (hcl rv n st))=ns .u64 st:=by
 show Vt 8 (ns .u64 st)=_
 rw [Zk (by rw [J0]; omega)]
theorem Za5 {s b:List Nat} (hs:s.length=8):(blk s b).length=8:=by unfold blk; rw [Rd,Qbo hs,hs]; rfl
theorem Zeh {s b:List Nat}:∀ x∈blk s b,x<18446744073709551616:=by
 intro x hx
 unfold blk at hx
 obtain ⟨i,hi⟩:=Bp hx
 rw [Mf] at hi
 split at hi
 ·cases hi; exact Jo _ (by decide)
 ·cases hi
theorem Wq {b:Nat}:∀ {M L:List Nat} {i:Nat},i∈Jp b L M→i∈L∨i∈M
 | [],L,i,h=>.inl h
 | m::M,L,i,h=>by
  simp only [Jp] at h
  split at h
  ·rcases Wq h with h1 | h1
   ·rcases J8.1 h1 with h2 | h2
    ·exact .inl h2
    ·exact .inr (by rw [U7.1 h2]; exact List.mem_cons_self)
   ·exact .inr (Qba _ h1)
  ·rcases Wq h with h1 | h1
   ·exact .inl h1
   ·exact .inr (Qba _ h1)
def w0I (H:List Ob) (hid:Nat) (rv:Value) (n:Nat) (st:List Nat) (s L:List Nat) (ob1 ob2:Ob) (i:Int) (ex:Env):St:=⟨[(0,.pointer (some ⟨hid,0,none⟩)),(174,eV s),(175,.int .i64 i)]++ex,H.set hid (hob rv n st)++[ob1,ob2],L⟩
theorem Q18 {H:List Ob} {hid n:Nat} {rv:Value} {st s:List Nat} {ob1 ob2:Ob} (hh:hid<H.length) (hs:s.length=8) (hst:st.length=8) :
  ∃ L,Jl T H.length (.block 6 (.loop Qhr)) (w0I H hid rv n st s [] ob1 ob2 0 [])=some (.normal,w0I H hid rv n (Bc (fun x y=>(x+y)%18446744073709551616) st s) s L ob1 ob2 8 [(176,.bool false)])∧∀ i∈L,i=hid:=by
 have hZ:(Bc (fun x y=>(x+y)%18446744073709551616) st s).length=8:=by rw [Rd,hs,hst]; rfl
 obtain ⟨Z,hZd⟩:∃ Z,Z=Bc (fun x y=>(x+y)%18446744073709551616) st s:=⟨_,rfl⟩
 rw [←hZd] at hZ ⊢
 obtain ⟨st',hb,L,rfl,hL⟩:=Vi (T:=T) (base:=H.length) (id:=6) (body:=Qhr)
  (fun i x=>∃ L,x=w0I H hid rv n (Z.take i++st.drop i) s L ob1 ob2 i []∧∀ j∈L,j=hid)
  (Q:=fun x=>∃ L,x=w0I H hid rv n Z s L ob1 ob2 8 [(176,.bool false)]∧∀ j∈L,j=hid)
  8 (s:=w0I H hid rv n st s [] ob1 ob2 0 []) ⟨[],rfl,by simp⟩
  (fun i x hi hx=>by
   obtain ⟨L,rfl,hL⟩:=hx
   obtain ⟨u,hu⟩:∃ u,st[i]?=some u:=⟨_,Q3 (by omega)⟩
   obtain ⟨v,hv⟩:∃ u,s[i]?=some u:=⟨_,Q3 (by omega)⟩
   have hz:Z[i]?=some ((u+v)%18446744073709551616):=by rw [hZd,Mf,hu,hv]
   have hlt:(Z.take i).length=i:=by rw [Js]; omega
   have hg:(Z.take i++st.drop i)[i]?=some u:=by
    rw [Za (by omega),hlt,Jw,Vy]; exact hu
   have hstep:(Z.take i++st.drop i).set i ((u+v)%18446744073709551616)=Z.take (i+1)++st.drop (i+1):=by
    rw [Yu _ _ (by omega),hlt,Jw,Yf (i:=i),hu,Ym,hz]
    simp
   have hlen:(Z.take i++st.drop i).length=8:=by rw [Zh,X5,hlt]; omega
   have gc:=Qym (rv:=rv) (n:=n) hg
   have sc:=Zad rv n i ((u+v)%18446744073709551616) (Z.take i++st.drop i)
   rw [hstep] at sc
   have cl:=Qep rv n (Z.take i++st.drop i)
   rw [hlen] at cl
   have vc:=Yy (k := .u64) hv
   have vi:Qp0 none 8 1 (eV s) (.int .i64 (i:Int))=some (.int .u64 (v:Nat)):=by
    have e1:((i:Int)<8)=True:=eq_true (by omega)
    unfold eV
    rw [Qfm]
    simp only [e1,Zw,quiet,cF,↓pF,reduceCtorEq,Qb,Qq,Zj,Zd,Zg,Zc,Q8,Qf,Q0,Qe,Qz,Q6,Q5,↓Zy,↓Zx,↓Z7,↓Jb,↓Z9,↓Ja,cL,Qp,Qo,Qy,Qx,Qv,Ql,Qk,Qw,Qc,Q1,Q2,Qr,Qg,Qi,Qh,Qu,Qt,Qs,Qn,Qd,vc]
   have m1:=To u v
   have e1:((i:Int)<8)=True:=eq_true (by omega)
   have w3:IntKind.i64.wrap ((i:Int)+1)=((i+1:Nat):Int):=Yx (b:=1) (by omega)
   have hget:∀ o:Ob,(H.set hid o++[ob1,ob2])[hid]?=some o:=fun o=>by
    rw [Qm (by rw [Jk]; exact hh),Jj hh]
   have hset:∀ o o':Ob,(H.set hid o++[ob1,ob2]).set hid o'=H.set hid o'++[ob1,ob2]:=fun o o'=>by
    rw [Bo _ _ (by rw [Jk]; exact hh),Th]
   have e5:(2+i+1≤2+8)=True:=eq_true (by omega)
   refine ⟨w0I H hid rv n (Z.take (i+1)++st.drop (i+1)) s (Jp H.length L [hid]) ob1 ob2 ((i+1:Nat):Int) [],?_,_,rfl,?_⟩
   ·generalize Z.take (i+1)++st.drop (i+1)=O2,Z.take i++st.drop i=O1,(u+v)%18446744073709551616=z at *
    simp only [w0I,hob]
    generalize hcl rv n O1=C1,hcl rv n O2=C2,eV s=sv,i+1=i1 at *
    simp only [Qhr,↓Zm,Zw,quiet,cF,↓pF,reduceCtorEq,Qb,Qq,Zj,Zd,Zg,Zc,Q8,Qf,Q0,Qe,Qz,Q6,Q5,↓Zo,↓Zl,↓Zq,↓Zt,↓Zr,↓Zs,cL,Qp,Qo,Qy,Qx,Qv,Ql,Qk,Qw,Qc,Q1,Q2,Qr,Qg,Qi,Qh,Qu,Qt,Qs,Qn,Qd,cJ,e1,vi,m1,w3,gc,sc,cl,e5,hget,hset]
    done
   ·intro j hj
    rcases Wq hj with h | h
    ·exact hL j h
    ·simpa using h)
  (fun x hx=>by
   obtain ⟨L,rfl,hL⟩:=hx
   rw [Zk (by omega),Vv (by omega),Xd]
   refine ⟨_,?_,L,rfl,hL⟩
   simp only [w0I,hob]
   generalize hcl rv n Z=C
   generalize eV s=sv
   simp only [Qhr,Zw,quiet,cF,↓pF,reduceCtorEq,Qb,Qq,Zj,Zd,Zg,Zc,Q8,Qf,Q0,Qe,Qz,Q6,Q5,↓Zy,↓Zx,↓Z7,↓Jb,↓Z9,↓Ja,cL,Qp,Qo,Qy,Qx,Qv,Ql,Qk,Qw,Qc,Q1,Q2,Qr,Qg,Qi,Qh,Qu,Qt,Qs,Qn,Qd,cJ])
 exact ⟨L,hb,hL⟩
theorem Qbm {α:Type} {l:List α} {i:Nat} {x:α} (h:l[i]?=some x):l.set i x=l:=by
 apply Wa
 intro k
 rw [Gv]
 by_cases c:i=k
 ·rw [if_pos c,←c,h,if_pos (Q7.1 h).1]
 ·rw [if_neg c]
def Qpw:List Nat:=Qa 80 0
theorem Zcg:Qa 80 (Value.int .u64 0)=ns .u64 Qpw:=rfl
theorem Q7l:Qpw.length=80:=rfl
def Q1v:List Nat:=Qa 8 0
theorem z8_eq:Qa 8 (Value.int .u64 0)=ns .u64 Q1v:=rfl
theorem Zcf:Q1v.length=8:=rfl
theorem Q62 {H:List Ob} {hid id off cap n:Nat} {rv:Value} {st b:List Nat} (hh:H[hid]?=some (hob rv n st)) (hs:st.length=8) (hx:∀ x∈st,x<18446744073709551616) (hb:BB H id off b) (hl:b.length=128) (hc:128≤cap) :
  ∃ w s M,Yd T 162 [.pointer (some ⟨hid,0,none⟩),.slice (some ⟨id,off,none⟩) 128 cap] H=some (.tuple #[],H.set hid (hob rv n (blk st b))++[w,s],M)∧∀ i∈M,i=hid:=by
 have hlt:hid<H.length:=(Q7.1 hh).1
 have h3:=Q13 (P := .pointer (some ⟨hid,0,none⟩)) (cap:=cap) hb hl hc
 have hWl:=Mv b
 have h1:=Q16 (H:=H) (P := .pointer (some ⟨hid,0,none⟩)) hWl hs hx
 have lr:=Qbo hs (Ug b) 80
 obtain ⟨L,h0,hL⟩:=Q18 (H:=H) (hid:=hid) (n:=n) (rv:=rv) (ob1:=⟨ns .u64 (Ug b),true,true,true,1⟩) (ob2:=⟨ns .u64 (Qdf 80 (Ug b) st),true,true,true,1⟩) hlt lr hs
 rw [show Bc (fun x y=>(x+y)%18446744073709551616) st (Qdf 80 (Ug b) st)=blk st b from rfl] at h0
 have hss:H.set hid (hob rv n st)=H:=Qbm hh
 refine ⟨⟨ns .u64 (Ug b),true,true,true,1⟩,⟨ns .u64 (Qdf 80 (Ug b) st),true,true,true,1⟩,L,?_,hL⟩
 simp only [w0I,hss,Ze,Q9,J6] at h0
 have hz:=Zcg
 have lz:=Q7l
 have hz8:=z8_eq
 have lz8:=Zcf
 rw [show Qa 80 0=Qpw from rfl] at h3
 simp only [w3I,Ze,Q9,J6] at h3
 simp only [w1I,Ze,Q9,J6] at h1
 have ht:=Qxk
 have hcs:=Qpf (rv:=rv) (n:=n) hs
 have hcl8:2+8≤(hcl rv n st).length:=by rw [Qep]; omega
 have hget:∀ l:List Ob,(H++l)[hid]?=some ⟨hcl rv n st,true,true,true,1⟩:=fun l=>by rw [Qm hlt]; exact hh
 have lk:=Qbw
 generalize H.set hid (hob rv n (blk st b))=H' at *
 generalize Ug b=W at *
 generalize Qdf 80 W st=R,hcl rv n st=C,Qpw=Z,Q1v=Z8,Dy=KT at *
 rw [Zz (fn:=Zfr) rfl]
 simp only [Zfr,↓Zm,Zw,quiet,cF,↓pF,reduceCtorEq,Qb,Qq,Zj,Zd,Zg,Zc,Q8,Qf,Q0,Qe,Qz,Q6,Q5,↓Zo,↓Zl,↓Zq,↓Zt,↓Zr,↓Zs,cL,Qp,Qo,Qy,Qx,Qv,Ql,Qk,Qw,Qc,Q1,Q2,Qr,Qg,Qi,Qh,Qu,Qt,Qs,Qn,Qd,cJ,hz,hz8,h3,h1,h0,ht,hget,hcs,hcl8,Q4,Ji,Jf,Jt,Ku,Ju,J0,hWl,hs,lr,lz,lz8,lk,Ko]
 rfl
inductive Rst (K:Nat→Prop) (H:List Ob):Value→List Nat→Prop
 | nil:Rst K H (.slice none 0 0) []
 | empty {id:Nat}:¬ K id→H[id]?=some ⟨[],true,true,true,1⟩→Rst K H (.slice (some ⟨id,0,none⟩) 0 0) []
 | own {id off:Nat} {all l:List Nat}:¬ K id→H[id]?=some ⟨u8s all,true,true,false,1⟩→off+l.length≤all.length→(∀ i,i<l.length→all[off+i]?=l[i]?)→Rst K H (.slice (some ⟨id,off,none⟩) l.length l.length) l
theorem Rst.app {K:Nat→Prop} {H m:List Ob} {v:Value} {l:List Nat} (h:Rst K H v l):Rst K (H++m) v l:=by
 cases h with
 | nil=>exact .nil
 | empty h1 h2=>exact .empty h1 (by rw [Qm (Q7.1 h2).1]; exact h2)
 | own h1 h2 h4 h3=>exact .own h1 (by rw [Qm (Q7.1 h2).1]; exact h2) h4 h3
theorem Rst.setH {K:Nat→Prop} {H:List Ob} {v:Value} {l:List Nat} {hid n:Nat} {rv:Value} {st:List Nat} (h:Rst K H v l) (hh:H[hid]?=some (hob rv n st)) (o:Ob):Rst K (H.set hid o) v l:=by
 cases h with
 | nil=>exact .nil
 | empty h1 h2=>exact .empty h1 (by
   rw [Z4]
   ·exact h2
   ·intro e; subst e
    have:=congrArg Ob.cells (B0 (hh.symm.trans h2))
    simp [hob,hcl] at this)
 | own h1 h2 h4 h3=>exact .own h1 (by
   rw [Z4]
   ·exact h2
   ·intro e; subst e
    have:=congrArg Ob.exact (B0 (hh.symm.trans h2))
    simp [hob] at this) h4 h3
theorem Qku {all l:List Nat} {off:Nat} (h:∀ i,i<l.length→all[off+i]?=l[i]?):((u8s all).drop off).take l.length=u8s l:=by
 apply Wa
 intro i
 rw [Ks]
 split
 ·rename_i hi
  rw [Vy]
  have:=h i hi
  simp only [u8s,U4,this]
 ·rename_i hi
  rw [Xe (by rw [Zv]; omega)]
theorem Rst.append {K:Nat→Prop} {H:List Ob} {v x:Value} {l p:List Nat} (h:Rst K H v l) (hK:∀ i,K i→i<H.length) (hl:Go.Ev.lenV x=some p.length) (he:elemsOf H 1 p.length x=some (u8s p)) (hb:l.length+p.length≤2^47) :
  ∃ v' H' M,Wk 1 1 H v x=some (v',H',none,M)∧Rst K H' v' (l++p)∧(∀ i∈M,¬ K i)∧H.length≤H'.length∧(∀ i,K i→H'[i]?=H[i]?)∧∀ (i:Nat) (o:Ob),H[i]?=some o→o.exact=true→H'[i]?=some o:=by
 rcases Wl p.length with hn | hn
 ·have:p=[]:=Ws hn
  subst this
  rw [Xd]
  refine ⟨v,H,[],?_,h,by simp,Zn _,fun _ _=>rfl,fun i o h _=>h⟩
  rw [Jg] at hl he
  cases h<;>simp only [Wk,hl,he,Zb,if_true]
 ·have h1:¬ p.length=0:=by omega
  have hnew:¬ K H.length:=fun h=>absurd (hK _ h) (Xt _)
  cases h with
  | nil =>
   refine ⟨.slice (some ⟨H.length,0,none⟩) p.length p.length,H++[Ob.grown 1 (u8s p)],[],?_,?_,by simp,by simp,?_,?_⟩
   ·have h2:(0+p.length)*1≤2^47∧0<1∧0<1:=⟨by simpa using hb,by decide,by decide⟩
    simp only [Wk,hl,he,Zb,if_neg h1,h2,and_self,not_true_eq_false,if_false,if_true]
   ·rw [Q9]
    exact .own (all:=p) hnew (by simp [Ob.grown]) (by omega) (fun i _=>by rw [Z3])
   ·intro i hi; rw [Qm (hK i hi)]
   ·intro i o ho _; rw [Qm (Q7.1 ho).1]; exact ho
  | @empty id0 k1 k2 =>
   refine ⟨.slice (some ⟨H.length,0,none⟩) (0+p.length) (0+p.length),H++[Ob.grown 1 ([]++u8s p)],[],?_,?_,by simp,by simp,?_,?_⟩
   ·have h2:(0+p.length)*1≤2^47∧0<1∧0<1:=⟨by simpa using hb,by decide,by decide⟩
    have h4:liveAt H id0=some ⟨[],true,true,true,1⟩:=V9 k2 rfl
    have h7:¬ (0+p.length≤0):=by omega
    have h8:elemsOf H 1 0 (.slice (some ⟨id0,0,none⟩) 0 0)=some []:=by simp [elemsOf,h4]
    simp only [Wk,hl,he,Zb,if_neg h1,h2,and_self,not_true_eq_false,if_false,if_true,h4,h8,if_neg h7]
   ·rw [Q9,Q9,Z3]
    exact .own (all:=p) hnew (by simp [Ob.grown]) (by omega) (fun i _=>by rw [Z3])
   ·intro i hi; rw [Qm (hK i hi)]
   ·intro i o ho _; rw [Qm (Q7.1 ho).1]; exact ho
  | @own id0 off all _ k1 k2 k4 k3 =>
   have hid:id0<H.length:=(Q7.1 k2).1
   refine ⟨.slice (some ⟨H.length,0,none⟩) (l.length+p.length) (l.length+p.length),(H.set id0 Ob.dead)++[Ob.grown 1 (u8s l++u8s p)],[id0],?_,?_,by simpa using k1,by simp,?_,?_⟩
   ·have h2:(l.length+p.length)*1≤2^47∧0<1∧0<1:=⟨by omega,by decide,by decide⟩
    have h4:liveAt H id0=some ⟨u8s all,true,true,false,1⟩:=V9 k2 rfl
    have h7:¬ (l.length+p.length≤l.length):=by omega
    have h8:elemsOf H 1 l.length (.slice (some ⟨id0,off,none⟩) l.length l.length)=some (u8s l):=by
     have:=Qku k3
     simp only [elemsOf,h4,Zb,Kh]
     rw [this]
     simp [Zv,k4]
    simp only [Wk,hl,he,Zb,if_neg h1,h2,and_self,not_true_eq_false,if_false,if_true,h4,h8,if_neg h7,Jd,Zn]
   ·have:=Rst.own (K:=K) (H:=(H.set id0 Ob.dead)++[Ob.grown 1 (u8s l++u8s p)]) (id:=H.length) (off:=0) (all:=l++p) (l:=l++p) hnew (by simp [Ob.grown,u8s]) (by omega) (fun i _=>by rw [Z3])
    rwa [Zh] at this
   ·intro i hi
    rw [Qm (by rw [Jk]; exact hK i hi),Z4 (fun e=>k1 (by rw [e]; exact hi))]
   ·intro i o ho hex
    rw [Qm (by rw [Jk]; exact (Q7.1 ho).1),Z4]
    ·exact ho
    ·intro e; subst e; rw [k2] at ho; cases ho; cases hex
end Go.Ev.YtpgphpkjlpkcbaaGreat
namespace Go.Ev.YtpgphpkjlpkcbaaGreat
open Go Go.Ev
attribute [local congr] W5 Up W4 Uq Wo
set_option maxRecDepth 100000
theorem Qed (b:List Nat):∀ n,(stK n b).length=8
 | 0=>rfl
 | n+1=>Za5 (Qed b n)
theorem Q28:∀ x∈Rf,x<18446744073709551616:=by decide
theorem Qp8 (b:List Nat):∀ n,∀ x∈stK n b,x<18446744073709551616
 | 0=>Q28
 | n+1=>Zeh
theorem Qxo (a b:List Nat):∀ q,128*q≤a.length→stK q (a++b)=stK q a
 | 0,_=>rfl
 | q+1,h=>by
  rw [stK,stK,Qxo a b q (by omega),Y3 (by omega),Yr (by rw [X5]; omega)]
def Hsh (K:Nat→Prop) (H:List Ob) (hid:Nat) (all:List Nat):Prop:=∃ rv,H[hid]?=some (hob rv all.length (stK (all.length/128) all))∧Rst K H rv (all.drop (128*(all.length/128)))
def fdF (hid:Nat):Value := .func (.func 162) [Value.pointer (some ⟨hid,0,none⟩)].toArray [].toArray
def fdI (hid:Nat) (H:List Ob) (L:List Nat) (ex:Env):St:=⟨[(0,.pointer (some ⟨hid,0,none⟩)),(1,.int .i64 128),(3,fdF hid)]++ex,H,L⟩
theorem Zar {K:Nat→Prop} {H:List Ob} {hid b0 n:Nat} {rv:Value} {st rest L:List Nat} {ex:Env} (hK:∀ i,K i→i<H.length) (hKh:¬ K hid) (hh:H[hid]?=some (hob rv n st)) (hs:st.length=8) (hx:∀ x∈st,x<18446744073709551616) (hr:Rst K H rv rest) (h128:128≤rest.length) (xr:∀ x∈rest,x<256) (hL:∀ i∈L,¬ K i) (hmx:rest.length<2^60) :
  ∃ rv' H' L' ex',Jl T b0 Te (fdI hid H L ex)=some (.normal,fdI hid H' L' ex')∧H'[hid]?=some (hob rv' n (blk st (rest.take 128)))∧Rst K H' rv' (rest.drop 128)∧(∀ i,K i→H'[i]?=H[i]?)∧H.length≤H'.length∧∀ i∈L',¬ K i:=by
 have hlt:hid<H.length:=(Q7.1 hh).1
 cases hr with
 | nil=>exact absurd h128 (by decide)
 | empty _ _=>exact absurd h128 (by decide)
 | @own id off all _ k1 k2 k4 k3 =>
  have hidne:id≠hid:=fun e=>by
   subst e
   have:=congrArg Ob.exact (B0 (hh.symm.trans k2))
   simp [hob] at this
  have hBB:BB H id off (rest.take 128):=⟨⟨all,k2,fun i hi=>by
   rw [Js] at hi
   rw [k3 i (by omega),Ks,if_pos (by omega)]⟩,fun x hx=>xr x (Ki hx)⟩
  have hl:(rest.take 128).length=128:=by rw [Js]; omega
  obtain ⟨w,s,M,hb,hM⟩:=Q62 (cap:=rest.length) hh hs hx hBB hl h128
  have c0:∀ s',(hcl (.slice (some ⟨id,off,none⟩) rest.length rest.length) n s')[0]?=some (.slice (some ⟨id,off,none⟩) rest.length rest.length):=fun _=>rfl
  have cs:∀ s' v,(hcl (.slice (some ⟨id,off,none⟩) rest.length rest.length) n s').set 0 v=hcl v n s':=fun _ _=>rfl
  have cl:∀ v s',(1≤(hcl v n s').length)=True:=fun v s'=>eq_true (by rw [Qep]; omega)
  have b1:Wz rest.length rest.length none (some (.int .i64 128)) none=some (0,128,rest.length):=by
   have n1:Db (some (.int .i64 128)) rest.length rest.length=some 128:=Gi (n:=128) h128
   rw [Gf,n1,Zb]; rfl
  have b2:Wz rest.length rest.length (some (.int .i64 128)) none none=some (128,rest.length,rest.length):=by
   have n1:Db (some (.int .i64 128)) rest.length 0=some 128:=Gi (n:=128) h128
   rw [Gf,T0,Zb,n1,Zb]
  have e1:((128:Int)≤(rest.length:Int))=True:=eq_true (by omega)
  have g0:H[hid]?=some ⟨hcl (.slice (some ⟨id,off,none⟩) rest.length rest.length) n st,true,true,true,1⟩:=hh
  have g1:∀ o:Ob,(H.set hid o++[w,s])[hid]?=some o:=fun o=>by
   rw [Qm (by rw [Jk]; exact hlt),Jj hlt]
  have g2:∀ o:Ob,(H.set hid o++[w,s])[id]?=some ⟨u8s all,true,true,false,1⟩:=fun o=>by
   rw [Qm (by rw [Jk]; exact (Q7.1 k2).1),Z4 (Ne.symm hidne)]; exact k2
  have g3:∀ o o':Ob,(H.set hid o++[w,s]).set hid o'=H.set hid o'++[w,s]:=fun o o'=>by
   rw [Bo _ _ (by rw [Jk]; exact hlt),Th]
  refine ⟨.slice (some ⟨id,off+128,none⟩) (rest.length-128) (rest.length-128),H.set hid (hob (.slice (some ⟨id,off+128,none⟩) (rest.length-128) (rest.length-128)) n (blk st (rest.take 128)))++[w,s],Jp b0 (Jp b0 L M) [hid],[],?_,g1 _,?_,?_,?_,?_⟩
  ·simp only [hob] at hb ⊢
   generalize blk st (rest.take 128)=st' at *
   simp only [fdI,fdF,Te,↓Zm,Zw,quiet,cF,↓pF,reduceCtorEq,Qb,Qq,Zj,Zd,Zg,Zc,Q8,Qf,Q0,Qe,Qz,Q6,Q5,↓Zo,↓Zl,↓Zq,↓Zt,↓Zr,↓Zs,cL,Qp,Qo,Qy,Qx,Qv,Ql,Qk,Qw,Qc,Q1,Q2,Qr,Qg,Qi,Qh,Qu,Qt,Qs,Qn,Qd,cJ,e1,b1,b2,hb,c0,cs,cl,g0,k2,g1,g2,g3]
  ·have:=Rst.own (K:=K) (H:=H.set hid (hob (.slice (some ⟨id,off+128,none⟩) (rest.length-128) (rest.length-128)) n (blk st (rest.take 128)))++[w,s]) (id:=id) (off:=off+128) (all:=all) (l:=rest.drop 128) k1 (g2 _) (by rw [X5]; omega) (fun i hi=>by
    rw [X5] at hi
    rw [Vy,←k3 _ (by omega),Kc])
   rwa [X5] at this
  ·intro i hi
   rw [Qm (by rw [Jk]; exact hK i hi),Z4 (fun e=>hKh (by rw [e]; exact hi))]
  ·simp
  ·intro i hi
   rcases Wq hi with h | h
   ·rcases Wq h with h | h
    ·exact hL i h
    ·rw [hM i h]; exact hKh
   ·rw [U7.1 h]; exact hKh
theorem Rst.shape {K:Nat→Prop} {H:List Ob} {v:Value} {l:List Nat} (h:Rst K H v l):∃ (a:Option Addr) (c:Nat),v=.slice a l.length c:=by
 cases h with
 | nil=>exact ⟨_,_,rfl⟩
 | empty _ _=>exact ⟨_,_,rfl⟩
 | own _ _ _ _=>exact ⟨_,_,rfl⟩
theorem Zap {K:Nat→Prop} {H:List Ob} {hid:Nat} {x:Value} {all p:List Nat} (hK:∀ i,K i→i<H.length) (hKh:¬ K hid) (hh:Hsh K H hid all) (xa:∀ y∈all,y<256) (xp:∀ y∈p,y<256)
  (hl:∃ (a:Option Addr) (c:Nat),x=.slice a p.length c) (he:∀ o,elemsOf (H.set hid o) 1 p.length x=some (u8s p)) (hb:all.length+p.length<2^50) (hb2:p.length≤2^47-128) :
  ∃ H' M,Yd T 137 [.pointer (some ⟨hid,0,none⟩),.int .i64 128,x,fdF hid] H=some (.tuple #[],H',M)∧Hsh K H' hid (all++p)∧(∀ i,K i→H'[i]?=H[i]?)∧H.length≤H'.length∧∀ i∈M,¬ K i:=by
 obtain ⟨rv,h1,h2⟩:=hh
 have hlt:hid<H.length:=(Q7.1 h1).1
 obtain ⟨q0,hq0⟩:∃ q,q=all.length/128:=⟨_,rfl⟩
 rw [←hq0] at h1 h2
 have hq1:128*q0≤all.length:=by rw [hq0]; omega
 have hst:stK q0 all=stK q0 (all++p):=(Qxo all p q0 hq1).symm
 have hN:(all++p).length=all.length+p.length:=Zh
 rw [hst] at h1
 obtain ⟨st0,hst0⟩:∃ s,s=stK q0 (all++p):=⟨_,rfl⟩
 rw [←hst0] at h1
 have hrest:all.drop (128*q0)++p=(all++p).drop (128*q0):=(Y3 hq1).symm
 have hrl:(all.drop (128*q0)).length≤127:=by rw [X5,hq0]; omega
 have hr1:Rst K (H.set hid (hob rv (all.length+p.length) st0)) rv (all.drop (128*q0)):=h2.setH h1 _
 have hK1:∀ i,K i→i<(H.set hid (hob rv (all.length+p.length) st0)).length:=fun i hi=>by rw [Jk]; exact hK i hi
 have hlen:Go.Ev.lenV x=some p.length:=by obtain ⟨a,c,rfl⟩:=hl; rfl
 obtain ⟨rv',H2,M2,ha,a1,a2,a3,a4,a5⟩:=hr1.append hK1 hlen (he _) (by omega)
 have hg1:(H.set hid (hob rv (all.length+p.length) st0))[hid]?=some (hob rv (all.length+p.length) st0):=Jj hlt
 have hg2:=a5 hid _ hg1 rfl
 rw [Jk] at a3
 have hlt2:hid<H2.length:=by omega
 have hr3:Rst K (H2.set hid (hob rv' (all.length+p.length) st0)) rv' ((all++p).drop (128*q0)):=by
  rw [hrest] at a1
  exact a1.setH hg2 _
 have hg3:(H2.set hid (hob rv' (all.length+p.length) st0))[hid]?=some (hob rv' (all.length+p.length) st0):=Jj hlt2
 obtain ⟨H3,hH3⟩:∃ X,X=H2.set hid (hob rv' (all.length+p.length) st0):=⟨_,rfl⟩
 have hf3:∀ i,K i→H3[i]?=H[i]? := fun i hi=>by
  have hne:hid≠i:=fun e=>hKh (by rw [e]; exact hi)
  rw [hH3,Z4 hne,a4 i hi,Z4 hne]
 have hl3:H.length≤H3.length:=by rw [hH3,Jk]; exact a3
 obtain ⟨L3,hL3⟩:∃ L,L=Jp H.length (Jp H.length (Jp H.length [] [hid]) M2) [hid]:=⟨_,rfl⟩
 have hL3':∀ i∈L3,¬ K i:=fun i hi=>by
  rw [hL3] at hi
  rcases Wq hi with h | h
  ·rcases Wq h with h | h
   ·rcases Wq h with h | h
    ·simp at h
    ·rw [U7.1 h]; exact hKh
   ·exact a2 i h
  ·rw [U7.1 h]; exact hKh
 rw [←hH3] at hr3 hg3
 obtain ⟨st,hloop,H',L',ex',rvf,rfl,f1,f2,f3,f4,f5⟩:=Vi (T:=T) (base:=H.length) (id:=0) (body:=Te)
  (fun k st=>∃ H' L' ex' rvk,st=fdI hid H' L' ex'∧H'[hid]?=some (hob rvk (all.length+p.length) (stK (q0+k) (all++p)))∧Rst K H' rvk ((all++p).drop (128*(q0+k)))∧(∀ i,K i→H'[i]?=H[i]?)∧H.length≤H'.length∧∀ i∈L',¬ K i)
  (Q:=fun st=>∃ H' L' ex' rvk,st=fdI hid H' L' ex'∧H'[hid]?=some (hob rvk (all.length+p.length) (stK ((all++p).length/128) (all++p)))∧Rst K H' rvk ((all++p).drop (128*((all++p).length/128)))∧(∀ i,K i→H'[i]?=H[i]?)∧H.length≤H'.length∧∀ i∈L',¬ K i)
  ((all++p).length/128-q0) (s:=fdI hid H3 L3 []) ⟨H3,L3,[],rv',rfl,by rw [Jy,←hst0]; exact hg3,by rw [Jy]; exact hr3,hf3,hl3,hL3'⟩
  (fun k st hk hs=>by
   obtain ⟨Hk,Lk,exk,rvk,rfl,k1,k2,k3,k4,k5⟩:=hs
   obtain ⟨rv2,Hk2,L2,ex2,j1,j2,j3,j4,j5,j6⟩:=Zar (b0:=H.length) (ex:=exk) (fun i hi=>Xr (hK i hi) k4) hKh k1 (Qed _ _) (Qp8 _ _) k2 (by rw [X5]; omega) (fun y hy=>by
    rcases J8.1 (Y2 hy) with h | h
    ·exact xa y h
    ·exact xp y h) k5 (by rw [X5]; omega)
   refine ⟨_,j1,Hk2,L2,ex2,rv2,rfl,j2,?_,fun i hi=>(j4 i hi).trans (k3 i hi),Uz k4 j5,j6⟩
   rw [Gj] at j3
   rw [show 128*(q0+(k+1))=128*(q0+k)+128 by omega]
   exact j3)
  (fun st hs=>by
   obtain ⟨Hk,Lk,exk,rvk,rfl,k1,k2,k3,k4,k5⟩:=hs
   have hqq:q0+((all++p).length/128-q0)=(all++p).length/128:=by
    have:q0≤(all++p).length/128:=by rw [hq0,hN]; omega
    omega
   rw [hqq] at k1 k2
   have hrl2:((all++p).drop (128*((all++p).length/128))).length<128:=by rw [X5]; omega
   obtain ⟨v,c,hv⟩:=k2.shape
   refine ⟨_,?_,Hk,Lk,[(33,.bool false)],rvk,rfl,k1,k2,k3,k4,k5⟩
   subst hv
   have c0:∀ v' s',(hcl v' (all.length+p.length) s')[0]?=some v':=fun _ _=>rfl
   have e1:((128:Int)≤(((all++p).drop (128*((all++p).length/128))).length:Int))=False:=eq_false (by omega)
   simp only [hob] at k1
   generalize ((all++p).drop (128*((all++p).length/128))).length=rl,stK ((all++p).length/128) (all++p)=sk at *
   simp only [fdI,fdF,Te,↓Zm,Zw,quiet,cF,↓pF,reduceCtorEq,Qb,Qq,Zj,Zd,Zg,Zc,Q8,Qf,Q0,Qe,Qz,Q6,Q5,↓Zo,↓Zl,↓Zq,↓Zt,↓Zr,↓Zs,cL,Qp,Qo,Qy,Qx,Qv,Ql,Qk,Qw,Qc,Q1,Q2,Qr,Qg,Qi,Qh,Qu,Qt,Qs,Qn,Qd,cJ,e1,k1,c0])
 refine ⟨H',L',?_,⟨rvf,by rw [hN] at f1 ⊢; exact f1,f2⟩,f3,f4,f5⟩
 obtain ⟨c1,c2,rfl⟩:=hl
 simp only [fdI,Ze,Q9,hL3] at hloop
 simp only [hob] at h1 ha hg2 hH3
 have w1:IntKind.u64.wrap (p.length:Int)=(p.length:Int):=R2 (by omega)
 have w2:IntKind.u64.wrap ((all.length:Int)+(p.length:Int))=((all.length+p.length:Nat):Int):=Ri (by omega)
 have c0:∀ v' n' s',(hcl v' n' s')[0]?=some v':=fun _ _ _=>rfl
 have c1':∀ v' (n':Nat) s',(hcl v' n' s')[1]?=some (.int .u64 n'):=fun _ _ _=>rfl
 have s0:∀ v' n' s' v,(hcl v' n' s').set 0 v=hcl v n' s':=fun _ _ _ _=>rfl
 have s1:∀ v' n' s' (m:Nat),(hcl v' n' s').set 1 (.int .u64 (m:Int))=hcl v' m s':=fun _ _ _ _=>rfl
 have cl:∀ v n' s',(1≤(hcl v n' s').length)=True:=fun v n' s'=>eq_true (by rw [Qep]; omega)
 have cl2:∀ v n' s',(2≤(hcl v n' s').length)=True:=fun v n' s'=>eq_true (by rw [Qep]; omega)
 have hgs:∀ o:Ob,(H.set hid o)[hid]?=some o:=fun o=>Jj hlt
 obtain ⟨vr,cr,hvr⟩:=a1.shape
 have hok:Yj rv'=true:=by rw [hvr]; rfl
 have hc1:rv'.cells.toList=[rv']:=by rw [hvr]; rfl
 have hc2:rv'.cells.size=1:=by rw [hvr]; rfl
 clear hvr
 generalize all.length+p.length=NN at *
 rw [Zz (fn:=Q7g) rfl]
 simp only [Q7g,↓Zm,Zw,quiet,cF,↓pF,reduceCtorEq,Qb,Qq,Zj,Zd,Zg,Zc,Q8,Qf,Q0,Qe,Qz,Q6,Q5,↓Zo,↓Zl,↓Zq,↓Zt,↓Zr,↓Zs,cL,Qp,Qo,Qy,Qx,Qv,Ql,Qk,Qw,Qc,Q1,Q2,Qr,Qg,Qi,Qh,Qu,Qt,Qs,Qn,Qd,cJ,fdF,h1,c0,c1',s0,s1,cl,cl2,w1,w2,hgs,ha,hg2,←hH3,hok,hc1,hc2]
 simp only [fdF] at hloop
 simp only [hloop,Zw,quiet,cF,↓pF,reduceCtorEq,Qb,Qq,Zj,Zd,Zg,Zc,Q8,Qf,Q0,Qe,Qz,Q6,Q5,↓Zo,↓Zl,↓Zq,↓Zt,↓Zr,↓Zs,cL,Qp,Qo,Qy,Qx,Qv,Ql,Qk,Qw,Qc,Q1,Q2,Qr,Qg,Qi,Qh,Qu,Qt,Qs,Qn,Qd]
 rfl
structure HPart (K:Nat→Prop) (H:List Ob) (x:Value) (p:List Nat):Prop where
 shape:∃ (a:Option Addr) (c:Nat),x=.slice a p.length c
 reads:∀ G:List Ob,(∀ i,K i→G[i]?=H[i]?)→elemsOf G 1 p.length x=some (u8s p)
 lt:∀ y∈p,y<256
 le:p.length≤2^47-128
theorem HPart.of {K:Nat→Prop} {H G:List Ob} {x:Value} {p:List Nat} (h:HPart K H x p) (hg:∀ i,K i→G[i]?=H[i]?):HPart K G x p :=
 ⟨h.shape,fun G' hG'=>h.reads G' fun i hi=>(hG' i hi).trans (hg i hi),h.lt,h.le⟩
inductive HParts (K:Nat→Prop) (H:List Ob):List Value→List (List Nat)→Prop
 | nil:HParts K H [] []
 | cons {x:Value} {p:List Nat} {xs:List Value} {ps:List (List Nat)}:HPart K H x p→HParts K H xs ps→HParts K H (x::xs) (p::ps)
theorem HParts.get {K:Nat→Prop} {H:List Ob}:∀ {xs:List Value} {ps:List (List Nat)},HParts K H xs ps→∀ {i:Nat} {x:Value},xs[i]?=some x→∃ p,ps[i]?=some p∧HPart K H x p
 | _,_,.nil,i,x,h=>by simp at h
 | _,_,.cons a b,0,x,h=>by simp at h; subst h; exact ⟨_,rfl,a⟩
 | _,_,.cons a b,i+1,x,h=>by
  obtain ⟨p,h1,h2⟩:=b.get (i:=i) (by simpa using h)
  exact ⟨p,by simpa using h1,h2⟩
theorem HParts.len {K:Nat→Prop} {H:List Ob}:∀ {xs:List Value} {ps:List (List Nat)},HParts K H xs ps→ps.length=xs.length
 | _,_,.nil=>rfl
 | _,_,.cons _ b=>by simp [b.len]
theorem HParts.lt {K:Nat→Prop} {H:List Ob}:∀ {xs:List Value} {ps:List (List Nat)},HParts K H xs ps→∀ y∈ps.flatten,y<256
 | _,_,.nil=>by simp
 | _,_,.cons a b=>by
  intro y hy
  rw [Xs] at hy
  rcases J8.1 hy with h | h
  ·exact a.lt y h
  ·exact b.lt y h
def PV (K:Nat→Prop) (H:List Ob) (pv:Value) (xs:List Value):Prop:=(pv=.slice none 0 0∧xs=[])∨∃ pid off cap o,pv=.slice (some ⟨pid,off,none⟩) xs.length cap∧K pid∧H[pid]?=some o∧o.live=true∧∀ i,i<xs.length→o.cells[off+i]?=xs[i]?
def wrI (hid:Nat) (pv:Value) (n:Nat) (i:Int) (H:List Ob) (L:List Nat) (ex:Env):St:=⟨[(0,.pointer (some ⟨hid,0,none⟩)),(6,pv),(7,.int .i64 n),(8,.int .i64 i)]++ex,H,L⟩
theorem Q7o {K:Nat→Prop} {H H0:List Ob} {hid b0 i:Nat} {pv:Value} {xs:List Value} {ps:List (List Nat)} {all L:List Nat} (hK:∀ i,K i→i<H.length) (hKh:¬ K hid) (hh:Hsh K H hid all) (xa:∀ y∈all,y<256) (hp:PV K H0 pv xs) (hP:HParts K H0 xs ps) (hF:∀ i,K i→H[i]?=H0[i]?) (hL:∀ i∈L,¬ K i) (hi:i<xs.length) (hn:xs.length<2^50) (hb:all.length+(ps.getD i []).length<2^50) :
  ∃ H' L',Jl T b0 Qht (wrI hid pv xs.length i H L [])=some (.normal,wrI hid pv xs.length ((i+1:Nat):Int) H' L' [])∧Hsh K H' hid (all++ps.getD i [])∧(∀ i,K i→H'[i]?=H[i]?)∧H.length≤H'.length∧∀ i∈L',¬ K i:=by
 obtain ⟨x,hx⟩:∃ x,xs[i]?=some x:=⟨_,Q3 hi⟩
 obtain ⟨p,hpi,hpp⟩:=hP.get hx
 have hgd:ps.getD i []=p:=by rw [Jz,hpi]; rfl
 rw [hgd] at hb ⊢
 obtain ⟨H',M,hf,f1,f2,f3,f4⟩:=Zap hK hKh hh xa hpp.lt hpp.shape (fun o=>hpp.reads _ (fun j hj=>by
  rw [Z4 (fun e=>hKh (by rw [e]; exact hj))]; exact hF j hj)) hb hpp.le
 rcases hp with ⟨-,h0⟩ | ⟨pid,off,cap,o,rfl,kp,ho,hlv,hc⟩
 ·rw [h0] at hi; exact absurd hi (J7 _)
 ·have ho':H[pid]?=some o:=(hF pid kp).trans ho
  have hcx:o.cells[off+i]?=some x:=(hc i hi).trans hx
  have e1:((i:Int)<(xs.length:Int))=True:=eq_true (by omega)
  have w3:IntKind.i64.wrap ((i:Int)+1)=((i+1:Nat):Int):=Yx (b:=1) (by omega)
  refine ⟨H',Jp b0 L M,?_,f1,f2,f3,fun j hj => ?_⟩
  ·simp only [fdF] at hf
   generalize i+1=i1 at *
   simp only [wrI,Qht,↓Zm,Zw,quiet,cF,↓pF,reduceCtorEq,Qb,Qq,Zj,Zd,Zg,Zc,Q8,Qf,Q0,Qe,Qz,Q6,Q5,↓Zo,↓Zl,↓Zq,↓Zt,↓Zr,↓Zs,cL,Qp,Qo,Qy,Qx,Qv,Ql,Qk,Qw,Qc,Q1,Q2,Qr,Qg,Qi,Qh,Qu,Qt,Qs,Qn,Qd,cJ,e1,ho',hlv,hcx,w3,hf]
  ·rcases Wq hj with h | h
   ·exact hL j h
   ·exact f4 j h
theorem Qrn {K:Nat→Prop} {H:List Ob} {hid:Nat} {pv:Value} {xs:List Value} {ps:List (List Nat)} {all:List Nat} (hK:∀ i,K i→i<H.length) (hKh:¬ K hid) (hh:Hsh K H hid all) (xa:∀ y∈all,y<256) (hp:PV K H pv xs) (hP:HParts K H xs ps) (hn:xs.length<2^50) (hb:(all++ps.flatten).length<2^50) :
  ∃ H' M,Yd T 149 [.pointer (some ⟨hid,0,none⟩),pv] H=some (.tuple #[],H',M)∧Hsh K H' hid (all++ps.flatten)∧(∀ i,K i→H'[i]?=H[i]?)∧H.length≤H'.length∧∀ i∈M,¬ K i:=by
 obtain ⟨st,hl,H',L',rfl,f1,f2,f3,f4⟩:=Vi (T:=T) (base:=H.length) (id:=0) (body:=Qht)
  (fun i st=>∃ H' L',st=wrI hid pv xs.length (i:Nat) H' L' []∧Hsh K H' hid (all++(ps.take i).flatten)∧(∀ i,K i→H'[i]?=H[i]?)∧H.length≤H'.length∧∀ i∈L',¬ K i)
  (Q:=fun st=>∃ H' L',st=wrI hid pv xs.length (xs.length:Nat) H' L' [(9,.bool false)]∧Hsh K H' hid (all++ps.flatten)∧(∀ i,K i→H'[i]?=H[i]?)∧H.length≤H'.length∧∀ i∈L',¬ K i)
  xs.length (s:=wrI hid pv xs.length 0 H [] []) ⟨H,[],rfl,by simpa using hh,fun _ _=>rfl,Zn _,by simp⟩
  (fun i st hi hs=>by
   obtain ⟨H1,L1,rfl,g1,g2,g3,g4⟩:=hs
   have hpl:=hP.len
   have hsp:ps.flatten=(ps.take i).flatten++((ps.getD i [])++(ps.drop (i+1)).flatten):=by
    obtain ⟨p,hpi⟩:∃ p,ps[i]?=some p:=⟨_,Q3 (by omega)⟩
    have hgd:ps.getD i []=p:=by rw [Jz,hpi]; rfl
    rw [hgd,←Xs,←Y9]
    congr 1
    have h1:=Q7.1 hpi
    conv=>lhs; rw [←Yn i ps,Ui h1.1,h1.2]
   have htk:(ps.take (i+1)).flatten=(ps.take i).flatten++ps.getD i []:=by
    obtain ⟨p,hpi⟩:∃ p,ps[i]?=some p:=⟨_,Q3 (by omega)⟩
    have hgd:ps.getD i []=p:=by rw [Jz,hpi]; rfl
    rw [hgd,Ym,hpi,Y9]; simp
   have hlt:=hP.lt
   obtain ⟨H2,L2,j1,j2,j3,j4,j5⟩:=Q7o (b0:=H.length) (fun j hj=>Xr (hK j hj) g3) hKh g1 (fun y hy=>by
    rcases J8.1 hy with h | h
    ·exact xa y h
    ·exact hlt y (by rw [hsp]; exact Qj3 _ h)) hp hP g2 g4 hi hn (by
     rw [hsp] at hb
     simp only [Zh] at hb ⊢
     omega)
   refine ⟨_,j1,H2,L2,rfl,by rw [htk,←Je]; exact j2,fun j hj=>(j3 j hj).trans (g2 j hj),Uz g3 j4,j5⟩)
  (fun st hs=>by
   obtain ⟨H1,L1,rfl,g1,g2,g3,g4⟩:=hs
   rw [Zk (by rw [hP.len]; exact Zn _)] at g1
   refine ⟨_,?_,H1,L1,rfl,g1,g2,g3,g4⟩
   have e1:((xs.length:Int)<(xs.length:Int))=False:=eq_false (by omega)
   simp only [wrI,Qht,Zw,quiet,cF,↓pF,reduceCtorEq,Qb,Qq,Zj,Zd,Zg,Zc,Q8,Qf,Q0,Qe,Qz,Q6,Q5,↓Zo,↓Zl,↓Zq,↓Zt,↓Zr,↓Zs,cL,Qp,Qo,Qy,Qx,Qv,Ql,Qk,Qw,Qc,Q1,Q2,Qr,Qg,Qi,Qh,Qu,Qt,Qs,Qn,Qd,cJ,e1])
 refine ⟨H',L',?_,f1,f2,f3,f4⟩
 simp only [wrI,Ze,Q9,J6] at hl
 have hlen:vLen false pv=some (.int .i64 xs.length):=by
  rcases hp with ⟨rfl,h0⟩ | ⟨pid,off,cap,o,rfl,-⟩
  ·rw [h0]; rfl
  ·rfl
 rw [Zz (fn:=Zft) rfl]
 simp only [Zft,↓Zm,Zw,quiet,cF,↓pF,reduceCtorEq,Qb,Qq,Zj,Zd,Zg,Zc,Q8,Qf,Q0,Qe,Qz,Q6,Q5,↓Zo,↓Zl,↓Zq,↓Zt,↓Zr,↓Zs,cL,Qp,Qo,Qy,Qx,Qv,Ql,Qk,Qw,Qc,Q1,Q2,Qr,Qg,Qi,Qh,Qu,Qt,Qs,Qn,Qd,cJ,hlen,hl]
 rfl
theorem Q4z:fillL (Value.slice none 0 0::Qa 9 (.int .u64 0)) [(2,8,.agg (ns .u64 Rf).toArray)]=some (hcl (.slice none 0 0) 0 Rf):=rfl
theorem Zdq (H:List Ob):Yd T 148 [] H=some (.pointer (some ⟨H.length,0,none⟩),H++[hob (.slice none 0 0) 0 Rf],[]):=by
 have hf:fillL (Qa 8 (Value.int .u64 0)) [(0,1,.int .u64 7640891576956012808),(1,1,.int .u64 13503953896175478587),(2,1,.int .u64 4354685564936845355),(3,1,.int .u64 11912009170470909681),(4,1,.int .u64 5840696475078001361),(5,1,.int .u64 11170449401992604703),(6,1,.int .u64 2270897969802886507),(7,1,.int .u64 6620516959819538809)]=some (ns .u64 Rf):=rfl
 have hf2:∀ a,fillL [Value.slice none 0 0,.int .u64 0,.int .u64 0,.int .u64 0,.int .u64 0,.int .u64 0,.int .u64 0,.int .u64 0,.int .u64 0,.int .u64 0] [(2,8,.agg (ns .u64 a).toArray)]=fillL (Value.slice none 0 0::Qa 9 (.int .u64 0)) [(2,8,.agg (ns .u64 a).toArray)]:=fun _=>rfl
 have hf3:=Q4z
 simp only [hob]
 generalize Rf=S at *
 generalize hcl (.slice none 0 0) 0 S=C at *
 rw [Zz (fn:=Zfu) rfl]
 simp only [Zfu,↓Zm,Zw,quiet,cF,↓pF,reduceCtorEq,Qb,Qq,Zj,Zd,Zg,Zc,Q8,Qf,Q0,Qe,Qz,Q6,Q5,↓Zo,↓Zl,↓Zq,↓Zt,↓Zr,↓Zs,cL,Qp,Qo,Qy,Qx,Qv,Ql,Qk,Qw,Qc,Q1,Q2,Qr,Qg,Qi,Qh,Qu,Qt,Qs,Qn,Qd,cJ,hf,hf2,hf3]
theorem Q9o {K:Nat→Prop} {H:List Ob} {hid:Nat} (h:H[hid]?=some (hob (.slice none 0 0) 0 Rf)):Hsh K H hid []:=⟨_,h,.nil⟩
def paI (hid:Nat) (s:Value) (Hc:List Ob) (ex:Env):St:=⟨[(0,.pointer (some ⟨hid,0,none⟩)),(1,.int .i64 128),(2,.int .i64 16),(7,s)]++ex,Hc,[]⟩
def pbI (hid:Nat) (s:Value) (i:Int) (Hc:List Ob) (ex:Env):St:=⟨[(0,.pointer (some ⟨hid,0,none⟩)),(7,s),(8,.int .i64 i)]++ex,Hc,[]⟩
theorem Qov (n i:Nat):((n/256^(i+1)*8%256)|||(n/256^i%256/32))=8*n/256^(i+1)%256:=by
 have h1:n/256^(i+1)=n/256^i/256:=by rw [Kv,Kb]
 have h2:8*n/256^(i+1)=n/256^i/32:=by
  rw [Kb,Kv,show 256^i*256=8*(256^i*32) by omega,Nat.mul_div_mul_left _ _ (by decide)]
 rw [h1,h2]
 generalize n/256^i=m
 have h3:m/256*8%256=(m/256%32)*2^3:=by omega
 rw [h3,M0 (by omega)]
 omega
theorem Qln (n:Nat):(n+(1+Da n)+16)%128=0:=by unfold Da; omega
theorem Qjh (n z:Nat) (h:z<Da n):(n+(1+z)+16)%128≠0:=by unfold Da at h; omega
theorem Qgp (n:Nat):Da n<128:=by unfold Da; omega
theorem Q84 {H:List Ob} {hid n:Nat} {rv:Value} {st:List Nat} (hh:H[hid]?=some (hob rv n st)) (hn:n<2^50) :
  ∃ s l,Jl T H.length (.block 0 (.loop Td)) (paI hid (.slice (some ⟨H.length,0,none⟩) 1 1) (H++[⟨[.int .u8 128],true,true,true,1⟩]) [])=some (.normal,paI hid s (H++l) [(23,.bool false)])∧Grown .u8 H.length (H++l) s (128::Qa (Da n) 0):=by
 have hlt:hid<H.length:=(Q7.1 hh).1
 have f0:fillL [Value.int .u8 0] [(0,1,.int .u8 0)]=some [.int .u8 0]:=rfl
 have c1:(hcl rv n st)[1]?=some (.int .u64 n):=rfl
 have hz:=Qgp n
 obtain ⟨x,hb,s,Hc,rfl,hg,hL,hF⟩:=Vi (T:=T) (base:=H.length) (id:=0) (body:=Td)
  (fun j x=>∃ s Hc,x=paI hid s Hc []∧Grown .u8 H.length Hc s (128::Qa j 0)∧H.length≤Hc.length∧∀ i,i<H.length→Hc[i]?=H[i]?)
  (Q:=fun x=>∃ s Hc,x=paI hid s Hc [(23,.bool false)]∧Grown .u8 H.length Hc s (128::Qa (Da n) 0)∧H.length≤Hc.length∧∀ i,i<H.length→Hc[i]?=H[i]?)
  (Da n) (s:=paI hid (.slice (some ⟨H.length,0,none⟩) 1 1) (H++[⟨[.int .u8 128],true,true,true,1⟩]) []) ⟨_,_,rfl,Grown.new (k := .u8) (id:=H.length) (bs:=[128]) (Zn _) (by decide) (by simp [Ob.fresh,ns]),by simp,fun i hi=>Qm hi⟩
  (fun j x hj hx=>by
   obtain ⟨s,Hc,rfl,hg,hL,hF⟩:=hx
   have hl:=hg.len
   have e1:(128::Qa j 0).length=1+j:=by simp; omega
   rw [e1] at hl
   obtain ⟨s',H',M,h1,h2,h3,h4,h5⟩:=M9 (x:=0) (bytes:=1) hg hL (by rw [e1]; omega) (by decide)
   have hm:Jp H.length [] M=[]:=Xu h3
   have hget:Hc[hid]?=some ⟨hcl rv n st,true,true,true,1⟩:=(hF hid hlt).trans hh
   have w1:IntKind.i64.wrap (n:Int)=(n:Int):=wn (by omega)
   have w2:IntKind.i64.wrap ((n:Int)+((1+j:Nat):Int))=((n+(1+j):Nat):Int):=Yx (by omega)
   have w3:IntKind.i64.wrap (((n+(1+j):Nat):Int)+16)=((n+(1+j)+16:Nat):Int):=Yx (b:=16) (by omega)
   have w4:((n+(1+j)+16:Nat):Int).tmod 128=(((n+(1+j)+16)%128:Nat):Int):=rfl
   have w5:((((n+(1+j)+16)%128:Nat):Int) != 0)=true:=bne_iff_ne.2 (by have:=Qjh n j hj; omega)
   refine ⟨paI hid s' H' [],?_,s',H',rfl,by rw [Mt,←Ze]; exact h2,h4,fun i hi=>by rw [h5 i hi,hF i hi]⟩
   simp only [J6] at h1
   generalize (n+(1+j)+16)%128=r at *
   generalize n+(1+j)+16=r2 at *
   generalize n+(1+j)=r3 at *
   simp only [paI,Td,↓Zm,Zw,quiet,cF,↓pF,reduceCtorEq,Qb,Qq,Zj,Zd,Zg,Zc,Q8,Qf,Q0,Qe,Qz,Q6,Q5,↓Zo,↓Zl,↓Zq,↓Zt,↓Zr,↓Zs,cL,Qp,Qo,Qy,Qx,Qv,Ql,Qk,Qw,Qc,Q1,Q2,Qr,Qg,Qi,Qh,Qu,Qt,Qs,Qn,Qd,cJ,hget,c1,hl,w1,w2,w3,w4,w5,f0,h1,hm])
  (fun x hx=>by
   obtain ⟨s,Hc,rfl,hg,hL,hF⟩:=hx
   have hl:=hg.len
   have e1:(128::Qa (Da n) 0).length=1+Da n:=by simp; omega
   rw [e1] at hl
   have hget:Hc[hid]?=some ⟨hcl rv n st,true,true,true,1⟩:=(hF hid hlt).trans hh
   have w1:IntKind.i64.wrap (n:Int)=(n:Int):=wn (by omega)
   have w2:IntKind.i64.wrap ((n:Int)+((1+Da n:Nat):Int))=((n+(1+Da n):Nat):Int):=Yx (by omega)
   have w3:IntKind.i64.wrap (((n+(1+Da n):Nat):Int)+16)=((n+(1+Da n)+16:Nat):Int):=Yx (b:=16) (by omega)
   have w4:((n+(1+Da n)+16:Nat):Int).tmod 128=0:=by
    have:((n+(1+Da n)+16:Nat):Int).tmod 128=(((n+(1+Da n)+16)%128:Nat):Int):=rfl
    rw [this,Qln]; rfl
   refine ⟨_,?_,s,Hc,rfl,hg,hL,hF⟩
   generalize n+(1+Da n)+16=r2 at *
   generalize n+(1+Da n)=r3 at *
   simp only [paI,Td,↓Zm,Zw,quiet,cF,↓pF,reduceCtorEq,Qb,Qq,Zj,Zd,Zg,Zc,Q8,Qf,Q0,Qe,Qz,Q6,Q5,↓Zo,↓Zl,↓Zq,↓Zt,↓Zr,↓Zs,cL,Qp,Qo,Qy,Qx,Qv,Ql,Qk,Qw,Qc,Q1,Q2,Qr,Qg,Qi,Qh,Qu,Qt,Qs,Qn,Qd,cJ,hget,c1,hl,w1,w2,w3,w4])
 obtain ⟨l,rfl⟩:=B5 hL hF
 exact ⟨s,l,hb,hg⟩
def Tx (n i:Nat):Nat:=8*n/256^(15-i)%256
theorem Q83 {H l0:List Ob} {hid n:Nat} {rv s0:Value} {st bs:List Nat} (hh:H[hid]?=some (hob rv n st)) (hn:n<2^50) (hg0:Grown .u8 H.length (H++l0) s0 bs) (hbs:bs.length≤200) :
  ∃ s l,Jl T H.length (.block 2 (.loop D6)) (pbI hid s0 15 (H++l0) [])=some (.normal,pbI hid s (-1) (H++l) [(30,.bool false)])∧Grown .u8 H.length (H++l) s (bs++(We 16).map (Tx n)):=by
 have hlt:hid<H.length:=(Q7.1 hh).1
 have c1:(hcl rv n st)[1]?=some (.int .u64 n):=rfl
 obtain ⟨x,hb,s,Hc,rfl,hg,hL,hF⟩:=Vi (T:=T) (base:=H.length) (id:=2) (body:=D6)
  (fun j x=>∃ s Hc,x=pbI hid s ((15:Int)-j) Hc []∧Grown .u8 H.length Hc s (bs++(We j).map (Tx n))∧H.length≤Hc.length∧∀ i,i<H.length→Hc[i]?=H[i]?)
  (Q:=fun x=>∃ s Hc,x=pbI hid s (-1) Hc [(30,.bool false)]∧Grown .u8 H.length Hc s (bs++(We 16).map (Tx n))∧H.length≤Hc.length∧∀ i,i<H.length→Hc[i]?=H[i]?)
  16 (s:=pbI hid s0 15 (H++l0) []) ⟨_,_,rfl,by simpa using hg0,by simp,fun i hi=>Qm hi⟩
  (fun j x hj hx=>by
   obtain ⟨s,Hc,rfl,hg,hL,hF⟩:=hx
   obtain ⟨i,hi⟩:∃ i,i=15-j:=⟨_,rfl⟩
   rw [show (15:Int)-j=(i:Int) by omega,show (15:Int)-((j+1:Nat):Int)=(i:Int)-1 by omega]
   have hl:=hg.len
   have hpd:Tx n j=8*n/256^i%256:=by rw [hi]; rfl
   obtain ⟨s',H',M,h1,h2,h3,h4,h5⟩:=M9 (x:=Tx n j) (bytes:=1) hg hL (by rw [Zh,Rn,List.length_range]; omega) (by decide)
   have hm:Jp H.length [] M=[]:=Xu h3
   have hget:Hc[hid]?=some ⟨hcl rv n st,true,true,true,1⟩:=(hF hid hlt).trans hh
   have fx:∀ a:Int,fillL [Value.int .u8 0] [(0,1,.int .u8 a)]=some [.int .u8 a]:=fun _=>rfl
   have w0:IntKind.i64.wrap ((i:Int)-1)=(i:Int)-1:=Kn (by omega) (by omega)
   have e0:((0:Int)≤(i:Int))=True:=eq_true (by omega)
   refine ⟨pbI hid s' ((i:Int)-1) H' [],?_,s',H',rfl,by rw [List.range_succ,Hq,←Je]; exact h2,h4,fun k hk=>by rw [h5 k hk,hF k hk]⟩
   rw [hpd] at h1
   by_cases h9:i<9
   ·have e9:((i:Int)<9)=True:=eq_true (by omega)
    have w1:IntKind.i64.wrap (8*(i:Int))=((8*i:Nat):Int):=Qc5 (a:=8) (by omega)
    have w2:(((8*i:Nat):Int)<0)=False:=eq_false (by omega)
    have w3:(n:Int).fdiv (2^min (8*i) IntKind.u64.bits)=((n/256^i:Nat):Int):=by
     rw [Qfe (by omega),show (256:Nat)=2^8 from rfl,←Y5]
    have hle:n/256^i≤n:=Uj _ _
    have w4:IntKind.u64.wrap (((n/256^i:Nat):Int)*2^min 3 IntKind.u64.bits)=((n/256^i*8:Nat):Int):=Qai (b:=8) (by omega)
    have w5:IntKind.u8.wrap ((n/256^i*8:Nat):Int)=((n/256^i*8%256:Nat):Int):=Qcf _
    by_cases hz:i=0
    ·subst hz
     have e8:n/256^0*8%256=8*n/256^0%256:=by rw [Yv,Ww,Ww]; omega
     rw [e8] at w5
     have ew:(8*0:Nat)=0:=rfl
     simp only [ew,J6] at w1 w2 w3
     generalize 8*n/256^0%256=d,n/256^0*8=v1 at *
     generalize n/256^0=v2 at *
     simp only [pbI,D6,↓Zm,Zw,quiet,cF,↓pF,reduceCtorEq,Qb,Qq,Zj,Zd,Zg,Zc,Q8,Qf,Q0,Qe,Qz,Q6,Q5,↓Zo,↓Zl,↓Zq,↓Zt,↓Zr,↓Zs,cL,Qp,Qo,Qy,Qx,Qv,Ql,Qk,Qw,Qc,Q1,Q2,Qr,Qg,Qi,Qh,Qu,Qt,Qs,Qn,Qd,cJ,hget,c1,w0,e0,e9,w1,w2,w3,w4,w5,fx,h1,hm]
    ·obtain ⟨k,rfl⟩:∃ k,i=k+1:=⟨i-1,by omega⟩
     have hd:=Qov n k
     have ep:((0:Int)<((k+1:Nat):Int))=True:=eq_true (by omega)
     have v1:IntKind.i64.wrap (((8*(k+1):Nat):Int)-8)=((8*k:Nat):Int):=by rw [Kn (by omega) (by omega)]; omega
     have v2:(((8*k:Nat):Int)<0)=False:=eq_false (by omega)
     have v3:(n:Int).fdiv (2^min (8*k) IntKind.u64.bits)=((n/256^k:Nat):Int):=by
      rw [Qfe (by omega),show (256:Nat)=2^8 from rfl,←Y5]
     have v4:Vx .and .u64 ((n/256^k:Nat):Int) 255=((n/256^k%256:Nat):Int):=Qa7 .u64 rfl 8 _ (by decide)
     have v5:((n/256^k%256:Nat):Int).fdiv (2^min 5 IntKind.u64.bits)=((n/256^k%256/32:Nat):Int):=Qfe (r:=5) (by decide)
     have v6:IntKind.u8.wrap ((n/256^k%256/32:Nat):Int)=((n/256^k%256/32:Nat):Int):=by rw [Qcf,Z5 (by omega)]
     have v7:Vx .or .u8 ((n/256^(k+1)*8%256:Nat):Int) ((n/256^k%256/32:Nat):Int)=((8*n/256^(k+1)%256:Nat):Int):=by
      rw [Hg rfl (show _<2^8 from Jo _ (by decide)) (show n/256^k%256/32<2^8 by omega),hd]
     generalize 8*n/256^(k+1)%256=d,n/256^(k+1)*8%256=u1 at *
     generalize n/256^(k+1)*8=u2 at *
     generalize n/256^(k+1)=u3,n/256^k%256/32=u4 at *
     generalize n/256^k%256=u5 at *
     generalize n/256^k=u6,8*(k+1)=u7 at *
     generalize 8*k=u8' at *
     generalize k+1=k1 at *
     simp only [pbI,D6,↓Zm,Zw,quiet,cF,↓pF,reduceCtorEq,Qb,Qq,Zj,Zd,Zg,Zc,Q8,Qf,Q0,Qe,Qz,Q6,Q5,↓Zo,↓Zl,↓Zq,↓Zt,↓Zr,↓Zs,cL,Qp,Qo,Qy,Qx,Qv,Ql,Qk,Qw,Qc,Q1,Q2,Qr,Qg,Qi,Qh,Qu,Qt,Qs,Qn,Qd,cJ,hget,c1,w0,e0,e9,ep,w1,w2,w3,w4,w5,v1,v2,v3,v4,v5,v6,v7,fx,h1,hm]
   ·have e9:((i:Int)<9)=False:=eq_false (by omega)
    have ep:((0:Int)<(i:Int))=True:=eq_true (by omega)
    have hz:8*n/256^i%256=0:=by
     have:(256:Nat)^9≤256^i:=Vr (by decide) (by omega)
     rw [Uk (Xr (by omega) this)]
    rw [hz] at h1
    simp only [J6] at h1
    simp only [pbI,D6,↓Zm,Zw,quiet,cF,↓pF,reduceCtorEq,Qb,Qq,Zj,Zd,Zg,Zc,Q8,Qf,Q0,Qe,Qz,Q6,Q5,↓Zo,↓Zl,↓Zq,↓Zt,↓Zr,↓Zs,cL,Qp,Qo,Qy,Qx,Qv,Ql,Qk,Qw,Qc,Q1,Q2,Qr,Qg,Qi,Qh,Qu,Qt,Qs,Qn,Qd,cJ,hget,c1,w0,e0,e9,ep,fx,h1,hm])
  (fun x hx=>by
   obtain ⟨s,Hc,rfl,hg,hL,hF⟩:=hx
   have e:((0:Int) ≤ -1)=False:=by decide
   refine ⟨_,?_,s,Hc,rfl,hg,hL,hF⟩
   rw [show (15:Int)-((16:Nat):Int) = -1 by omega]
   simp only [pbI,D6,Zw,quiet,cF,↓pF,reduceCtorEq,Qb,Qq,Zj,Zd,Zg,Zc,Q8,Qf,Q0,Qe,Qz,Q6,Q5,↓Zo,↓Zl,↓Zq,↓Zt,↓Zr,↓Zs,cL,Qp,Qo,Qy,Qx,Qv,Ql,Qk,Qw,Qc,Q1,Q2,Qr,Qg,Qi,Qh,Qu,Qt,Qs,Qn,Qd,e])
 obtain ⟨l,rfl⟩:=B5 hL hF
 exact ⟨s,l,hb,hg⟩
theorem Qx3 (n:Nat):Qa6 n=(128::Qa (Da n) 0)++(We 16).map (Tx n):=by unfold Qa6 Tx; rw [Ze]
theorem Qvx {H:List Ob} {hid n:Nat} {rv:Value} {st:List Nat} (hh:H[hid]?=some (hob rv n st)) (hn:n<2^50) :
  ∃ s l,Yd T 139 [.pointer (some ⟨hid,0,none⟩),.int .i64 128,.int .i64 16] H=some (s,H++l,[])∧Grown .u8 H.length (H++l) s (Qa6 n):=by
 obtain ⟨s1,l1,h1,g1⟩:=Q84 hh hn
 have hz:=Qgp n
 obtain ⟨s2,l2,h2,g2⟩:=Q83 hh hn g1 (by simp; omega)
 rw [←Qx3] at g2
 refine ⟨s2,l2,?_,g2⟩
 have f128:fillL [Value.int .u8 0] [(0,1,.int .u8 128)]=some [.int .u8 128]:=rfl
 have w1:IntKind.i64.wrap 15=15:=by decide
 simp only [paI,Ze,Q9] at h1
 simp only [pbI,Ze,Q9] at h2
 rw [Zz (fn:=Q7f) rfl]
 simp only [Q7f,↓Zm,Zw,quiet,cF,↓pF,reduceCtorEq,Qb,Qq,Zj,Zd,Zg,Zc,Q8,Qf,Q0,Qe,Qz,Q6,Q5,↓Zo,↓Zl,↓Zq,↓Zt,↓Zr,↓Zs,cL,Qp,Qo,Qy,Qx,Qv,Ql,Qk,Qw,Qc,Q1,Q2,Qr,Qg,Qi,Qh,Qu,Qt,Qs,Qn,Qd,cJ,f128,h1,w1,h2]
theorem Rst.elems {K:Nat→Prop} {H:List Ob} {v:Value} {l:List Nat} (h:Rst K H v l):elemsOf H 1 l.length v=some (u8s l):=by
 cases h with
 | nil=>rfl
 | empty _ h2=>simp [elemsOf,V9 h2 rfl,u8s]
 | own h1 h2 h4 h3=>simp [elemsOf,V9 h2 rfl,Zv,h4,Qku h3]
theorem Qpv {K:Nat→Prop} {G:List Ob} {e:Nat} {x:Value} {p:List Nat} (he:G[e]?=some ⟨[],true,true,true,1⟩) (hKe:¬ K e) (hKg:¬ K G.length) (hl:Go.Ev.lenV x=some p.length) (hel:elemsOf G 1 p.length x=some (u8s p)) (hb:p.length≤2^47) :
  ∃ v' l,Wk 1 1 G (.slice (some ⟨e,0,none⟩) 0 0) x=some (v',G++l,none,[])∧Rst K (G++l) v' p∧Yj v'=true∧v'.cells.toList=[v']∧v'.cells.size=1:=by
 have h4:liveAt G e=some ⟨[],true,true,true,1⟩:=V9 he rfl
 rcases Wl p.length with hn | hn
 ·have:p=[]:=Ws hn
  subst this
  refine ⟨.slice (some ⟨e,0,none⟩) 0 0,[],?_,by rw [Xd]; exact .empty hKe he,rfl,rfl,rfl⟩
  rw [Jg] at hl hel
  simp only [Wk,hl,hel,Zb,if_true,Xd]
 ·have h1:¬ p.length=0:=by omega
  have h2:p.length*1≤2^47:=by omega
  have h7:¬ (p.length≤0):=by omega
  have h8:elemsOf G 1 0 (.slice (some ⟨e,0,none⟩) 0 0)=some []:=by simp [elemsOf,h4]
  refine ⟨.slice (some ⟨G.length,0,none⟩) p.length p.length,[Ob.grown 1 (u8s p)],?_,.own (all:=p) hKg (by simp [Ob.grown]) (by omega) (fun i _=>by rw [Z3]),rfl,rfl,rfl⟩
  simp only [Wk,hl,hel,Zb,if_neg h1,Z3,h2,Q1u,Qb2,and_self,not_true_eq_false,if_false,if_true,h4,h8,if_neg h7,Q9]
theorem Rst.len {K:Nat→Prop} {H:List Ob} {v:Value} {l:List Nat} (h:Rst K H v l):Go.Ev.lenV v=some l.length:=by
 obtain ⟨a,c,rfl⟩:=h.shape; rfl
theorem Mx (b:List Nat):(sha b).length=64:=by simp [sha]
theorem Qfp (b:List Nat):∀ x∈sha b,x<256:=by
 intro x hx
 simp only [sha,Bd] at hx
 obtain ⟨i,-,rfl⟩:=hx
 exact Jo _ (by decide)
def suI (r x o:Nat) (G:List Ob) (b:List Nat) (i:Int) (ex:Env):St:=⟨[(2,.pointer (some ⟨r,0,none⟩)),(3,.pointer (some ⟨x,0,none⟩)),(4,.pointer (some ⟨G.length,0,none⟩)),(32,.int .i64 i)]++ex,G++[⟨u8s b,true,true,true,1⟩],[]⟩
theorem Q2t {r x base n:Nat} {G:List Ob} {rv:Value} {st R:List Nat} (hx:G[x]?=some (hob rv n st)) (hs:st.length=8) (hR:R.length=64) (hRi:∀ i,i<64→R[i]?=some (st.getD (i/8) 0/256^(7-i%8)%256)) (hxs:∀ y∈st,y<18446744073709551616) (hb:base≤G.length) :
  Jl T base (.block 0 (.loop Qhs)) (suI r x 0 G (Qa 64 0) 0 [])=some (.normal,suI r x 0 G R 64 [(33,.bool false)]):=by
 have h:=Wf (T:=T) (base:=base) (id:=0) (body:=Qhs) (fun i=>suI r x 0 G (pf 64 R i) i []) (s':=suI r x 0 G R 64 [(33,.bool false)]) 64
  (fun i hi=>by
   obtain ⟨w,hw⟩:∃ w,st[i/8]?=some w:=⟨_,Q3 (by omega)⟩
   have hw':=hxs w (Zp hw)
   have hv:=hRi i hi
   rw [U6 hw] at hv
   have hstep:=Gu hR hi hv
   have hlen:=Df hR (W3 hi)
   have hset:=Ba (pf 64 R i) i (w/256^(7-i%8)%256)
   rw [hstep] at hset
   have gc:=Qym (rv:=rv) (n:=n) hw
   have hget:∀ l:List Ob,(G++l)[x]?=some ⟨hcl rv n st,true,true,true,1⟩:=fun l=>by rw [Qm (Q7.1 hx).1]; exact hx
   have e1:((i:Int)<64)=True:=eq_true (by omega)
   have w3:IntKind.i64.wrap ((i:Int)+1)=((i+1:Nat):Int):=Yx (b:=1) (by omega)
   have w4:IntKind.i64.wrap ((i:Int).tdiv 8)=((i/8:Nat):Int):=wn (n:=i/8) (by omega)
   have e2:(((i/8:Nat):Int)<8)=True:=eq_true (by omega)
   have w5:(i:Int).tmod 8=((i%8:Nat):Int):=rfl
   have w6:IntKind.i64.wrap (8*((i%8:Nat):Int))=((8*(i%8):Nat):Int):=Qc5 (a:=8) (by omega)
   have w7:IntKind.i64.wrap (56-((8*(i%8):Nat):Int))=((8*(7-i%8):Nat):Int):=by rw [Kn (by omega) (by omega)]; omega
   have e3:(((8*(7-i%8):Nat):Int)<0)=False:=eq_false (by omega)
   have w8:(w:Int).fdiv (2^min (8*(7-i%8)) IntKind.u64.bits)=((w/256^(7-i%8):Nat):Int):=by
    rw [Qfe (by omega),show (256:Nat)=2^8 from rfl,←Y5]
   have w9:IntKind.u8.wrap ((w/256^(7-i%8):Nat):Int)=((w/256^(7-i%8)%256:Nat):Int):=Qcf _
   have e4:(i≤63)=True:=eq_true (by omega)
   have m1:Jp base [] [G.length]=[]:=Xu (by simpa using hb)
   clear hstep hv hw
   generalize pf 64 R i=o1,pf 64 R (i+1)=o2,w/256^(7-i%8)%256=d at *
   generalize w/256^(7-i%8)=d2,8*(7-i%8)=d3,8*(i%8)=d4 at *
   generalize i%8=d5,i/8=d6,i+1=i1 at *
   simp only [suI,Qhs,↓Zm,Zw,quiet,cF,↓pF,reduceCtorEq,Qb,Qq,Zj,Zd,Zg,Zc,Q8,Qf,Q0,Qe,Qz,Q6,Q5,↓Zo,↓Zl,↓Zq,↓Zt,↓Zr,↓Zs,cL,Qp,Qo,Qy,Qx,Qv,Ql,Qk,Qw,Qc,Q1,Q2,Qr,Qg,Qi,Qh,Qu,Qt,Qs,Qn,Qd,cJ,e1,e2,e3,e4,w3,w4,w5,w6,w7,w8,w9,hget,gc,hset,Zv,hlen,m1])
  (by
   rw [Dk hR]
   simp only [suI,Qhs,Zw,quiet,cF,↓pF,reduceCtorEq,Qb,Qq,Zj,Zd,Zg,Zc,Q8,Qf,Q0,Qe,Qz,Q6,Q5,↓Zy,↓Zx,↓Z7,↓Jb,↓Z9,↓Ja,cL,Qp,Qo,Qy,Qx,Qv,Ql,Qk,Qw,Qc,Q1,Q2,Qr,Qg,Qi,Qh,Qu,Qt,Qs,Qn,Qd,cJ])
 rw [Dj] at h
 exact h
theorem Grown.part {K:Nat→Prop} {B:Nat} {H:List Ob} {s:Value} {p:List Nat} (h:Grown .u8 B H s p) (hK:∀ i,B≤i→i<H.length→K i) (xp:∀ y∈p,y<256) (hl:p.length≤2^47-128) (h0:0<p.length):HPart K H s p:=by
 refine ⟨?_,fun G hG => ?_,xp,hl⟩
 ·cases h with
  | nil=>exact absurd h0 (by decide)
  | own _ _ _=>exact ⟨_,_,rfl⟩
  | new _ _ _=>exact ⟨_,_,rfl⟩
 ·cases h with
  | nil=>exact absurd h0 (by decide)
  | @own id _ h1 h2 h3 =>
   have:=hG id (hK id h1 (Q7.1 h3).1)
   rw [h3] at this
   simp [elemsOf,V9 this rfl,Ob.grown,J0]
   exact Zk (by rw [J0]; exact Zn _)
  | @new id _ h1 h2 h3 =>
   have:=hG id (hK id h1 (Q7.1 h3).1)
   rw [h3] at this
   simp [elemsOf,V9 this rfl,Ob.fresh,J0]
   exact Zk (by rw [J0]; exact Zn _)
theorem Qx2 (n:Nat):∀ y∈Qa6 n,y<256:=by
 intro y hy
 simp only [Qa6,Wh,J8,Rz,Bd] at hy
 rcases hy with rfl | ⟨-,rfl⟩ | ⟨i,-,rfl⟩
 ·decide
 ·decide
 ·exact Jo _ (by decide)
theorem Qgq (n:Nat):(Qa6 n).length=17+Da n:=by simp [Qa6]; omega
theorem Rst.toK {K K':Nat→Prop} {H:List Ob} {v:Value} {l:List Nat} (h:Rst K H v l) (hk:∀ i,¬ K i→¬ K' i):Rst K' H v l:=by
 cases h with
 | nil=>exact .nil
 | empty h1 h2=>exact .empty (hk _ h1) h2
 | own h1 h2 h4 h3=>exact .own (hk _ h1) h2 h4 h3
theorem Dd:Qa 64 (Value.int .u8 0)=u8s (Qa 64 0):=rfl
theorem Q1i (va:Option Addr) (rl vc m:Nat) {st:List Nat} (h:st.length=8):fillL [Value.slice none 0 0,.int .u64 0,.int .u64 0,.int .u64 0,.int .u64 0,.int .u64 0,.int .u64 0,.int .u64 0,.int .u64 0,.int .u64 0] [(0,2,.agg [.slice va rl vc,.int .u64 m].toArray),(2,8,eV st)]=some (hcl (.slice va rl vc) m st):=by
 obtain ⟨a,b,c,d,e,f,g,i,rfl⟩:=eight h
 rfl
theorem Zcy {K:Nat→Prop} {H:List Ob} {hid:Nat} {all:List Nat} (hh:Hsh K H hid all) (xa:∀ y∈all,y<256) (hn:all.length<2^49) :
  ∃ H',Yd T 150 [.pointer (some ⟨hid,0,none⟩)] H=some (.agg (u8s (sha all)).toArray,H',[])∧(∀ i,i<H.length→H'[i]?=H[i]?)∧H.length≤H'.length:=by
 obtain ⟨rv,h1,h2⟩:=hh
 have hlt:hid<H.length:=(Q7.1 h1).1
 obtain ⟨st,hst⟩:∃ s,s=stK (all.length/128) all:=⟨_,rfl⟩
 have ls:st.length=8:=by rw [hst]; exact Qed _ _
 rw [←hst] at h1
 obtain ⟨G,hG⟩:∃ G,G=H++[⟨u8s (Qa 64 0),true,true,true,1⟩,⟨[],true,true,true,1⟩]:=⟨_,rfl⟩
 have hGl:G.length=H.length+2:=by rw [hG]; simp
 have hrG:Rst K G rv (all.drop (128*(all.length/128))):=by rw [hG]; exact h2.app
 have heG:G[H.length+1]?=some ⟨[],true,true,true,1⟩:=by rw [hG,Za (by omega),Jh]; rfl
 have hzG:G[H.length]?=some ⟨u8s (Qa 64 0),true,true,true,1⟩:=by rw [hG,Za (by omega),Jw]; rfl
 have hhG:G[hid]?=some (hob rv all.length st):=by rw [hG,Qm hlt]; exact h1
 obtain ⟨v',l,ha,hr',hok,hc1,hc2⟩:=Qpv (K:=fun i=>i≠H.length+1∧i≠G.length) heG (by simp) (by simp) hrG.len hrG.elems (by rw [X5]; omega)
 obtain ⟨G2,hG2⟩:∃ X,X=G++l++[hob v' all.length st]:=⟨_,rfl⟩
 have hG2l:G2.length=G.length+l.length+1:=by rw [hG2]; simp; omega
 obtain ⟨xid,hxid⟩:∃ x,x=(G++l).length:=⟨_,rfl⟩
 have hxl:xid=G.length+l.length:=by rw [hxid]; simp
 have hx2:G2[xid]?=some (hob v' all.length st):=by rw [hG2,hxid,Za (Zn _),Jw]; rfl
 have hh2:G2[hid]?=some (hob rv all.length st):=by
  have:hid<G.length:=by omega
  rw [hG2,Je,Qm this]; exact hhG
 obtain ⟨s,l3,hp,hgr⟩:=Qvx hh2 (by omega)
 obtain ⟨G4,hG4⟩:∃ X,X=G2++l3++[⟨[s],true,true,true,1⟩]:=⟨_,rfl⟩
 have hG4l:G4.length=G2.length+l3.length+1:=by rw [hG4]; simp; omega
 have hgr4:Grown .u8 G2.length G4 s (Qa6 all.length):=by rw [hG4]; exact hgr.app
 obtain ⟨K2,hK2⟩:∃ K2:Nat→Prop,K2=fun i=>i<G4.length∧i≠xid∧i≠H.length+1∧i≠G.length:=⟨_,rfl⟩
 have hx4:G4[xid]?=some (hob v' all.length st):=by rw [hG4,Je,Qm (by omega)]; exact hx2
 have hsh4:Hsh K2 G4 xid all:=by
  refine ⟨v',by rw [←hst]; exact hx4,?_⟩
  have:=(hr'.app (m:=[hob v' all.length st])).app (m:=l3++[⟨[s],true,true,true,1⟩])
  rw [←hG2,←Je,←hG4] at this
  exact this.toK fun i hi hk=>by
   rw [hK2] at hk
   exact hi ⟨hk.2.2.1,hk.2.2.2⟩
 have hpz:=Qgp all.length
 have hpart:HPart K2 G4 s (Qa6 all.length):=Grown.part hgr4 (fun i h1 h2=>by rw [hK2]; exact ⟨h2,by omega,by omega,by omega⟩) (Qx2 _) (by rw [Qgq]; omega) (by rw [Qgq]; omega)
 have harr:(G2++l3).length<G4.length:=by rw [hG4]; simp
 have hpv:PV K2 G4 (.slice (some ⟨(G2++l3).length,0,none⟩) 1 1) [s] := .inr ⟨_,0,1,_,rfl,by rw [hK2]; exact ⟨harr,by simp; omega,by simp; omega,by simp; omega⟩,by rw [hG4,Za (Zn _),Jw]; rfl,rfl,fun i _=>by rw [Z3]⟩
 have hKx:¬ K2 xid:=by rw [hK2]; intro h; exact h.2.1 rfl
 obtain ⟨G5,M5,hw,hsh5,hf5,hl5,hM5⟩:=Qrn (fun i hi=>by rw [hK2] at hi; exact hi.1) hKx hsh4 xa hpv (.cons hpart .nil) (by show 1<2^50; decide) (by simp [Qgq]; omega)
 rw [Xs,Y4,Xd] at hsh5
 obtain ⟨rv5,hx5,-⟩:=hsh5
 obtain ⟨st5,hst5⟩:∃ s,s=stK ((all++Qa6 all.length).length/128) (all++Qa6 all.length):=⟨_,rfl⟩
 rw [←hst5] at hx5
 have ls5:st5.length=8:=by rw [hst5]; exact Qed _ _
 have xs5:∀ y∈st5,y<18446744073709551616:=by rw [hst5]; exact Qp8 _ _
 have hb5:H.length≤G5.length:=by omega
 have hsu:=Q2t (r:=H.length) (base:=H.length) hx5 ls5 (Mx all) (fun i hi=>by simp [sha,hi,hst5]) xs5 hb5
 have hz5:G5[H.length]?=some ⟨u8s (Qa 64 0),true,true,true,1⟩:=by
  rw [hf5 _ (by rw [hK2]; exact ⟨by omega,by omega,by omega,by omega⟩),hG4,Je,Qm (by omega),hG2,Je,Qm (by omega)]
  exact hzG
 have hfr:∀ i,i<H.length→G5[i]?=H[i]? := fun i hi=>by
  rw [hf5 _ (by rw [hK2]; exact ⟨by omega,by omega,by omega,by omega⟩),hG4,Je,Qm (by omega),hG2,Je,Qm (by omega),hG,Qm hi]
 have hm5:Jp H.length [] M5=[]:=Xu fun i hi=>by
  have:=hM5 i hi
  rw [hK2] at this
  rcases Yp i H.length with h | h
  ·exact absurd (show i<G4.length∧i≠xid∧i≠H.length+1∧i≠G.length from ⟨by omega,by omega,by omega,by omega⟩) this
  ·exact h
 refine ⟨(G5++[(⟨u8s (sha all),true,true,true,1⟩:Ob)]).set H.length (⟨u8s (sha all),true,true,true,1⟩:Ob),?_,fun i hi=>by rw [Z4 (by omega),Qm (by omega)]; exact hfr i hi,by rw [Jk,Zh]; omega⟩
 have hz:=Dd
 have lz:(Qa 64 0).length=64:=Q4
 have lsh:=Mx all
 have cst:=Qpf (rv:=rv) (n:=all.length) ls
 have c0:(hcl rv all.length st)[0]?=some rv:=rfl
 have c1:(hcl rv all.length st)[1]?=some (.int .u64 all.length):=rfl
 have hcl8:2+8≤(hcl rv all.length st).length:=by rw [Qep]; omega
 obtain ⟨va,vc,rfl⟩:=hr'.shape
 generalize (all.drop (128*(all.length/128))).length=rl at *
 have fl1:fillL [Value.slice none 0 0,.int .u64 0] [(0,1,.slice va rl vc),(1,1,.int .u64 all.length)]=some [.slice va rl vc,.int .u64 all.length]:=rfl
 have fl2:=Q1i va rl vc all.length ls
 have fls:fillL [Value.slice none 0 0] [(0,1,s)]=some [s]:=by
  obtain ⟨sa,sc,hsh⟩:=hpart.shape
  rw [hsh]; rfl
 have f0:fillL [] []=some []:=rfl
 have F1:H++[⟨u8s (Qa 64 0),true,true,true,1⟩,⟨[],true,true,true,1⟩]=G:=hG.symm
 have Fx:G.length+l.length=xid:=hxl.symm
 have F2:G++(l++[⟨hcl (.slice va rl vc) all.length st,true,true,true,1⟩])=G2:=by rw [hG2,Je]; rfl
 have F4:G2++(l3++[⟨[s],true,true,true,1⟩])=G4:=by rw [hG4,Je]
 have g1:G[hid]?=some ⟨hcl rv all.length st,true,true,true,1⟩:=hhG
 have g2:(G++l)[hid]?=some ⟨hcl rv all.length st,true,true,true,1⟩:=by rw [Qm (by omega)]; exact hhG
 have g5:∀ o:Ob,(G5++[o])[H.length]?=some ⟨u8s (Qa 64 0),true,true,true,1⟩:=fun o=>by rw [Qm (by omega)]; exact hz5
 have g6:∀ o o':Ob,((G5++[o]).set H.length o')[H.length]?=some o':=fun o o'=>Jj (by rw [Zh]; omega)
 have okcl:(hcl (.slice va rl vc) all.length st).all Yj=true:=by
  show (Yj (.slice va rl vc)&&(Yj (.int .u64 all.length)&&(ns .u64 st).all Yj))=true
  have:(ns .u64 st).all Yj=true:=by
   rw [Wb]; intro y hy
   simp only [ns,Bd] at hy
   obtain ⟨m,-,rfl⟩:=hy; rfl
  rw [this]; rfl
 rw [Zh] at hw
 simp only [suI,Ze,Q9,J6] at hsu
 have hge:H.length≤H.length+1:=by omega
 generalize hcl rv all.length st=C1,hcl (.slice va rl vc) all.length st=C2,sha all=R,Qa 64 0=Z64 at *
 rw [Zz (fn:=Zfs) rfl]
 simp only [Zfs,↓Zm,Zw,quiet,cF,↓pF,reduceCtorEq,Qb,Qq,Zj,Zd,Zg,Zc,Q8,Qf,Q0,Qe,Qz,Q6,Q5,↓Zo,↓Zl,↓Zq,↓Zt,↓Zr,↓Zs,cL,Qp,Qo,Qy,Qx,Qv,Ql,Qk,Qw,Qc,Q1,Q2,Qr,Qg,Qi,Qh,Qu,Qt,Qs,Qn,Qd,cJ,hz,f0,F1,g1,g2,c0,c1,ha,fl1,cst,hcl8,Jf,Jt,Ku,Ju,fl2,Fx,F2,hp,fls,F4,hw,hm5,hsu,g5,g6,Zv,lz,lsh,Ji,Q4]
theorem Qze {H:List Ob} {pv:Value} {xs:List Value} {ps:List (List Nat)} (hp:PV (fun i=>i<H.length) H pv xs) (hP:HParts (fun i=>i<H.length) H xs ps) (hn:xs.length<2^50) (hb:ps.flatten.length<2^49) :
  ∃ l,Yd T 100 [pv] H=some (.agg (u8s (sha ps.flatten)).toArray,H++l,[]):=by
 obtain ⟨H1,hH1⟩:∃ X,X=H++[⟨u8s (Qa 64 0),true,true,true,1⟩,hob (.slice none 0 0) 0 Rf]:=⟨_,rfl⟩
 have hl1:H1.length=H.length+2:=by rw [hH1]; simp
 have hg1:H1[H.length+1]?=some (hob (.slice none 0 0) 0 Rf):=by rw [hH1,Za (by omega),Jh]; rfl
 have hz1:H1[H.length]?=some ⟨u8s (Qa 64 0),true,true,true,1⟩:=by rw [hH1,Za (by omega),Jw]; rfl
 have hf1:∀ i,i<H.length→H1[i]?=H[i]? := fun i hi=>by rw [hH1,Qm hi]
 have hp1:PV (fun i=>i<H.length+1) H1 pv xs:=by
  rcases hp with h | ⟨pid,off,cap,o,h1,h2,h3,h4,h5⟩
  ·exact .inl h
  ·exact .inr ⟨pid,off,cap,o,h1,Mj h2,(hf1 _ h2).trans h3,h4,h5⟩
 have hP1:HParts (fun i=>i<H.length+1) H1 xs ps:=by
  clear hn hb hp hp1
  induction hP with
  | nil=>exact .nil
  | cons a _ ih=>exact .cons ⟨a.shape,fun G hG=>a.reads G fun i hi=>(hG i (Mj hi)).trans (hf1 i hi),a.lt,a.le⟩ ih
 obtain ⟨H2,M2,hw,s2,f2,l2,m2⟩:=Qrn (K:=fun i=>i<H.length+1) (hid:=H.length+1) (fun i hi=>by have:i<H.length+1:=hi; omega) (Xt _) (Q9o hg1) (by simp) hp1 hP1 hn (by rw [Q9]; omega)
 rw [Q9] at s2
 obtain ⟨H3,hs3,f3,l3⟩:=Zcy s2 hP.lt hb
 have hm2:Jp H.length [] M2=[]:=Xu fun i hi=>by
  have:¬ i<H.length+1:=m2 i hi
  omega
 have g3:H3[H.length]?=some ⟨u8s (Qa 64 0),true,true,true,1⟩:=by
  rw [f3 _ (by omega),f2 _ (Qut _)]; exact hz1
 have hfr:∀ i,i<H.length→(H3.set H.length (⟨u8s (sha ps.flatten),true,true,true,1⟩:Ob))[i]?=H[i]? := fun i hi=>by
  rw [Z4 (by omega),f3 _ (by omega),f2 _ (Mj hi)]; exact hf1 i hi
 have hle:H.length≤(H3.set H.length (⟨u8s (sha ps.flatten),true,true,true,1⟩:Ob)).length:=by rw [Jk]; omega
 obtain ⟨l,hl⟩:=B5 hle hfr
 refine ⟨l,?_⟩
 rw [←hl]
 have hz:=Dd
 have lz:(Qa 64 0).length=64:=Q4
 have lsh:=Mx ps.flatten
 have hnew:=Zdq (H++[⟨u8s (Qa 64 0),true,true,true,1⟩])
 have e1:(H++[(⟨u8s (Qa 64 0),true,true,true,1⟩:Ob)]).length=H.length+1:=by simp
 rw [e1,Je,Ze,Q9,←hH1] at hnew
 have g4:∀ o:Ob,(H3.set H.length o)[H.length]?=some o:=fun o=>Jj (by omega)
 generalize sha ps.flatten=R,Qa 64 0=Z64 at *
 rw [Zz (fn:=Zfv) rfl]
 simp only [Zfv,↓Zm,Zw,quiet,cF,↓pF,reduceCtorEq,Qb,Qq,Zj,Zd,Zg,Zc,Q8,Qf,Q0,Qe,Qz,Q6,Q5,↓Zo,↓Zl,↓Zq,↓Zt,↓Zr,↓Zs,cL,Qp,Qo,Qy,Qx,Qv,Ql,Qk,Qw,Qc,Q1,Q2,Qr,Qg,Qi,Qh,Qu,Qt,Qs,Qn,Qd,cJ,hz,hnew,hw,hm2,hs3,g3,g4,Jf,Jt,Ku,Ju,Zv,lz,lsh,Ji,Q4]
end Go.Ev.YtpgphpkjlpkcbaaGreat
namespace Go.Ev.YtpgphpkjlpkcbaaGreat
open Go Go.Ev
attribute [local congr] W5 Up W4 Uq Wo
set_option maxRecDepth 100000
theorem Qvy (p:Go.Cv.Pt Go.Fp.P Go.Fp.d):W6 p Bt=p:=Go.Cv.add_zero Go.Fp.fld p
theorem Qgo (p:Go.Cv.Pt Go.Fp.P Go.Fp.d):W6 p p.neg=Bt:=Go.Cv.add_neg Go.Fp.fld p
theorem Qsm (a b:Nat) (p:Go.Cv.Pt Go.Fp.P Go.Fp.d):Ys (a+b) p=W6 (Ys a p) (Ys b p):=Go.Cv.mul_add Go.Fp.fld a b p
theorem Qgm (a b:Nat) (p:Go.Cv.Pt Go.Fp.P Go.Fp.d):Ys (a*b) p=Ys a (Ys b p):=Go.Cv.Qke Go.Fp.fld a b p
theorem Qsl {l:Nat} {p:Go.Cv.Pt Go.Fp.P Go.Fp.d} (hl:Ys l p=Bt) (k:Nat):Ys (k%l) p=Ys k p:=Go.Cv.mul_mod Go.Fp.fld hl k
theorem Qoq (k:Nat):Ys k Bt=Bt:=Go.Cv.mul_zero Go.Fp.fld k
abbrev LtN (n:Nat):Nat→Prop:=fun i=>i<n
theorem HPart.arr {n id off m c:Nat} {H:List Ob} {b:List Nat} {w e:Bool} {s:Nat} (hid:id<n) (h:H[id]?=some ⟨u8s b,true,w,e,s⟩) (hb:∀ y∈b,y<256) (hl:off+m≤b.length) (hm:m≤2^47-4096):HPart (LtN n) H (.slice (some ⟨id,off,none⟩) m c) ((b.drop off).take m):=by
 have hlen:((b.drop off).take m).length=m:=by rw [Js,X5]; omega
 refine ⟨⟨_,_,by rw [hlen]⟩,fun G hG => ?_,fun y hy=>hb y (Y2 (Ki hy)),by rw [hlen]; omega⟩
 have hg:=(hG id hid).trans h
 rw [hlen]
 simp [elemsOf,V9 hg rfl,Zv,hl]
 simp [u8s,List.map_take,List.map_drop]
theorem HPart.whole {n id c:Nat} {H:List Ob} {b:List Nat} {w e:Bool} {s:Nat} (hid:id<n) (h:H[id]?=some ⟨u8s b,true,w,e,s⟩) (hb:∀ y∈b,y<256) (hm:b.length≤2^47-4096):HPart (LtN n) H (.slice (some ⟨id,0,none⟩) b.length c) b:=by
 have:=HPart.arr (off:=0) (m:=b.length) (c:=c) hid h hb (by omega) hm
 rwa [Qz,Rc] at this
theorem HPart.ext {n m:Nat} {H G:List Ob} {x:Value} {p:List Nat} (h:HPart (LtN n) H x p) (hg:∀ i,i<n→G[i]?=H[i]?) (hnm:n≤m):HPart (LtN m) G x p :=
 ⟨h.shape,fun G' hG'=>h.reads G' fun i hi=>(hG' i (Xr hi hnm)).trans (hg i hi),h.lt,h.le⟩
theorem HParts.ext {n m:Nat} {H G:List Ob} {xs:List Value} {ps:List (List Nat)} (h:HParts (LtN n) H xs ps) (hg:∀ i,i<n→G[i]?=H[i]?) (hnm:n≤m):HParts (LtN m) G xs ps:=by
 induction h with
 | nil=>exact .nil
 | cons a _ ih=>exact .cons (a.ext hg hnm) ih
theorem HParts.append {K:Nat→Prop} {H:List Ob} {xs ys:List Value} {ps qs:List (List Nat)} (h:HParts K H xs ps) (k:HParts K H ys qs):HParts K H (xs++ys) (ps++qs):=by
 induction h with
 | nil=>exact k
 | cons a _ ih=>exact .cons a ih
structure Args1 (H:List Ob) (pv:Value) (ps:List (List Nat)) (xs:List Value):Prop where
 inPv:PV (LtN H.length) H pv xs
 parts:HParts (LtN H.length) H xs ps
 few:xs.length<2^40
 len:Go.Ev.lenV pv=some xs.length
 reads:∀ G:List Ob,(∀ i,i<H.length→G[i]?=H[i]?)→elemsOf G 1 xs.length pv=some xs
def Args (H:List Ob) (pv:Value) (ps:List (List Nat)):Prop:=∃ xs,Args1 H pv ps xs
theorem Args.ext {H G:List Ob} {pv:Value} {ps:List (List Nat)} (h:Args H pv ps) (hg:∀ i,i<H.length→G[i]?=H[i]?) (hl:H.length≤G.length):Args G pv ps:=by
 obtain ⟨xs,h1,h2,h3,h4,h5⟩:=h
 refine ⟨xs,?_,h2.ext hg hl,h3,h4,fun G' hG'=>h5 G' fun i hi=>(hG' i (Xr hi hl)).trans (hg i hi)⟩
 rcases h1 with h | ⟨pid,off,cap,o,a1,a2,a3,a4,a5⟩
 ·exact .inl h
 ·exact .inr ⟨pid,off,cap,o,a1,Xr a2 hl,(hg pid a2).trans a3,a4,a5⟩
theorem Args.app {H l:List Ob} {pv:Value} {ps:List (List Nat)} (h:Args H pv ps):Args (H++l) pv ps:=h.ext (fun i hi=>Qm hi) (by simp)
theorem Args.nothing (H:List Ob):Args H (.slice none 0 0) []:=⟨[],.inl ⟨rfl,rfl⟩,.nil,by decide,rfl,fun _ _=>rfl⟩
theorem Args.arr {H:List Ob} {a n c:Nat} {e:Bool} {s:Nat} {ys:List Value} {qs:List (List Nat)} (ha:H[a]?=some ⟨ys,true,true,e,s⟩) (hn:ys.length=n) (hys:HParts (LtN H.length) H ys qs) (hf:n<2^40):Args H (.slice (some ⟨a,0,none⟩) n c) qs:=by
 subst hn
 refine ⟨ys,.inr ⟨a,0,c,_,rfl,(Q7.1 ha).1,ha,rfl,fun i _=>by rw [Z3]⟩,hys,hf,rfl,fun G hG => ?_⟩
 have hg:=(hG a (Q7.1 ha).1).trans ha
 simp [elemsOf,V9 hg rfl]
theorem Qd1 {H:List Ob} {a n:Nat} {ys:List Value} {pv:Value} {qs ps:List (List Nat)} (ha:H[a]?=some ⟨ys,true,true,true,1⟩) (hn:ys.length=n) (hys:HParts (LtN H.length) H ys qs) (hp:Args H pv ps) (h10:n≤10) (hps:ps.length≤1000) :
  ∃ v' l,Wk 1 24 H (.slice (some ⟨a,0,none⟩) n n) pv=some (v',H++l,none,[])∧Args (H++l) v' (qs++ps):=by
 have hAr:Args H (.slice (some ⟨a,0,none⟩) n n) qs:=Args.arr ha hn hys (by omega)
 subst hn
 obtain ⟨xs,hp⟩:=hp
 have h4:liveAt H a=some ⟨ys,true,true,true,1⟩:=V9 ha rfl
 have h8:elemsOf H 1 ys.length (.slice (some ⟨a,0,none⟩) ys.length ys.length)=some ys:=by simp [elemsOf,h4]
 have k1:=hp.len
 have k2:=hp.reads H (fun _ _=>rfl)
 have k3:=hp.few
 have k4:=hp.parts.len
 rcases Wl xs.length with h0 | h0
 ·have hx:xs=[]:=Ws h0
  have hps':ps=[]:=Ws (by rw [hp.parts.len,h0])
  subst hx hps'
  refine ⟨.slice (some ⟨a,0,none⟩) ys.length ys.length,[],?_,by rw [Xd,Xd]; exact hAr⟩
  rw [Jg] at k1 k2
  simp only [Wk,k1,k2,Zb,if_true,Xd]
 ·have h1:¬ xs.length=0:=by omega
  have h2:(ys.length+xs.length)*24≤2^47:=by omega
  have h7:¬ (ys.length+xs.length≤ys.length):=by omega
  refine ⟨.slice (some ⟨H.length,0,none⟩) (ys.length+xs.length) (ys.length+xs.length),[Ob.grown 1 (ys++xs)],?_,?_⟩
  ·simp only [Wk,k1,k2,Zb,if_neg h1,h2,Quq,Q1u,Qb2,and_self,not_true_eq_false,if_false,if_true,h4,h8,if_neg h7]
  ·refine Args.arr (ys:=ys++xs) (e:=false) (s:=1) (by rw [Za (Zn _),Jw]; rfl) (by simp) ?_ (by omega)
   exact (hys.ext (fun i hi=>Qm hi) (by simp)).append (hp.parts.ext (fun i hi=>Qm hi) (by simp))
theorem Qr3 {H:List Ob} {pv:Value} {ps:List (List Nat)} (h:Args H pv ps) (hb:ps.flatten.length<2^49):∃ l,Yd T 100 [pv] H=some (.agg (u8s (sha ps.flatten)).toArray,H++l,[]):=by
 obtain ⟨xs,h⟩:=h
 have:=h.few
 exact Qze h.inPv h.parts (by omega) hb
def Qid (b:List Nat):List Nat:=rd (sha b)
theorem Qdi {b:List Nat}:(Qid b).length=32:=Qvo
theorem Qgj {b:List Nat}:∀ x∈Qid b,x<256:=rd_lt
theorem Qa1 {H:List Ob} {pv:Value} {ps:List (List Nat)} (h:Args H pv ps) (hb:ps.flatten.length<2^49) :
  ∃ l,Yd T 48 [pv] H=some (.agg (u8s (Qid ps.flatten)).toArray,H++l,[]):=by
 have hz:Qa 32 (Value.int .u8 0)=u8s (dig 256 32 0):=rfl
 have lz:(dig 256 32 0).length=32:=rfl
 have hz64:=Dd
 have lz64:(Qa 64 0).length=64:=Q4
 obtain ⟨l1,h1⟩:=Qr3 (h.app (l:=[⟨u8s (dig 256 32 0),true,true,true,1⟩])) hb
 have ls:=Mx ps.flatten
 have xs:=Qfp ps.flatten
 obtain ⟨G,hG⟩:∃ X,X=H++(⟨u8s (dig 256 32 0),true,true,true,1⟩::(l1++[⟨u8s (sha ps.flatten),true,true,true,1⟩,⟨[.slice (some ⟨H.length+(l1.length+1),0,none⟩) 64 64],true,true,true,1⟩])):=⟨_,rfl⟩
 have hGl:G.length=H.length+(l1.length+3):=by rw [hG]; simp
 have hg1:G[H.length+(l1.length+1)]?=some ⟨u8s (sha ps.flatten),true,true,true,1⟩:=by
  rw [hG,Za (by omega),Jh,Z0,Za (Zn _),Jw]; rfl
 have hg2:G[H.length+(l1.length+1+1)]?=some ⟨[.slice (some ⟨H.length+(l1.length+1),0,none⟩) 64 64],true,true,true,1⟩:=by
  rw [hG,Za (by omega),Jh,Z0,Za (by omega),Jh]; rfl
 have hP:Q7i .u8 G (H.length+(l1.length+1+1)) 0 [sha ps.flatten]:=by
  refine ⟨_,V9 hg2 rfl,fun i p hi => ?_⟩
  cases i with
  | zero =>
   simp at hi; subst hi
   refine ⟨_,rfl,?_⟩
   have:=Sl.mk (k := .u8) (c:=64) (off:=0) (l:=sha ps.flatten) (V9 hg1 rfl) (by simp [Zv]) (fun i x hx=>by rw [Z3]; exact Wy hx)
   rwa [ls] at this
  | succ i=>simp at hi
 obtain ⟨l2,h2⟩:=Qzt (c:=1) (n:=1) hP rfl (by decide) (by simp [ls]) (by simpa using xs)
 rw [Xs,Y4,Xd] at h2
 have hfr:∀ i,i<H.length→((G++l2).set H.length (⟨u8s (Qid ps.flatten),true,true,true,1⟩:Ob))[i]?=H[i]? := fun i hi=>by
  rw [Z4 (by omega),Qm (by omega),hG,Qm hi]
 obtain ⟨l,hl⟩:=B5 (H:=H) (by rw [Jk,Zh]; omega) hfr
 refine ⟨l,?_⟩
 rw [←hl]
 have g4:∀ o:Ob,((G++l2).set H.length o)[H.length]?=some o:=fun o=>Jj (by rw [Zh]; omega)
 have f1:fillL [Value.slice none 0 0] [(0,1,.slice (some ⟨H.length+(l1.length+1),0,none⟩) 64 64)]=some [.slice (some ⟨H.length+(l1.length+1),0,none⟩) 64 64]:=rfl
 have lr:=Qdi (b:=ps.flatten)
 rw [show dig 256 32 (num 256 (sha ps.flatten)%ell)=Qid ps.flatten from rfl] at h2
 have F1:H++(⟨u8s (dig 256 32 0),true,true,true,1⟩::(l1++[⟨u8s (sha ps.flatten),true,true,true,1⟩,⟨[.slice (some ⟨H.length+(l1.length+1),0,none⟩) 64 64],true,true,true,1⟩]))=G:=hG.symm
 have hg3:(G++l2)[H.length]?=some ⟨u8s (dig 256 32 0),true,true,true,1⟩:=by
  rw [Qm (by omega),hG,Za (Zn _),Jw]; rfl
 rw [Je,Ze,Q9] at h1
 generalize Qid ps.flatten=R,sha ps.flatten=S,dig 256 32 0=Z,Qa 64 0=Z64 at *
 rw [Zz (fn:=Zfw) rfl]
 simp only [Zfw,↓Zm,Zw,quiet,cF,↓pF,reduceCtorEq,Qb,Qq,Zj,Zd,Zg,Zc,Q8,Qf,Q0,Qe,Qz,Q6,Q5,↓Zo,↓Zl,↓Zq,↓Zt,↓Zr,↓Zs,cL,Qp,Qo,Qy,Qx,Qv,Ql,Qk,Qw,Qc,Q1,Q2,Qr,Qg,Qi,Qh,Qu,Qt,Qs,Qn,Qd,cJ,hz,hz64,h1,f1,F1,h2,hg3,g4,Jf,Jt,Ku,Ju,Zv,lz,lz64,ls,lr,Ji,Q4]
def scL (s:List Nat):List Nat:=Hd ((sha s).take 32) ((sha s).getD 0 0) ((sha s).getD 31 0)
def pfL (s:List Nat):List Nat:=(sha s).drop 32
theorem Qeg (s:List Nat):(scL s).length=32:=by simp [scL,Hd,Mx]
theorem Qkc (s:List Nat):(pfL s).length=32:=by simp [pfL,Mx]
theorem Qia (s:List Nat) {i:Nat} (h:i<64):∃ x,(sha s)[i]?=some x∧(sha s).getD i 0=x∧x<256:=by
 obtain ⟨x,hx⟩:∃ x,(sha s)[i]?=some x:=⟨_,Q3 (by rw [Mx]; exact h)⟩
 exact ⟨x,hx,U6 hx,Qfp s x (Zp hx)⟩
theorem Qqb (s:List Nat):∀ y∈scL s,y<256:=by
 obtain ⟨x,-,e1,lx⟩:=Qia s (i:=0) (by decide)
 obtain ⟨z,-,e2,lz⟩:=Qia s (i:=31) (by decide)
 have h1:x&&&248<256:=Ga (n:=8) _ (by decide)
 have h2:(z&&&127)|||64<256:=Hy (n:=8) (Ga (n:=8) _ (by decide)) (by decide)
 rw [scL,Hd,e1,e2]
 exact Hl (Hl (fun y hy=>Qfp s y (Ki hy)) h1) h2
theorem Zdb (s:List Nat):∀ y∈pfL s,y<256:=fun y hy=>Qfp s y (Y2 hy)
theorem Hz (n:Nat) (l:List Nat):Vt n (u8s l)=u8s (l.take n):=by simp [u8s,List.map_take]
theorem Qbg (n:Nat) (l:List Nat):W0 n (u8s l)=u8s (l.drop n):=by simp [u8s,List.map_drop]
theorem U5 (a b:List Nat):u8s (a++b)=u8s a++u8s b:=by simp [u8s]
theorem Bs {a b:List Nat} (la:a.length=32) (lb:b.length=32):fillL (u8s (Qa 64 0)) [(0,32,.agg (u8s a).toArray),(32,32,.agg (u8s b).toArray)]=some (u8s (a++b)):=by
 have l64:(u8s (Qa 64 0)).length=64:=by rw [Zv,Q4]
 have lA:(u8s a).length=32:=by rw [Zv,la]
 have lB:(u8s b).length=32:=by rw [Zv,lb]
 have ca:∀ l:List Nat,(Value.agg (u8s l).toArray).cells.toList=u8s l:=fun _=>rfl
 have cz:∀ l:List Nat,(Value.agg (u8s l).toArray).cells.size=(u8s l).length:=fun _=>rfl
 have ok:∀ l:List Nat,Yj (Value.agg (u8s l).toArray)=true:=fun _=>rfl
 have s1:splice (u8s (Qa 64 0)) 0 (u8s a)=u8s a++(u8s (Qa 64 0)).drop 32:=by
  rw [Ht _ _ _ (by omega),Q0,Q9,Z3,lA]
 have s2:splice (u8s a++(u8s (Qa 64 0)).drop 32) 32 (u8s b)=u8s (a++b):=by
  rw [Ht _ _ _ (by rw [Zh,X5]; omega),Yr (by omega),Zk (by omega),Vv (by rw [Zh,X5]; omega),Xd,U5]
 have e1:(u8s a).length=32∧0+32≤(u8s (Qa 64 0)).length∧True:=⟨lA,by omega,trivial⟩
 have e2:(u8s b).length=32∧32+32≤(u8s a++(u8s (Qa 64 0)).drop 32).length∧True:=⟨lB,by rw [Zh,X5]; omega,trivial⟩
 simp only [fillL,ca,cz,ok,s1,s2,if_pos e1,if_pos e2]
theorem Qtl {s:List Nat} (ls:s.length=32) (xs:∀ y∈s,y<256):evVal T 64 [.agg (u8s s).toArray]=some (.agg (u8s (scL s++pfL s)).toArray):=by
 have hz64:=Dd
 have lz64:(Qa 64 0).length=64:=Q4
 obtain ⟨G,hG⟩:∃ X,X=[(⟨u8s s,true,true,true,1⟩:Ob),⟨u8s (Qa 64 0),true,true,true,1⟩,⟨[.slice (some ⟨0,0,none⟩) 32 32],true,true,true,1⟩]:=⟨_,rfl⟩
 have hA:Args G (.slice (some ⟨2,0,none⟩) 1 1) [s]:=by
  have hp:HPart (LtN G.length) G (.slice (some ⟨0,0,none⟩) 32 32) s:=by
   have:=HPart.whole (n:=G.length) (H:=G) (id:=0) (c:=32) (b:=s) (by rw [hG]; exact Quq _) (by rw [hG]; rfl) xs (by rw [ls]; decide)
   rwa [ls] at this
  exact Args.arr (ys:=[.slice (some ⟨0,0,none⟩) 32 32]) (e:=true) (s:=1) (by rw [hG]; rfl) rfl (.cons hp .nil) (by decide)
 obtain ⟨l,h1⟩:=Qr3 hA (by simp [ls])
 rw [Xs,Y4,Xd,hG] at h1
 simp only [Ze,Q9] at h1
 obtain ⟨x,g0,d0,lx⟩:=Qia s (i:=0) (by decide)
 obtain ⟨z,g31,d31,lz⟩:=Qia s (i:=31) (by decide)
 have lS:=Mx s
 have lt32:((sha s).take 32).length=32:=by rw [Js,lS]; rfl
 obtain ⟨lc,hc⟩:=Qt8 (a:=(sha s).take 32) (x:=x) (y:=z) lt32 (by rw [Ks,if_pos (by decide)]; exact g0) (by rw [Ks,if_pos (by decide)]; exact g31) lx lz
 have hcv:=T6 hc
 rw [show Hd ((sha s).take 32) x z=scL s by rw [scL,d0,d31]] at hcv
 have hf:=Bs (Qeg s) (Qkc s)
 have f1:fillL [Value.slice none 0 0] [(0,1,.slice (some ⟨0,0,none⟩) 32 32)]=some [.slice (some ⟨0,0,none⟩) 32 32]:=rfl
 have t1:Vt 32 (u8s (sha s))=u8s ((sha s).take 32):=Hz _ _
 have t2:Vt 32 (W0 32 (u8s (sha s)))=u8s (pfL s):=by rw [Qbg,Hz,Zk (by rw [X5,lS]; decide)]; rfl
 have l1:=Qeg s
 have l2:=Qkc s
 have l3:(scL s++pfL s).length=64:=by rw [Zh,l1,l2]
 clear hG hA
 generalize (sha s).take 32=S1,pfL s=S2,scL s=S3 at *
 generalize S3++S2=R,sha s=S,Qa 64 0=Z64 at *
 apply Jx
 apply Zu
 rw [Zz (fn:=Zfx) rfl]
 simp only [Zfx,↓Zm,Zw,quiet,cF,↓pF,reduceCtorEq,Qb,Qq,Zj,Zd,Zg,Zc,Q8,Qf,Q0,Qe,Qz,Q6,Q5,↓Zo,↓Zl,↓Zq,↓Zt,↓Zr,↓Zs,cL,Qp,Qo,Qy,Qx,Qv,Ql,Qk,Qw,Qc,Q1,Q2,Qr,Qg,Qi,Qh,Qu,Qt,Qs,Qn,Qd,cJ,hz64,h1,f1,t1,t2,hcv,hf,Jf,Jt,Ku,Ju,Zv,ls,lS,lz64,l1,l2,l3,lt32,Ji,Q4]
 rfl
def Rt (s:List Nat):List Nat:=enc (Ys (num 256 (scL s)) Un)
theorem Q33 {s:List Nat} (ls:s.length=32) (xs:∀ y∈s,y<256):evVal T 35 [.agg (u8s s).toArray]=some (.agg (u8s (Rt s)).toArray):=by
 have hz:Qa 32 (Value.int .u8 0)=u8s (dig 256 32 0):=rfl
 have lz:(dig 256 32 0).length=32:=rfl
 have hh:=Qtl ls xs
 obtain ⟨B,hB,rB⟩:=Qw7
 obtain ⟨P,hP,rP⟩:=T1 rB (Qeg s) (Qqb s)
 have hE:=Qgz rP
 have lE:=Rl (Ys (num 256 (scL s)) Un)
 have l1:=Qeg s
 have l2:=Qkc s
 have t1:Vt 32 (u8s (scL s++pfL s))=u8s (scL s):=by rw [Hz,Yr (by omega),Zk (by omega)]
 have l3:(scL s++pfL s).length=64:=by rw [Zh,l1,l2]
 unfold Rt
 generalize enc (Ys (num 256 (scL s)) Un)=E,scL s++pfL s=R at *
 generalize scL s=S3,dig 256 32 0=Z at *
 apply Jx
 apply Zu
 rw [Zz (fn:=Zfy) rfl]
 simp only [Zfy,↓Zm,Zw,quiet,cF,↓pF,reduceCtorEq,Qb,Qq,Zj,Zd,Zg,Zc,Q8,Qf,Q0,Qe,Qz,Q6,Q5,↓Zo,↓Zl,↓Zq,↓Zt,↓Zr,↓Zs,cL,Qp,Qo,Qy,Qx,Qv,Ql,Qk,Qw,Qc,Q1,Q2,Qr,Qg,Qi,Qh,Qu,Qt,Qs,Qn,Qd,cJ,hz,hh,hB,hP,hE,t1,Jf,Jt,Ku,Ju,Zv,ls,lz,l1,l3,lE,Ji,Q4,Ko]
 rfl
def rL (s m:List Nat):List Nat:=Qid (pfL s++m)
def frL (s m:List Nat):List Nat:=enc (Ys (num 256 (rL s m)) Un)
def chL (front pub m:List Nat):List Nat:=Qid (front++(pub++m))
def bkL (s m:List Nat):List Nat:=mA (chL (frL s m) (Rt s) m) (scL s) (rL s m)
def Qdd (s m:List Nat):List Nat:=frL s m++bkL s m
theorem Qeq (s m:List Nat):(frL s m).length=32:=Rl _
theorem Q57 (s m:List Nat):∀ y∈frL s m,y<256:=Qwv _
theorem Rs (s:List Nat):(Rt s).length=32:=Rl _
theorem Qx0 (s:List Nat):∀ y∈Rt s,y<256:=Qwv _
theorem Qyz (s m:List Nat):(bkL s m).length=32:=Zd0
theorem Zei (s m:List Nat):∀ y∈bkL s m,y<256:=mA_lt
theorem Qgh (s m:List Nat):(Qdd s m).length=64:=by rw [Qdd,Zh,Qeq,Qyz]
theorem Qxr (s m:List Nat):∀ y∈Qdd s m,y<256:=by
 intro y hy
 rcases J8.1 hy with h | h
 ·exact Q57 s m y h
 ·exact Zei s m y h
theorem Qpu {H:List Ob} {a b n m c:Nat} {fa fb:List Nat} {e:Bool} {s:Nat} (ha:H[a]?=some ⟨u8s fa,true,true,true,1⟩) (hb:H[b]?=some ⟨u8s fb,true,true,e,s⟩) (hn:fa.length=n) (hm:fb.length=m) (h0:0<m) (hs:n+m≤1000) :
  Wk 1 1 H (.slice (some ⟨a,0,none⟩) n n) (.slice (some ⟨b,0,none⟩) m c)=some (.slice (some ⟨H.length,0,none⟩) (n+m) (n+m),H++[⟨u8s (fa++fb),true,true,false,1⟩],none,[]):=by
 have h4:liveAt H a=some ⟨u8s fa,true,true,true,1⟩:=V9 ha rfl
 have k2:elemsOf H 1 m (.slice (some ⟨b,0,none⟩) m c)=some (u8s fb):=by
  simp [elemsOf,V9 hb rfl,Zv,hm]
  exact Zk (by rw [Zv,hm]; exact Zn _)
 have h8:elemsOf H 1 n (.slice (some ⟨a,0,none⟩) n n)=some (u8s fa):=by
  simp [elemsOf,h4,Zv,hn]
  exact Zk (by rw [Zv,hn]; exact Zn _)
 have h1:¬ m=0:=by omega
 have h2:(n+m)*1≤2^47:=by omega
 have h7:¬ (n+m≤n):=by omega
 have k1:Go.Ev.lenV (.slice (some ⟨b,0,none⟩) m c)=some m:=rfl
 simp only [Wk,k1,k2,Zb,if_neg h1,h2,Quq,Q1u,Qb2,and_self,not_true_eq_false,if_false,if_true,h4,h8,if_neg h7,Ob.grown,←U5]
theorem Q90 {H:List Ob} {s:List Nat} {pv:Value} {ps:List (List Nat)} (ls:s.length=32) (xs:∀ y∈s,y<256) (hp:Args H pv ps) (hn:ps.length≤1000) (hb:ps.flatten.length<2^48) :
  ∃ l,Yd T 31 [.agg (u8s s).toArray,pv] H=some (.agg (u8s (Qdd s ps.flatten)).toArray,H++l,[]):=by
 have hz:Qa 32 (Value.int .u8 0)=u8s (dig 256 32 0):=rfl
 have lz:(dig 256 32 0).length=32:=rfl
 have hz64:=Dd
 have lz64:(Qa 64 0).length=64:=Q4
 have hh:=Qtl ls xs
 have l1:=Qeg s
 have l2:=Qkc s
 have l3:(scL s++pfL s).length=64:=by rw [Zh,l1,l2]
 have x3:∀ y∈scL s++pfL s,y<256:=fun y hy=>(J8.1 hy).elim (Qqb s y) (Zdb s y)
 obtain ⟨B,hB,rB⟩:=Qw7
 obtain ⟨P,hP,rP⟩:=T1 rB (Qeg s) (Qqb s)
 have hE:=Qgz rP
 rw [show enc (Ys (num 256 (scL s)) Un)=Rt s from rfl] at hE
 have lA:=Rs s
 obtain ⟨G1,hG1⟩:∃ X,X=H++[(⟨u8s s,true,true,true,1⟩:Ob),⟨u8s (Qa 64 0),true,true,true,1⟩,⟨u8s (scL s++pfL s),true,true,true,1⟩,⟨u8s (Rt s),true,true,true,1⟩,⟨[.slice (some ⟨H.length+2,32,none⟩) 32 32],true,true,true,1⟩]:=⟨_,rfl⟩
 have lG1:G1.length=H.length+5:=by rw [hG1]; simp
 have gz:G1[H.length+1]?=some ⟨u8s (Qa 64 0),true,true,true,1⟩:=by rw [hG1,Za (by omega),Jh]; rfl
 have gh:G1[H.length+2]?=some ⟨u8s (scL s++pfL s),true,true,true,1⟩:=by rw [hG1,Za (by omega),Jh]; rfl
 have gA:G1[H.length+3]?=some ⟨u8s (Rt s),true,true,true,1⟩:=by rw [hG1,Za (by omega),Jh]; rfl
 have ga:G1[H.length+4]?=some ⟨[.slice (some ⟨H.length+2,32,none⟩) 32 32],true,true,true,1⟩:=by rw [hG1,Za (by omega),Jh]; rfl
 have hp1:Args G1 pv ps:=by rw [hG1]; exact hp.app
 have part1:HPart (LtN G1.length) G1 (.slice (some ⟨H.length+2,32,none⟩) 32 32) (pfL s):=by
  have:=HPart.arr (n:=G1.length) (off:=32) (m:=32) (c:=32) (by omega) gh x3 (by rw [l3]; decide) (by decide)
  rwa [Y3 (by omega),Vv (by omega),Q9,Zk (by omega)] at this
 obtain ⟨v1,k1,ha1,hA1⟩:=Qd1 (n:=1) ga rfl (.cons part1 .nil) hp1 (by decide) hn
 obtain ⟨k2,hr⟩:=Qa1 hA1 (by rw [Y9,Xs,Y4,Xd,Zh,l2]; omega)
 rw [Y9,Xs,Y4,Xd,show Qid (pfL s++ps.flatten)=rL s ps.flatten from rfl] at hr
 have lr:(rL s ps.flatten).length=32:=Qdi
 obtain ⟨G2,hG2⟩:∃ X,X=G1++(k1++k2):=⟨_,rfl⟩
 have lG2:G1.length≤G2.length:=by rw [hG2]; simp
 obtain ⟨P2,hP2,rP2⟩:=T1 rB lr Qgj
 have hE2:=Qgz rP2
 rw [show enc (Ys (num 256 (rL s ps.flatten)) Un)=frL s ps.flatten from rfl] at hE2
 have lF:=Qeq s ps.flatten
 obtain ⟨G3,hG3⟩:∃ X,X=G2++[(⟨u8s (rL s ps.flatten),true,true,true,1⟩:Ob),⟨u8s (frL s ps.flatten),true,true,true,1⟩,⟨[.slice (some ⟨G2.length+1,0,none⟩) 32 32,.slice (some ⟨H.length+3,0,none⟩) 32 32],true,true,true,1⟩]:=⟨_,rfl⟩
 have lG3:G3.length=G2.length+3:=by rw [hG3]; simp
 have up13:∀ i,i<G1.length→G3[i]?=G1[i]? := fun i hi=>by rw [hG3,Qm (by omega),hG2,Qm hi]
 have hr3:G3[G2.length]?=some ⟨u8s (rL s ps.flatten),true,true,true,1⟩:=by rw [hG3,Za (Zn _),Jw]; rfl
 have hf3:G3[G2.length+1]?=some ⟨u8s (frL s ps.flatten),true,true,true,1⟩:=by rw [hG3,Za (by omega),Jh]; rfl
 have harr3:G3[G2.length+2]?=some ⟨[.slice (some ⟨G2.length+1,0,none⟩) 32 32,.slice (some ⟨H.length+3,0,none⟩) 32 32],true,true,true,1⟩:=by rw [hG3,Za (by omega),Jh]; rfl
 have hp3:Args G3 pv ps:=hp1.ext up13 (by omega)
 have partF:HPart (LtN G3.length) G3 (.slice (some ⟨G2.length+1,0,none⟩) 32 32) (frL s ps.flatten):=by
  have:=HPart.whole (n:=G3.length) (c:=32) (by omega) hf3 (Q57 s _) (by rw [lF]; decide)
  rwa [lF] at this
 have partA:HPart (LtN G3.length) G3 (.slice (some ⟨H.length+3,0,none⟩) 32 32) (Rt s):=by
  have:=HPart.whole (n:=G3.length) (c:=32) (by omega) ((up13 _ (by omega)).trans gA) (Qx0 s) (by rw [lA]; decide)
  rwa [lA] at this
 obtain ⟨v3,k3,ha3,hA3⟩:=Qd1 (n:=2) harr3 rfl (.cons partF (.cons partA .nil)) hp3 (by decide) hn
 obtain ⟨k4,hk⟩:=Qa1 hA3 (by rw [Y9,Xs,Xs,Y4,Xd,Zh,Zh,lF,lA]; omega)
 rw [Y9,Xs,Xs,Y4,Xd,Je,show Qid (frL s ps.flatten++(Rt s++ps.flatten))=chL (frL s ps.flatten) (Rt s) ps.flatten from rfl] at hk
 have lk:(chL (frL s ps.flatten) (Rt s) ps.flatten).length=32:=Qdi
 obtain ⟨G4,hG4⟩:∃ X,X=G3++(k3++k4):=⟨_,rfl⟩
 have lG4:G3.length≤G4.length:=by rw [hG4]; simp
 have up34:∀ i,i<G3.length→G4[i]?=G3[i]? := fun i hi=>by rw [hG4,Qm hi]
 obtain ⟨q,hm⟩:=Q0h lk l1 lr Qgj (Qqb s) Qgj
 have hmv:=T6 hm
 rw [show mA (chL (frL s ps.flatten) (Rt s) ps.flatten) (scL s) (rL s ps.flatten)=bkL s ps.flatten from rfl] at hmv
 have lB:=Qyz s ps.flatten
 obtain ⟨G5,hG5⟩:∃ X,X=G4++[(⟨u8s (chL (frL s ps.flatten) (Rt s) ps.flatten),true,true,true,1⟩:Ob),⟨u8s (bkL s ps.flatten),true,true,true,1⟩]:=⟨_,rfl⟩
 have lG5:G5.length=G4.length+2:=by rw [hG5]; simp
 have hf5:G5[G2.length+1]?=some ⟨u8s (frL s ps.flatten),true,true,true,1⟩:=by rw [hG5,Qm (by omega),up34 _ (by omega)]; exact hf3
 have hb5:G5[G4.length+1]?=some ⟨u8s (bkL s ps.flatten),true,true,true,1⟩:=by rw [hG5,Za (by omega),Jh]; rfl
 have hap:=Qpu (c:=32) hf5 hb5 lF lB (by decide) (by decide)
 rw [show frL s ps.flatten++bkL s ps.flatten=Qdd s ps.flatten from rfl] at hap
 have lS:=Qgh s ps.flatten
 have g4h:∀ l:List Ob,(G4++l)[H.length+2]?=some ⟨u8s (scL s++pfL s),true,true,true,1⟩:=fun l=>by rw [Qm (by omega),up34 _ (by omega),up13 _ (by omega)]; exact gh
 have g4r:∀ l:List Ob,(G4++l)[G2.length]?=some ⟨u8s (rL s ps.flatten),true,true,true,1⟩:=fun l=>by rw [Qm (by omega),up34 _ (by omega)]; exact hr3
 have g5z:∀ l:List Ob,(G5++l)[H.length+1]?=some ⟨u8s (Qa 64 0),true,true,true,1⟩:=fun l=>by rw [Qm (by omega),hG5,Qm (by omega),up34 _ (by omega),up13 _ (by omega)]; exact gz
 have hfr:∀ i,i<H.length→((G5++[(⟨u8s (Qdd s ps.flatten),true,true,false,1⟩:Ob)]).set (H.length+1) (⟨u8s (Qdd s ps.flatten),true,true,true,1⟩:Ob))[i]?=H[i]? := fun i hi=>by
  rw [Z4 (by omega),Qm (by omega),hG5,Qm (by omega),up34 _ (by omega),up13 _ (by omega),hG1,Qm hi]
 obtain ⟨l,hl⟩:=B5 (H:=H) (by rw [Jk,Zh]; omega) hfr
 refine ⟨l,?_⟩
 rw [←hl]
 have g6:∀ o:Ob,((G5++[(⟨u8s (Qdd s ps.flatten),true,true,false,1⟩:Ob)]).set (H.length+1) o)[H.length+1]?=some o:=fun o=>Jj (by rw [Zh]; omega)
 have f1:fillL [Value.slice none 0 0] [(0,1,.slice (some ⟨H.length+2,32,none⟩) 32 32)]=some [.slice (some ⟨H.length+2,32,none⟩) 32 32]:=rfl
 have f2:fillL [Value.slice none 0 0,.slice none 0 0] [(0,1,.slice (some ⟨G2.length+1,0,none⟩) 32 32),(1,1,.slice (some ⟨H.length+3,0,none⟩) 32 32)]=some [.slice (some ⟨G2.length+1,0,none⟩) 32 32,.slice (some ⟨H.length+3,0,none⟩) 32 32]:=rfl
 have t1:Vt 32 (u8s (scL s++pfL s))=u8s (scL s):=by rw [Hz,Yr (by omega),Zk (by omega)]
 have F1:H++[(⟨u8s s,true,true,true,1⟩:Ob),⟨u8s (Qa 64 0),true,true,true,1⟩,⟨u8s (scL s++pfL s),true,true,true,1⟩,⟨u8s (Rt s),true,true,true,1⟩,⟨[.slice (some ⟨H.length+2,32,none⟩) 32 32],true,true,true,1⟩]=G1:=hG1.symm
 have F2:G1++(k1++k2)=G2:=hG2.symm
 have F3:G2++[(⟨u8s (rL s ps.flatten),true,true,true,1⟩:Ob),⟨u8s (frL s ps.flatten),true,true,true,1⟩,⟨[.slice (some ⟨G2.length+1,0,none⟩) 32 32,.slice (some ⟨H.length+3,0,none⟩) 32 32],true,true,true,1⟩]=G3:=hG3.symm
 have F4:G3++(k3++k4)=G4:=hG4.symm
 have F5:G4++[(⟨u8s (chL (frL s ps.flatten) (Rt s) ps.flatten),true,true,true,1⟩:Ob),⟨u8s (bkL s ps.flatten),true,true,true,1⟩]=G5:=hG5.symm
 have im1:Jp H.length [] [G2.length]=[]:=Xu (by simp; omega)
 have im2:Jp H.length [] [G2.length+1]=[]:=Xu (by simp; omega)
 have im3:Jp H.length [] [G4.length]=[]:=Xu (by simp; omega)
 have im4:Jp H.length [] [G4.length+1]=[]:=Xu (by simp; omega)
 have ls1:[Value.slice (some ⟨H.length+2,32,none⟩) 32 32].length=1:=rfl
 clear hG1 hG2 hG3 hG4 hG5 hl hfr hm hA1 hA3 partF partA part1
 rw [Je] at hr hk
 generalize Qdd s ps.flatten=S,bkL s ps.flatten=Bk,chL (frL s ps.flatten) (Rt s) ps.flatten=Ck at *
 generalize frL s ps.flatten=Fr,rL s ps.flatten=R,Rt s=A,scL s++pfL s=Hv at *
 generalize scL s=Sc,dig 256 32 0=Z,Qa 64 0=Z64 at *
 rw [Zz (fn:=Zfz) rfl]
 simp only [Zfz,↓Zm,Zw,quiet,cF,↓pF,reduceCtorEq,Qb,Qq,Zj,Zd,Zg,Zc,Q8,Qf,Q0,Qe,Qz,Q6,Q5,↓Zo,↓Zl,↓Zq,↓Zt,↓Zr,↓Zs,cL,Qp,Qo,Qy,Qx,Qv,Ql,Qk,Qw,Qc,Q1,Q2,Qr,Qg,Qi,Qh,Qu,Qt,Qs,Qn,Qd,cJ,hz,hz64,hh,hB,hP,hE,f1,F1,ha1,hr,F2,hP2,hE2,f2,F3,ha3,hk,F4,g4h,g4r,t1,hmv,F5,hap,g5z,g6,im1,im2,im3,im4,Jf,Jt,Ku,Ju,Zv,ls,lz,lz64,l1,l3,lA,lr,lF,lk,lB,lS,Ji,Q4,Ko]
def Qhv (pub front back m:List Nat) (c:Int):Prop :=
 ((∀ A,enc A≠pub)∧c=60)∨∃ A,enc A=pub ∧
  (((Ys 8 A=Bt∨¬ num 256 back<ell)∧c=70)∨(Ys 8 A≠Bt∧num 256 back<ell ∧
   (((∀ R,enc R≠front)∧c=70)∨∃ R,enc R=front∧c=if W6 (Ys (num 256 back) Un) (Ys (num 256 (chL front pub m)) A.neg)=R then 0 else 70)))
theorem Qc8 {k l:List Nat} (lk:k.length=32) (ll:l.length=32):vEq (some (Qa 32 true)) true (.agg (u8s k).toArray) (.agg (u8s l).toArray)=some (.bool (!(k==l))):=by
 rw [Qgb,He lk ll]
 rfl
theorem Q6x {H:List Ob} {pub front back:List Nat} {pv:Value} {ps:List (List Nat)} (lp:pub.length=32) (xp:∀ y∈pub,y<256) (lf:front.length=32) (xf:∀ y∈front,y<256) (lb:back.length=32) (xb:∀ y∈back,y<256) (hp:Args H pv ps) (hn:ps.length≤1000) (hb:ps.flatten.length<2^48) :
  ∃ l c,Yd T 27 [.agg (u8s pub).toArray,.agg (u8s (front++back)).toArray,pv] H=some (.int .i64 c,H++l,[])∧Qhv pub front back ps.flatten c:=by
 have hz:Qa 32 (Value.int .u8 0)=u8s (dig 256 32 0):=rfl
 have lz:(dig 256 32 0).length=32:=rfl
 have hz20:∃ O,Qa 20 (Value.int .u64 0)=ns .u64 O∧O.length=20:=⟨Qa 20 0,rfl,rfl⟩
 obtain ⟨O,hz20,lO⟩:=hz20
 have rft:∀ (r:List Nat) (c:Int),rf (Value.tuple #[eV r,.int .i64 c])=true:=fun r c=>Hw (a:=eV r) (b := .int .i64 c) (Ko r) rfl
 have lS:(front++back).length=64:=by rw [Zh,lf,lb]
 have t1:Vt 32 (u8s (front++back))=u8s front:=by rw [Hz,Yr (by omega),Zk (by omega)]
 have t2:Vt 32 (W0 32 (u8s (front++back)))=u8s back:=by rw [Qbg,Y3 (by omega),Vv (by omega),Q9,Hz,Zk (by omega)]
 rcases Qt6 lp xp with ⟨A,a,hA,rA,eA⟩ | ⟨A,hA,lA,hno⟩
 ·have p1:=rA.len
  have ht:=Zcv rA
  obtain ⟨qc,hcn⟩:=Qra lb xb
  have hcv:=T6 hcn
  unfold Qa8 at hA
  by_cases htiny:Ys 8 a=Bt
  ·rw [decide_eq_true htiny] at ht
   have hx:∃ l,Yd T 27 [.agg (u8s pub).toArray,.agg (u8s (front++back)).toArray,pv] H=some (.int .i64 70,H++l,[]):=by
    generalize front++back=S,dig 256 32 0=Z at *
    apply Zu
    rw [Zz (fn:=Qja) rfl]
    simp only [Qja,↓Zm,Zw,quiet,cF,↓pF,reduceCtorEq,Qb,Qq,Zj,Zd,Zg,Zc,Q8,Qf,Q0,Qe,Qz,Q6,Q5,↓Zo,↓Zl,↓Zq,↓Zt,↓Zr,↓Zs,cL,Qp,Qo,Qy,Qx,Qv,Ql,Qk,Qw,Qc,Q1,Q2,Qr,Qg,Qi,Qh,Qu,Qt,Qs,Qn,Qd,cJ,hz,hz20,hA,t1,t2,ht, Jf,Jt,Ku,Ju,J0,Zv,lp,lf,lb,lS,lz,lO,p1,Ji,Q4,rft,Ko]
    rfl
   obtain ⟨l,hx⟩:=hx
   exact ⟨l,70,hx,.inr ⟨a,eA,.inl ⟨.inl htiny,rfl⟩⟩⟩
  ·rw [decide_eq_false htiny] at ht
   by_cases hc:num 256 back<ell
   ·rw [decide_eq_true hc] at hcv
    rcases Qt6 lf xf with ⟨R,r,hR,rR,eR⟩ | ⟨R,hR,lR,hnR⟩
    ·have p2:=rR.len
     unfold Qa8 at hR
     obtain ⟨G1,hG1⟩:∃ X,X=H++[(⟨u8s pub,true,true,true,1⟩:Ob),⟨u8s (front++back),true,true,true,1⟩,⟨ns .u64 A,true,true,true,1⟩,⟨u8s front,true,true,true,1⟩,⟨u8s back,true,true,true,1⟩,⟨ns .u64 R,true,true,true,1⟩,⟨[.slice (some ⟨H.length+3,0,none⟩) 32 32,.slice (some ⟨H.length,0,none⟩) 32 32],true,true,true,1⟩]:=⟨_,rfl⟩
     have lG1:G1.length=H.length+7:=by rw [hG1]; simp
     have gp:G1[H.length]?=some ⟨u8s pub,true,true,true,1⟩:=by rw [hG1,Za (by omega),Jw]; rfl
     have gA:G1[H.length+2]?=some ⟨ns .u64 A,true,true,true,1⟩:=by rw [hG1,Za (by omega),Jh]; rfl
     have gf:G1[H.length+3]?=some ⟨u8s front,true,true,true,1⟩:=by rw [hG1,Za (by omega),Jh]; rfl
     have gb:G1[H.length+4]?=some ⟨u8s back,true,true,true,1⟩:=by rw [hG1,Za (by omega),Jh]; rfl
     have ga:G1[H.length+6]?=some ⟨[.slice (some ⟨H.length+3,0,none⟩) 32 32,.slice (some ⟨H.length,0,none⟩) 32 32],true,true,true,1⟩:=by rw [hG1,Za (by omega),Jh]; rfl
     have hp1:Args G1 pv ps:=by rw [hG1]; exact hp.app
     have partF:HPart (LtN G1.length) G1 (.slice (some ⟨H.length+3,0,none⟩) 32 32) front:=by
      have:=HPart.whole (n:=G1.length) (c:=32) (by omega) gf xf (by rw [lf]; decide)
      rwa [lf] at this
     have partP:HPart (LtN G1.length) G1 (.slice (some ⟨H.length,0,none⟩) 32 32) pub:=by
      have:=HPart.whole (n:=G1.length) (c:=32) (by omega) gp xp (by rw [lp]; decide)
      rwa [lp] at this
     obtain ⟨v1,k1,ha1,hA1⟩:=Qd1 (n:=2) ga rfl (.cons partF (.cons partP .nil)) hp1 (by decide) hn
     obtain ⟨k2,hk⟩:=Qa1 hA1 (by rw [Y9,Xs,Xs,Y4,Xd,Zh,Zh,lf,lp]; omega)
     rw [Y9,Xs,Xs,Y4,Xd,Je,show Qid (front++(pub++ps.flatten))=chL front pub ps.flatten from rfl,Je] at hk
     have lk:(chL front pub ps.flatten).length=32:=Qdi
     obtain ⟨G2,hG2⟩:∃ X,X=G1++(k1++k2):=⟨_,rfl⟩
     have lG2:G1.length≤G2.length:=by rw [hG2]; simp
     have up:∀ i,i<G1.length→∀ l:List Ob,(G2++l)[i]?=G1[i]? := fun i hi l=>by rw [Qm (by omega),hG2,Qm hi]
     obtain ⟨B,hB,rB⟩:=Qw7
     obtain ⟨X,hX,rX⟩:=T1 rB lb xb
     obtain ⟨NA,hNA,rNA⟩:=Zdr rA
     obtain ⟨Y,hY,rY⟩:=T1 rNA lk Qgj
     obtain ⟨S,dS,hS,ES⟩:=Zbs (H:=G2++[(⟨u8s (chL front pub ps.flatten),true,true,true,1⟩:Ob),⟨ns .u64 [X,Y].flatten,true,true,true,1⟩]) (id:=G2.length+1) (n:=2) (xs:=[X,Y]) rfl (by decide) (.cons rX (.cons rY .nil)) (by rw [Za (by omega),Jh]; rfl)
     simp only [W7,Be,Ze,Je,Q9] at hS
     rw [fold2] at ES
     have hE:=Qgz ES
     have lE:=Rl (W6 (Ys (num 256 back) Un) (Ys (num 256 (chL front pub ps.flatten)) a.neg))
     have g1:=Zeb rX rY
     have q1:=rX.len
     have q2:=rY.len
     have q3:=ES.len
     have hq:=Qc8 lE lf
     have hd:(enc (W6 (Ys (num 256 back) Un) (Ys (num 256 (chL front pub ps.flatten)) a.neg))==front)=decide (W6 (Ys (num 256 back) Un) (Ys (num 256 (chL front pub ps.flatten)) a.neg)=r):=by rw [←eR,Qg0]
     rw [hd] at hq
     have uA:=fun l=>(up _ (by omega) l).trans gA
     have uf:=fun l=>(up _ (by omega) l).trans gf
     have ub:=fun l=>(up _ (by omega) l).trans gb
     have f2:fillL [Value.slice none 0 0,.slice none 0 0] [(0,1,.slice (some ⟨H.length+3,0,none⟩) 32 32),(1,1,.slice (some ⟨H.length,0,none⟩) 32 32)]=some [.slice (some ⟨H.length+3,0,none⟩) 32 32,.slice (some ⟨H.length,0,none⟩) 32 32]:=rfl
     have F1:H++[(⟨u8s pub,true,true,true,1⟩:Ob),⟨u8s (front++back),true,true,true,1⟩,⟨ns .u64 A,true,true,true,1⟩,⟨u8s front,true,true,true,1⟩,⟨u8s back,true,true,true,1⟩,⟨ns .u64 R,true,true,true,1⟩,⟨[.slice (some ⟨H.length+3,0,none⟩) 32 32,.slice (some ⟨H.length,0,none⟩) 32 32],true,true,true,1⟩]=G1:=hG1.symm
     have F2:G1++(k1++k2)=G2:=hG2.symm
     have im1:Jp H.length [] [G2.length]=[]:=Xu (by simp; omega)
     have hfr:∀ l:List Ob,∃ l',G2++l=H++l':=fun l=>⟨_,by rw [hG2,hG1,Je,Je]⟩
     by_cases hfin:W6 (Ys (num 256 back) Un) (Ys (num 256 (chL front pub ps.flatten)) a.neg)=r
     ·rw [decide_eq_true hfin] at hq
      have hx:∃ l,Yd T 27 [.agg (u8s pub).toArray,.agg (u8s (front++back)).toArray,pv] H=some (.int .i64 0,G2++l,[]):=by
       clear hG1 hG2 hd up hfr
       generalize front++back=SG,dig 256 32 0=Z,chL front pub ps.flatten=Ck at *
       generalize enc (W6 (Ys (num 256 back) Un) (Ys (num 256 Ck) a.neg))=E at *
       apply Zu
       rw [Zz (fn:=Qja) rfl]
       simp only [Qja,↓Zm,Zw,quiet,cF,↓pF,reduceCtorEq,Qb,Qq,Zj,Zd,Zg,Zc,Q8,Qf,Q0,Qe,Qz,Q6,Q5,↓Zo,↓Zl,↓Zq,↓Zt,↓Zr,↓Zs,cL,Qp,Qo,Qy,Qx,Qv,Ql,Qk,Qw,Qc,Q1,Q2,Qr,Qg,Qi,Qh,Qu,Qt,Qs,Qn,Qd,cJ,hz,hz20,hA,t1,t2,ht,hcv,hR,f2,F1,ha1,hk,F2,im1,hB,hX,hNA,hY,g1,hS,hE,hq,uA,uf,ub,Jf,Jt,Ku,Ju,J0,Zv,lp,lf,lb,lS,lz,lO,lk,lE,p1,p2,q1,q2,q3,Ji,Q4,rft,Ko]
       rfl
      obtain ⟨l,hx⟩:=hx
      obtain ⟨l',hl'⟩:=hfr l
      rw [hl'] at hx
      exact ⟨l',0,hx,.inr ⟨a,eA,.inr ⟨htiny,hc,.inr ⟨r,eR,by rw [if_pos hfin]⟩⟩⟩⟩
     ·rw [decide_eq_false hfin] at hq
      have hx:∃ l,Yd T 27 [.agg (u8s pub).toArray,.agg (u8s (front++back)).toArray,pv] H=some (.int .i64 70,G2++l,[]):=by
       clear hG1 hG2 hd up hfr
       generalize front++back=SG,dig 256 32 0=Z,chL front pub ps.flatten=Ck at *
       generalize enc (W6 (Ys (num 256 back) Un) (Ys (num 256 Ck) a.neg))=E at *
       apply Zu
       rw [Zz (fn:=Qja) rfl]
       simp only [Qja,↓Zm,Zw,quiet,cF,↓pF,reduceCtorEq,Qb,Qq,Zj,Zd,Zg,Zc,Q8,Qf,Q0,Qe,Qz,Q6,Q5,↓Zo,↓Zl,↓Zq,↓Zt,↓Zr,↓Zs,cL,Qp,Qo,Qy,Qx,Qv,Ql,Qk,Qw,Qc,Q1,Q2,Qr,Qg,Qi,Qh,Qu,Qt,Qs,Qn,Qd,cJ,hz,hz20,hA,t1,t2,ht,hcv,hR,f2,F1,ha1,hk,F2,im1,hB,hX,hNA,hY,g1,hS,hE,hq,uA,uf,ub,Jf,Jt,Ku,Ju,J0,Zv,lp,lf,lb,lS,lz,lO,lk,lE,p1,p2,q1,q2,q3,Ji,Q4,rft,Ko]
       rfl
      obtain ⟨l,hx⟩:=hx
      obtain ⟨l',hl'⟩:=hfr l
      rw [hl'] at hx
      exact ⟨l',70,hx,.inr ⟨a,eA,.inr ⟨htiny,hc,.inr ⟨r,eR,by rw [if_neg hfin]⟩⟩⟩⟩
    ·unfold Qa8 at hR
     have hx:∃ l,Yd T 27 [.agg (u8s pub).toArray,.agg (u8s (front++back)).toArray,pv] H=some (.int .i64 70,H++l,[]):=by
      generalize front++back=S,dig 256 32 0=Z at *
      apply Zu
      rw [Zz (fn:=Qja) rfl]
      simp only [Qja,↓Zm,Zw,quiet,cF,↓pF,reduceCtorEq,Qb,Qq,Zj,Zd,Zg,Zc,Q8,Qf,Q0,Qe,Qz,Q6,Q5,↓Zo,↓Zl,↓Zq,↓Zt,↓Zr,↓Zs,cL,Qp,Qo,Qy,Qx,Qv,Ql,Qk,Qw,Qc,Q1,Q2,Qr,Qg,Qi,Qh,Qu,Qt,Qs,Qn,Qd,cJ,hz,hz20,hA,t1,t2,ht,hcv,hR,lR,Jf,Jt,Ku,Ju,J0,Zv,lp,lf,lb,lS,lz,lO,p1,Ji,Q4,rft,Ko]
      rfl
     obtain ⟨l,hx⟩:=hx
     exact ⟨l,70,hx,.inr ⟨a,eA,.inr ⟨htiny,hc,.inl ⟨hnR,rfl⟩⟩⟩⟩
   ·rw [decide_eq_false hc] at hcv
    have hx:∃ l,Yd T 27 [.agg (u8s pub).toArray,.agg (u8s (front++back)).toArray,pv] H=some (.int .i64 70,H++l,[]):=by
     generalize front++back=S,dig 256 32 0=Z at *
     apply Zu
     rw [Zz (fn:=Qja) rfl]
     simp only [Qja,↓Zm,Zw,quiet,cF,↓pF,reduceCtorEq,Qb,Qq,Zj,Zd,Zg,Zc,Q8,Qf,Q0,Qe,Qz,Q6,Q5,↓Zo,↓Zl,↓Zq,↓Zt,↓Zr,↓Zs,cL,Qp,Qo,Qy,Qx,Qv,Ql,Qk,Qw,Qc,Q1,Q2,Qr,Qg,Qi,Qh,Qu,Qt,Qs,Qn,Qd,cJ,hz,hz20,hA,t1,t2,ht,hcv,Jf,Jt,Ku,Ju,J0,Zv,lp,lf,lb,lS,lz,lO,p1,Ji,Q4,rft,Ko]
     rfl
    obtain ⟨l,hx⟩:=hx
    exact ⟨l,70,hx,.inr ⟨a,eA,.inl ⟨.inr hc,rfl⟩⟩⟩
 ·unfold Qa8 at hA
  have hx:Yd T 27 [.agg (u8s pub).toArray,.agg (u8s (front++back)).toArray,pv] H=some (.int .i64 60,H++[⟨u8s pub,true,true,true,1⟩,⟨u8s (front++back),true,true,true,1⟩,⟨ns .u64 A,true,true,true,1⟩],[]):=by
   generalize front++back=S,dig 256 32 0=Z at *
   rw [Zz (fn:=Qja) rfl]
   simp only [Qja,↓Zm,Zw,quiet,cF,↓pF,reduceCtorEq,Qb,Qq,Zj,Zd,Zg,Zc,Q8,Qf,Q0,Qe,Qz,Q6,Q5,↓Zo,↓Zl,↓Zq,↓Zt,↓Zr,↓Zs,cL,Qp,Qo,Qy,Qx,Qv,Ql,Qk,Qw,Qc,Q1,Q2,Qr,Qg,Qi,Qh,Qu,Qt,Qs,Qn,Qd,cJ,hz,hz20,hA,t1,t2,Jf,Jt,Ku,Ju,J0,Zv,lp,lS,lz,lO,lA,Ji,Q4,rft,Ko]
  exact ⟨_,60,hx,.inl ⟨hno,rfl⟩⟩
end Go.Ev.YtpgphpkjlpkcbaaGreat
namespace Go.Ev.YtpgphpkjlpkcbaaGreat
open Go Go.Ev
open Go.NT (Pr)
set_option maxRecDepth 100000
theorem lp1:Pr 531581:=Go.NT.Hp (f:=729) (by decide) (by decide) (by decide +kernel)
theorem lp2:Pr 1224481:=Go.NT.Hp (f:=1106) (by decide) (by decide) (by decide +kernel)
theorem lp3:Pr 1257559732178653:=Go.NT.Qbz (q:=531581) (k:=2365697292) (a:=2) (q2:=1224481) (k2:=1027014492) (a2:=2) (f:=51) lp1 lp2 (by decide +kernel)
theorem lp4:Pr 4434155615661930479:=Go.NT.Rv (q:=1257559732178653) (k:=3526) (a:=2) (f:=62) lp3 (by decide +kernel)
theorem lp5:Pr 172054593956031949258510691:=Go.NT.Rv (q:=4434155615661930479) (k:=38802110) (a:=2) (f:=88) lp4 (by decide +kernel)
theorem lp6:Pr 19757330305831588566944191468367130476339:=Go.NT.Rv (q:=172054593956031949258510691) (k:=114831751082918) (a:=2) (f:=134) lp5 (by decide +kernel)
theorem lp7:Pr 276602624281642239937218680557139826668747:=Go.NT.Rv (q:=19757330305831588566944191468367130476339) (k:=14) (a:=2) (f:=138) lp6 (by decide +kernel)
theorem Qi0:Pr ell:=Go.NT.Rv (q:=276602624281642239937218680557139826668747) (k:=26163907866482859529727157400808004) (a:=2) (f:=253) lp7 (by decide +kernel)
theorem Zbo:Un≠Bt:=fun h=>Qww (by rw [h,Qoq])
theorem Qej (p:Go.Cv.Pt Go.Fp.P Go.Fp.d):Ys 1 p=p:=Go.Cv.mul_one Go.Fp.fld p
theorem Qil {n:Nat} (h:Ys n Un=Bt):ell∣n:=by
 refine Classical.byContradiction fun hn => ?_
 have hf:=Go.NT.Qiy Qi0 hn
 apply Zbo
 have e1:ell-1=(ell-2)+1:=by decide +kernel
 have h2:n^(ell-1)=n^(ell-2)*n:=by rw [e1,Kv]
 have h3:Ys (n^(ell-1)) Un=Bt:=by rw [h2,Qgm,h,Qoq]
 rw [←Qsl Qtz,hf,Qej] at h3
 exact h3
theorem Qys (n:Nat) (h:ell∣8*n):ell∣n:=by
 have hc:Zf1 ell 8:=Go.NT.Pr.coprime Qi0 (by decide +kernel)
 exact hc.dvd_of_dvd_mul_left h
theorem Qpp {a:List Nat} {x y:Nat} (la:a.length=32) (xa:∀ z∈a,z<256) (hx:a[0]?=some x) (hy:a[31]?=some y):num 256 (Hd a x y)%8=0∧2^254≤num 256 (Hd a x y)∧num 256 (Hd a x y)<2^255:=by
 have hx':=xa x (Zp hx)
 have hy':=xa y (Zp hy)
 obtain ⟨t,ht⟩:∃ t,a=x::t:=by
  cases a with
  | nil=>simp at hx
  | cons z t=>simp at hx; subst hx; exact ⟨t,rfl⟩
 have e8:x&&&248=x/8*8:=(by decide +kernel:∀ v,v<256→v&&&248=v/8*8) x hx'
 have e64:(y&&&127)|||64=y%64+64:=(by decide +kernel:∀ v,v<256→(v&&&127)|||64=v%64+64) y hy'
 have h1:=Dl (B:=256) (x&&&248) hx
 have hy2:(a.set 0 (x&&&248))[31]?=some y:=by rw [Z4 (by decide)]; exact hy
 have h2:=Dl (B:=256) ((y&&&127)|||64) hy2
 have hV:=num_lt xa
 rw [la] at hV
 have hg:=G8 (by decide:0<256) xa hy
 have hm:num 256 a%256=x:=by
  have:=G8 (by decide:0<256) xa hx
  rwa [Yv,Ww] at this
 unfold Hd
 rw [e8] at h1 h2 ⊢
 rw [e64] at h2 ⊢
 have e31:(256:Nat)^31=452312848583266388373324160190187140051835877600158453279131187530910662656:=by decide
 have e32:(256:Nat)^32=115792089237316195423570985008687907853269984665640564039457584007913129639936:=by decide
 have e254:(2:Nat)^254=28948022309329048855892746252171976963317496166410141009864396001978282409984:=by decide
 have e255:(2:Nat)^255=57896044618658097711785492504343953926634992332820282019728792003956564819968:=by decide
 rw [Yv,Kh,Kh] at h1
 rw [e31] at h2 hg
 rw [e32] at hV
 rw [e254,e255]
 generalize num 256 ((a.set 0 (x/8*8)).set 31 (y%64+64))=N2,num 256 (a.set 0 (x/8*8))=N1,num 256 a=N at *
 have hyq:N/452312848583266388373324160190187140051835877600158453279131187530910662656=y:=by omega
 have hdm:=Ya N 452312848583266388373324160190187140051835877600158453279131187530910662656
 rw [hyq] at hdm
 have hmlt:=Jo N (by decide:0<452312848583266388373324160190187140051835877600158453279131187530910662656)
 have hlow:N%452312848583266388373324160190187140051835877600158453279131187530910662656%256=x:=by omega
 generalize N%452312848583266388373324160190187140051835877600158453279131187530910662656=M at *
 refine ⟨?_,?_,?_⟩<;>omega
theorem Q78 (s:List Nat):num 256 (scL s)%8=0∧2^254≤num 256 (scL s)∧num 256 (scL s)<2^255:=by
 obtain ⟨x,g0,d0,lx⟩:=Qia s (i:=0) (by decide)
 obtain ⟨z,g31,d31,lz⟩:=Qia s (i:=31) (by decide)
 unfold scL
 rw [d0,d31]
 exact Qpp (by rw [Js,Mx]; rfl) (fun y hy=>Qfp s y (Ki hy)) (by rw [Ks,if_pos (by decide)]; exact g0) (by rw [Ks,if_pos (by decide)]; exact g31)
theorem Q22 (s:List Nat):¬ ell∣num 256 (scL s):=by
 obtain ⟨h1,h2,h3⟩:=Q78 s
 generalize num 256 (scL s)=a at *
 intro hd
 obtain ⟨k,rfl⟩:=hd
 have h7:k<8:=Nat.lt_of_mul_lt_mul_left (a:=ell) (Uc h3 (by decide +kernel))
 have h0:0<k:=by
  rcases Wl k with h | h
  ·rw [h,Tf] at h2
   exact absurd h2 (by decide)
  ·exact h
 have hm:ell*k%8=(ell%8)*k%8:=by rw [Qb3]
 have he:ell%8=5:=by decide +kernel
 rw [hm,he] at h1
 clear h2 h3 hm he
 omega
end Go.Ev.YtpgphpkjlpkcbaaGreat
namespace Go.Ev.YtpgphpkjlpkcbaaGreat
open Go Go.Ev
set_option maxRecDepth 100000
theorem Qty {p q:Go.Cv.Pt Go.Fp.P Go.Fp.d} (h:enc p=enc q):p=q:=by
 have:=Qg0 p q
 rw [h] at this
 simp at this
 exact this
theorem Qsk (k:Nat) (p:Go.Cv.Pt Go.Fp.P Go.Fp.d):Ys k p.neg=(Ys k p).neg:=Go.Cv.mul_neg Go.Fp.fld k p
theorem Q75 {s m:List Nat} {c:Int} (h:Qhv (Rt s) (frL s m) (bkL s m) m c):c=0:=by
 have hA:enc (Ys (num 256 (scL s)) Un)=Rt s:=rfl
 have hR:enc (Ys (num 256 (rL s m)) Un)=frL s m:=rfl
 have hb:num 256 (bkL s m)=(num 256 (chL (frL s m) (Rt s) m)*num 256 (scL s)+num 256 (rL s m))%ell:=Zdo _ _ _
 have hnt:Ys 8 (Ys (num 256 (scL s)) Un)≠Bt:=fun h=>Q22 s (Qys _ (Qil (by rw [Qgm]; exact h)))
 have hblt:num 256 (bkL s m)<ell:=by rw [hb]; exact Jo _ Qg2
 rcases h with ⟨h,-⟩ | ⟨A,eA,h⟩
 ·exact absurd hA (h _)
 ·have e1:=Qty (eA.trans hA.symm)
  rw [e1] at h
  rcases h with h | h
  ·obtain ⟨h,-⟩:=h
   cases h with
   | inl h=>exact absurd h hnt
   | inr h=>exact absurd hblt h
  ·have h:=h.2.2
   rcases h with ⟨h,-⟩ | ⟨R,eR,h⟩
   ·exact absurd hR (h _)
   ·have e2:=Qty (eR.trans hR.symm)
    rw [e2] at h
    rw [h,if_pos]
    rw [hb,Qsl Qtz,Qsm,Qgm,Qsk]
    generalize num 256 (chL (frL s m) (Rt s) m)=k
    generalize Ys k (Ys (num 256 (scL s)) Un)=X
    rw [Qbs X,Tw,Qgo,Qvy]
end Go.Ev.YtpgphpkjlpkcbaaGreat
namespace Go.Ev.YtpgphpkjlpkcbaaGreat
open Go Go.Ev Go.Fp
abbrev PtE:=Go.Cv.Pt Go.Fp.P Go.Fp.d
theorem Qfx {a b:Fe} (h:a*b=0):a=0∨b=0:=Go.Cv.Fld.dom fld h
theorem D8 {a b:Fe} (ha:a≠0) (hb:b≠0):a*b≠0:=Go.Cv.Fld.mul_ne fld ha hb
theorem D3 {a b c:Fe} (ha:a≠0) (h:a*b=a*c):b=c:=Go.Cv.Fld.cancel fld ha h
theorem Zcd:(121666:Fe)*d = -121665:=by decide +kernel
theorem Q9q:(121666:Fe)≠0:=by decide +kernel
theorem Qiz:(2:Fe)≠0:=Q2l
theorem Q6u:(1:Fe)+d≠0:=by decide +kernel
theorem Q4m {x y:Fe} (h:Go.Cv.On d x y):1+d*y*y≠0:=fun h0=>by
 have h1:y*y=1:=by
  unfold Go.Cv.On at h
  have:x*x*(1+d*y*y)=y*y-1:=by grobner
  rw [h0] at this
  grobner
 exact Q6u (by grobner)
def dbX (X Z:Fe):Fe:=(X+Z)*(X+Z)*((X-Z)*(X-Z))
def dbZ (X Z:Fe):Fe:=((X+Z)*(X+Z)-(X-Z)*(X-Z))*((X+Z)*(X+Z)+121665*((X+Z)*(X+Z)-(X-Z)*(X-Z)))
def adL (X Z X' Z':Fe):Fe:=(X'-Z')*(X+Z)
def adR (X Z X' Z':Fe):Fe:=(X'+Z')*(X-Z)
def adX (X Z X' Z':Fe):Fe:=(adL X Z X' Z'+adR X Z X' Z')*(adL X Z X' Z'+adR X Z X' Z')
def adZ (u X Z X' Z':Fe):Fe:=u*((adL X Z X' Z'-adR X Z X' Z')*(adL X Z X' Z'-adR X Z X' Z'))
def Fr (X Z:Fe) (p:PtE):Prop:=∃ l:Fe,l≠0∧X=l*(1+p.y)∧Z=l*(1-p.y)
theorem Q8v {l:Fe} (h:l≠0):l*l*(l*l)≠0:=D8 (D8 h h) (D8 h h)
theorem fe_n8:(8:Fe)≠0:=by decide +kernel
theorem dbl1 {x y D E y3:Fe} (hxE:x*x*E=y*y-1) (hE:E=1+d*y*y) (hD:D=1-d*x*x*y*y) (hy:y3*D=y*y+x*x) (hde:(121666:Fe)*d = -121665):121666*((1+y3)*D*E)=2*(y*y):=by
 have e1:(1+y3)*D*E=(D+(y*y+x*x))*E:=by clear hxE hE hD hde; grobner
 have e2:(1-d*x*x*y*y+(y*y+x*x))*E=(1+y*y)*E+(x*x*E)*(1-d*y*y):=by clear hxE hE hD hde hy e1; grobner
 rw [e1,hD,e2,hxE,hE]
 clear e1 e2 hxE hE hD hy
 grobner
theorem dbl2 {x y D E y3:Fe} (hxE:x*x*E=y*y-1) (hE:E=1+d*y*y) (hD:D=1-d*x*x*y*y) (hy:y3*D=y*y+x*x):(1-y3)*D*E=2*((1-y*y)*E):=by
 have e1:(1-y3)*D*E=(D-(y*y+x*x))*E:=by clear hxE hE hD; grobner
 have e2:(1-d*x*x*y*y-(y*y+x*x))*E=(1-y*y)*E-(x*x*E)*(1+d*y*y):=by clear hxE hE hD hy e1; grobner
 rw [e1,hD,e2,hxE,←hE]
 clear e1 e2 hxE hE hD hy
 grobner
theorem dbl3 (l y w:Fe) (D E y3:Fe) (h:w*((1+y3)*D*E)=2*(y*y)):dbX (l*(1+y)) (l*(1-y))=8*(l*l*(l*l))*(w*(D*E))*(1+y3):=by
 have:8*(l*l*(l*l))*(w*(D*E))*(1+y3)=8*(l*l*(l*l))*(w*((1+y3)*D*E)):=by clear h; grobner
 rw [this,h]
 unfold dbX
 clear this h
 grobner
theorem dbl4 (l y:Fe) (D E y3:Fe) (h:(1-y3)*D*E=2*((1-y*y)*E)) (hE:E=1+d*y*y) (hde:(121666:Fe)*d = -121665):dbZ (l*(1+y)) (l*(1-y))=8*(l*l*(l*l))*(121666*(D*E))*(1-y3):=by
 have:8*(l*l*(l*l))*(121666*(D*E))*(1-y3)=8*(l*l*(l*l))*121666*((1-y3)*D*E):=by clear h hE hde; grobner
 rw [this,h,hE]
 unfold dbZ
 clear this h hE
 grobner
theorem Qpi {X Z:Fe} {p:PtE} (h:Fr X Z p):Fr (dbX X Z) (dbZ X Z) (W6 p p):=by
 obtain ⟨l,hl,rfl,rfl⟩:=h
 have hon:=p.on
 have hy:=Go.Cv.Qb1 fld p p
 have hD:=Go.Cv.Fld.denM fld hon hon
 have hD2:=Q4m hon
 have hxE:p.x*p.x*(1+d*p.y*p.y)=p.y*p.y-1:=by
  unfold Go.Cv.On at hon
  clear hy hD hD2
  grobner
 have h1:=dbl1 hxE rfl rfl (y3:=(W6 p p).y) hy Zcd
 have h2:=dbl2 hxE rfl rfl (y3:=(W6 p p).y) hy
 exact ⟨8*(l*l*(l*l))*(121666*((1-d*p.x*p.x*p.y*p.y)*(1+d*p.y*p.y))),D8 (D8 fe_n8 (Q8v hl)) (D8 Q9q (D8 hD hD2)),dbl3 l p.y _ _ _ _ h1,dbl4 l p.y _ _ _ h2 rfl Zcd⟩
theorem fr_of {X Z:Fe} {y3:Fe} (hc:X*(1-y3)=Z*(1+y3)) (hn:X≠0∨Z≠0):∃ l:Fe,l≠0∧X=l*(1+y3)∧Z=l*(1-y3):=by
 by_cases h1:1+y3=0
 ·have h2:1-y3≠0:=fun h=>Qiz (by
   have e:(2:Fe)=(1+y3)+(1-y3):=by clear h h1 hc hn; grobner
   rw [e,h1,h]; rfl)
  have hX:X=0:=by
   rcases Qfx (a:=X) (b:=1-y3) (by rw [hc,h1]; grobner) with h | h
   ·exact h
   ·exact absurd h h2
  have hZ:Z≠0:=by
   rcases hn with h | h
   ·exact absurd hX h
   ·exact h
  have hi:=Dz h2
  refine ⟨Z*iv (1-y3),D8 hZ (fun h=>Mk (by grobner)),?_,?_⟩
  ·rw [hX,h1]; grobner
  ·grobner
 ·have hi:=Dz h1
  have hZ:Z=X*iv (1+y3)*(1-y3):=by
   apply D3 h1
   grobner
  have hX:X≠0:=fun h=>by
   rcases hn with h' | h'
   ·exact h' h
   ·exact h' (by rw [hZ,h]; grobner)
  exact ⟨X*iv (1+y3),D8 hX (fun h=>Mk (by grobner)),by grobner,hZ⟩
theorem add1 {y1 y2 a b E:Fe} (ha:a=y1*y2) (hE:E=(1+d*y1*y1)*(1+d*y2*y2)) (hbE:b*b*E=(y1*y1-1)*(y2*y2-1)) (hEn:E≠0) :
  (y1+y2)*(y1+y2)*((1-a)*(1-a)-b*b*((1+d*a)*(1+d*a)))=(y2-y1)*(y2-y1)*((1+a)*(1+a)-b*b*((1-d*a)*(1-d*a))):=by
 apply D3 hEn
 have e1:E*((y1+y2)*(y1+y2)*((1-a)*(1-a)-b*b*((1+d*a)*(1+d*a))))=(y1+y2)*(y1+y2)*(E*((1-a)*(1-a))-b*b*E*((1+d*a)*(1+d*a))):=by clear ha hE hbE hEn; grobner
 have e2:E*((y2-y1)*(y2-y1)*((1+a)*(1+a)-b*b*((1-d*a)*(1-d*a))))=(y2-y1)*(y2-y1)*(E*((1+a)*(1+a))-b*b*E*((1-d*a)*(1-d*a))):=by clear ha hE hbE hEn e1; grobner
 rw [e1,e2,hbE,hE,ha]
 clear e1 e2 ha hE hbE hEn
 grobner
theorem add2 {y3 y4 a b e u s t:Fe} (g3:y3*(1-e)=a+b) (g4:y4*(1+e)=a-b) (n3:1-e≠0) (n4:1+e≠0) (n5:1-y4≠0) (hu:u*(1-y4)=1+y4)
  (key:s*((1-a)*(1-a)-(b+e)*(b+e))=t*((1+a)*(1+a)-(b-e)*(b-e))):s*(1-y3)=u*t*(1+y3):=by
 have f1:(1-y4)*(1+e)=1+e-a+b:=by clear g3 n3 n4 n5 hu key; grobner
 have f2:(1+y4)*(1+e)=1+e+a-b:=by clear g3 n3 n4 n5 hu key f1; grobner
 have f3:(1-y3)*(1-e)=1-e-a-b:=by clear g4 n3 n4 n5 hu key f1 f2; grobner
 have f4:(1+y3)*(1-e)=1-e+a+b:=by clear g4 n3 n4 n5 hu key f1 f2 f3; grobner
 apply D3 n5
 apply D3 n3
 apply D3 n4
 have e1:(1+e)*((1-e)*((1-y4)*(s*(1-y3))))=s*(((1-y4)*(1+e))*((1-y3)*(1-e))):=by clear g3 g4 n3 n4 n5 hu key f1 f2 f3 f4; grobner
 have e2:(1+e)*((1-e)*((1-y4)*(u*t*(1+y3))))=t*((u*(1-y4))*(1+e)*((1+y3)*(1-e))):=by clear g3 g4 n3 n4 n5 hu key f1 f2 f3 f4 e1; grobner
 rw [e1,e2,hu,f1,f2,f3,f4]
 clear e1 e2 f1 f2 f3 f4 g3 g4 hu n3 n4 n5
 grobner
theorem Q56 {X Z X' Z' u:Fe} {p q:PtE} (h1:Fr X Z p) (h2:Fr X' Z' q) (hu:u*(1-(W6 q p.neg).y)=1+(W6 q p.neg).y) (hu0:u≠0) (hf:(W6 q p.neg).y≠1) :
  Fr (adX X Z X' Z') (adZ u X Z X' Z') (W6 p q):=by
 obtain ⟨l,hl,rfl,rfl⟩:=h1
 obtain ⟨m,hm,rfl,rfl⟩:=h2
 have on1:=p.on
 have on2:=q.on
 have hy3:=Go.Cv.Qb1 fld p q
 have hy4:=Go.Cv.Qb1 fld q p.neg
 have hD3:=Go.Cv.Fld.denM fld on1 on2
 have hD4:=Go.Cv.Fld.denP fld on1 on2
 have hE1:=Q4m on1
 have hE2:=Q4m on2
 unfold Go.Cv.On at on1 on2
 generalize hg3:(W6 p q).y=y3
 generalize hg4:(W6 q p.neg).y=y4 at hu hf
 rw [show (Go.Cv.Pt.add fld p q).y=y3 from hg3] at hy3
 rw [show (Go.Cv.Pt.add fld q p.neg).y=y4 from hg4] at hy4
 have hnx:p.neg.x = -p.x:=rfl
 have hny:p.neg.y=p.y:=rfl
 rw [hnx,hny] at hy4
 rw [Fr,hg3]
 clear hg3 hg4 hnx hny
 generalize p.x=x1,p.y=y1,q.x=x2,q.y=y2 at *
 have k1:x1*x1*(1+d*y1*y1)=y1*y1-1:=by clear on2 hy3 hy4 hD3 hD4 hE1 hE2 hu hu0 hf hl hm; grobner
 have k2:x2*x2*(1+d*y2*y2)=y2*y2-1:=by clear on1 hy3 hy4 hD3 hD4 hE1 hE2 hu hu0 hf hl hm k1; grobner
 have g3:y3*(1-d*(y1*y2)*(x1*x2))=y1*y2+x1*x2:=by clear on1 on2 hy4 hD3 hD4 hE1 hE2 hu hu0 hf hl hm k1 k2; grobner
 have g4:y4*(1+d*(y1*y2)*(x1*x2))=y1*y2-x1*x2:=by clear on1 on2 hy3 hD3 hD4 hE1 hE2 hu hu0 hf hl hm k1 k2 g3; grobner
 have n3:1-d*(y1*y2)*(x1*x2)≠0:=fun h=>hD3 (by rw [←h]; clear on1 on2 hy3 hy4 hD3 hD4 hE1 hE2 hu hu0 hf hl hm k1 k2 g3 g4 h; grobner)
 have n4:1+d*(y1*y2)*(x1*x2)≠0:=fun h=>hD4 (by rw [←h]; clear on1 on2 hy3 hy4 hD3 hD4 hE1 hE2 hu hu0 hf hl hm k1 k2 g3 g4 n3 h; grobner)
 have hbE:(x1*x2)*(x1*x2)*((1+d*y1*y1)*(1+d*y2*y2))=(y1*y1-1)*(y2*y2-1):=by
  rw [←k1,←k2]
  clear on1 on2 hy3 hy4 hD3 hD4 hE1 hE2 hu hu0 hf hl hm k1 k2 g3 g4 n3 n4
  grobner
 have key:=add1 (a:=y1*y2) rfl rfl hbE (D8 hE1 hE2)
 have n5:1-y4≠0:=fun h=>hf (by clear on1 on2 hy3 hy4 hD3 hD4 hE1 hE2 hu hu0 hf hl hm k1 k2 g3 g4 n3 n4 hbE key; grobner)
 have cross:(y1+y2)*(y1+y2)*(1-y3)=u*((y2-y1)*(y2-y1))*(1+y3):=by
  refine add2 g3 g4 n3 n4 n5 hu ?_
  have e1:(1-y1*y2)*(1-y1*y2)-(x1*x2+d*(y1*y2)*(x1*x2))*(x1*x2+d*(y1*y2)*(x1*x2))=(1-y1*y2)*(1-y1*y2)-x1*x2*(x1*x2)*((1+d*(y1*y2))*(1+d*(y1*y2))):=by
   clear on1 on2 hy3 hy4 hD3 hD4 hE1 hE2 hu hu0 hf hl hm k1 k2 g3 g4 n3 n4 hbE key n5; grobner
  have e2:(1+y1*y2)*(1+y1*y2)-(x1*x2-d*(y1*y2)*(x1*x2))*(x1*x2-d*(y1*y2)*(x1*x2))=(1+y1*y2)*(1+y1*y2)-x1*x2*(x1*x2)*((1-d*(y1*y2))*(1-d*(y1*y2))):=by
   clear on1 on2 hy3 hy4 hD3 hD4 hE1 hE2 hu hu0 hf hl hm k1 k2 g3 g4 n3 n4 hbE key n5 e1; grobner
  rw [e1,e2]
  exact key
 have hnz:(y1+y2)*(y1+y2)≠0∨u*((y2-y1)*(y2-y1))≠0:=by
  clear hbE key cross n3 n4 hD3 hD4 hE1 hE2 hy3 hy4 k1 k2 hl hm g3
  by_cases hs:y1+y2=0
  ·right
   have:y2-y1≠0:=fun h=>by
    have z1:y1=0:=by
     apply D3 Qiz
     clear on1 on2 hu hu0 hf g4 n5
     grobner
    have z2:y2=0:=by
     apply D3 Qiz
     clear on1 on2 hu hu0 hf g4 n5
     grobner
    have q1:x1*x1 = -1:=by clear on2 hu hu0 hf g4 n5 hs h z2; grobner
    have q2:x2*x2 = -1:=by clear on1 hu hu0 hf g4 n5 q1 hs h z1; grobner
    clear hs h on1 on2
    have hbb:(x1*x2-1)*(x1*x2+1)=0:=by clear hu hu0 hf g4 n5 z1 z2; grobner
    have hy4b:y4 = -(x1*x2):=by clear hu hu0 hf n5 q1 q2 hbb; grobner
    clear g4 q1 q2 z1 z2
    rcases Qfx hbb with h' | h'
    ·have:u*2=0:=by clear n5 hf hu0 hbb; grobner
     rcases Qfx this with h | h
     ·exact hu0 h
     ·exact Qiz h
    ·exact n5 (by clear hu hu0 hf hbb; grobner)
   exact D8 hu0 (D8 this this)
  ·exact .inl (D8 hs hs)
 have n16:(16:Fe)*(l*l*(m*m))≠0:=D8 (by decide +kernel) (D8 (D8 hl hl) (D8 hm hm))
 have eX:adX (l*(1+y1)) (l*(1-y1)) (m*(1+y2)) (m*(1-y2))=16*(l*l*(m*m))*((y1+y2)*(y1+y2)):=by unfold adX adL adR; clear on1 on2 hy3 hy4 hD3 hD4 hE1 hE2 hu hu0 hf hl hm k1 k2 g3 g4 n3 n4 hbE key n5 cross hnz n16; grobner
 have eZ:adZ u (l*(1+y1)) (l*(1-y1)) (m*(1+y2)) (m*(1-y2))=16*(l*l*(m*m))*(u*((y2-y1)*(y2-y1))):=by unfold adZ adL adR; clear on1 on2 hy3 hy4 hD3 hD4 hE1 hE2 hu hu0 hf hl hm k1 k2 g3 g4 n3 n4 hbE key n5 cross hnz n16 eX; grobner
 rw [eX,eZ]
 refine fr_of ?_ ?_
 ·have e1:16*(l*l*(m*m))*((y1+y2)*(y1+y2))*(1-y3)=16*(l*l*(m*m))*((y1+y2)*(y1+y2)*(1-y3)):=by clear on1 on2 hy3 hy4 hD3 hD4 hE1 hE2 hu hu0 hf hl hm k1 k2 g3 g4 n3 n4 hbE key n5 cross hnz n16 eX eZ; grobner
  rw [e1,cross]
  clear on1 on2 hy3 hy4 hD3 hD4 hE1 hE2 hu hu0 hf hl hm k1 k2 g3 g4 n3 n4 hbE key n5 cross hnz n16 eX eZ e1
  grobner
 ·rcases hnz with h | h
  ·exact .inl (D8 n16 h)
  ·exact .inr (D8 n16 h)
end Go.Ev.YtpgphpkjlpkcbaaGreat
namespace Go.Ev.YtpgphpkjlpkcbaaGreat
open Go Go.Ev
attribute [local congr] W5 Up W4 Uq Wo
set_option maxRecDepth 100000
theorem Zeg:evVal T 73 [.int .u32 121665]=some (eV [121665,0,0,0,0]):=Qef (n:=121665) (by decide)
theorem Za0:El [121665,0,0,0,0] (2^52):=Qbk (by decide)
theorem Zaz:fe [121665,0,0,0,0]=121665:=by rw [Qbj]; rfl
theorem Mg {x y:List Nat} {b:Nat} (hx:El x b) (hy:El y b):Vt 5 (ns .u64 (x++y))=ns .u64 x∧Vt 5 (W0 5 (ns .u64 (x++y)))=ns .u64 y∧(x++y).length=10:=by
 obtain ⟨x0,x1,x2,x3,x4,rfl,-⟩:=hx.five
 obtain ⟨y0,y1,y2,y3,y4,rfl,-⟩:=hy.five
 exact ⟨rfl,rfl,rfl⟩
set_option maxHeartbeats 2000000 in
theorem Qye {ax az bx bz u:List Nat} (Eax:El ax (2^52)) (Eaz:El az (2^52)) (Ebx:El bx (2^52)) (Ebz:El bz (2^52)) (Eu:El u (2^52)) :
  ∃ x z x' z',evVal T 75 [eV (ax++az),eV (bx++bz),eV u]=some (.tuple #[eV (x++z),eV (x'++z')])∧El x (2^52)∧El z (2^52)∧El x' (2^52)∧El z' (2^52) ∧
   fe x=dbX (fe ax) (fe az)∧fe z=dbZ (fe ax) (fe az)∧fe x'=adX (fe ax) (fe az) (fe bx) (fe bz)∧fe z'=adZ (fe u) (fe ax) (fe az) (fe bx) (fe bz):=by
 obtain ⟨cc,hcc⟩:∃ c:List Nat,c=[121665,0,0,0,0]:=⟨_,rfl⟩
 have Ec:El cc (2^52):=by rw [hcc]; exact Za0
 have vc:evVal T 73 [.int .u32 121665]=some (eV cc):=by rw [hcc]; exact Zeg
 have fc:fe cc=121665:=by rw [hcc]; exact Zaz
 clear hcc
 obtain ⟨r1,s1,hr1,Er1,fr1⟩:=Mh (H:=[⟨ns .u64 (ax++az),true,true,true,1⟩,⟨ns .u64 (bx++bz),true,true,true,1⟩,⟨ns .u64 u,true,true,true,1⟩,⟨Qa 10 (.int .u64 0),true,true,true,1⟩,⟨Qa 10 (.int .u64 0),true,true,true,1⟩,⟨ns .u64 (ax++az),true,true,true,1⟩]) (id:=5) Eax Eaz rfl
 simp only [Ze,Q9] at hr1
 obtain ⟨r2,hr2,Er2,fr2⟩:=Qct Eax Eaz
 obtain ⟨r3,hr3,Er3,fr3⟩:=Qct Ebx Ebz
 obtain ⟨r4,hr4,Er4,fr4⟩:=Uw Er3 Er1
 obtain ⟨r5,s5,hr5,Er5,fr5⟩:=Mh (H:=[⟨ns .u64 (ax++az),true,true,true,1⟩,⟨ns .u64 (bx++bz),true,true,true,1⟩,⟨ns .u64 u,true,true,true,1⟩,⟨Qa 10 (.int .u64 0),true,true,true,1⟩,⟨Qa 10 (.int .u64 0),true,true,true,1⟩,⟨ns .u64 (ax++az),true,true,true,1⟩,⟨ns .u64 r1,true,true,true,1⟩,⟨ns .u64 s1,true,true,true,1⟩,⟨ns .u64 ax,true,true,true,1⟩,⟨ns .u64 az,true,true,true,1⟩,⟨ns .u64 r1,true,true,true,1⟩,⟨ns .u64 r2,true,true,true,1⟩,⟨ns .u64 (bx++bz),true,true,true,1⟩]) (id:=12) Ebx Ebz rfl
 simp only [Ze,Q9] at hr5
 obtain ⟨r6,hr6,Er6,fr6⟩:=Uw Er5 Er2
 obtain ⟨r7,hr7,Er7,fr7⟩:=Uw Er1 Er1
 obtain ⟨r8,hr8,Er8,fr8⟩:=Uw Er2 Er2
 obtain ⟨r9,hr9,Er9,fr9⟩:=Qct Er7 Er8
 obtain ⟨r10,s10,hr10,Er10,fr10⟩:=Mh (H:=[⟨ns .u64 (ax++az),true,true,true,1⟩,⟨ns .u64 (bx++bz),true,true,true,1⟩,⟨ns .u64 u,true,true,true,1⟩,⟨Qa 10 (.int .u64 0),true,true,true,1⟩,⟨Qa 10 (.int .u64 0),true,true,true,1⟩,⟨ns .u64 (ax++az),true,true,true,1⟩,⟨ns .u64 r1,true,true,true,1⟩,⟨ns .u64 s1,true,true,true,1⟩,⟨ns .u64 ax,true,true,true,1⟩,⟨ns .u64 az,true,true,true,1⟩,⟨ns .u64 r1,true,true,true,1⟩,⟨ns .u64 r2,true,true,true,1⟩,⟨ns .u64 (bx++bz),true,true,true,1⟩,⟨ns .u64 r5,true,true,true,1⟩,⟨ns .u64 s5,true,true,true,1⟩,⟨ns .u64 bx,true,true,true,1⟩,⟨ns .u64 bz,true,true,true,1⟩,⟨ns .u64 r4,true,true,true,1⟩,⟨ns .u64 r6,true,true,true,1⟩,⟨ns .u64 r7,true,true,true,1⟩,⟨ns .u64 r8,true,true,true,1⟩,⟨ns .u64 r9,true,true,true,1⟩,⟨ns .u64 (r4++r6),true,true,true,1⟩]) (id:=22) Er4 Er6 rfl
 simp only [Ze,Q9] at hr10
 obtain ⟨r11,hr11,Er11,fr11⟩:=Qct Er4 Er6
 obtain ⟨r12,hr12,Er12,fr12⟩:=Uw Er7 Er8
 obtain ⟨r13,hr13,Er13,fr13⟩:=Uw Ec Er9
 obtain ⟨r14,s14,hr14,Er14,fr14⟩:=Mh (H:=[⟨ns .u64 (ax++az),true,true,true,1⟩,⟨ns .u64 (bx++bz),true,true,true,1⟩,⟨ns .u64 u,true,true,true,1⟩,⟨Qa 10 (.int .u64 0),true,true,true,1⟩,⟨Qa 10 (.int .u64 0),true,true,true,1⟩,⟨ns .u64 (ax++az),true,true,true,1⟩,⟨ns .u64 r1,true,true,true,1⟩,⟨ns .u64 s1,true,true,true,1⟩,⟨ns .u64 ax,true,true,true,1⟩,⟨ns .u64 az,true,true,true,1⟩,⟨ns .u64 r1,true,true,true,1⟩,⟨ns .u64 r2,true,true,true,1⟩,⟨ns .u64 (bx++bz),true,true,true,1⟩,⟨ns .u64 r5,true,true,true,1⟩,⟨ns .u64 s5,true,true,true,1⟩,⟨ns .u64 bx,true,true,true,1⟩,⟨ns .u64 bz,true,true,true,1⟩,⟨ns .u64 r4,true,true,true,1⟩,⟨ns .u64 r6,true,true,true,1⟩,⟨ns .u64 r7,true,true,true,1⟩,⟨ns .u64 r8,true,true,true,1⟩,⟨ns .u64 r9,true,true,true,1⟩,⟨ns .u64 (r4++r6),true,true,true,1⟩,⟨ns .u64 r10,true,true,true,1⟩,⟨ns .u64 s10,true,true,true,1⟩,⟨ns .u64 r4,true,true,true,1⟩,⟨ns .u64 r6,true,true,true,1⟩,⟨ns .u64 r10,true,true,true,1⟩,⟨ns .u64 r11,true,true,true,1⟩,⟨ns .u64 (r7++r13),true,true,true,1⟩]) (id:=29) Er7 Er13 rfl
 simp only [Ze,Q9] at hr14
 obtain ⟨r15,hr15,Er15,fr15⟩:=Uw Er9 Er14
 obtain ⟨r16,hr16,Er16,fr16⟩:=Uw Er10 Er10
 obtain ⟨r17,hr17,Er17,fr17⟩:=Qan (H:=[⟨ns .u64 (ax++az),true,true,true,1⟩,⟨ns .u64 (bx++bz),true,true,true,1⟩,⟨ns .u64 u,true,true,true,1⟩,⟨Qa 10 (.int .u64 0),true,true,true,1⟩,⟨Qa 10 (.int .u64 0),true,true,true,1⟩,⟨ns .u64 (ax++az),true,true,true,1⟩,⟨ns .u64 r1,true,true,true,1⟩,⟨ns .u64 s1,true,true,true,1⟩,⟨ns .u64 ax,true,true,true,1⟩,⟨ns .u64 az,true,true,true,1⟩,⟨ns .u64 r1,true,true,true,1⟩,⟨ns .u64 r2,true,true,true,1⟩,⟨ns .u64 (bx++bz),true,true,true,1⟩,⟨ns .u64 r5,true,true,true,1⟩,⟨ns .u64 s5,true,true,true,1⟩,⟨ns .u64 bx,true,true,true,1⟩,⟨ns .u64 bz,true,true,true,1⟩,⟨ns .u64 r4,true,true,true,1⟩,⟨ns .u64 r6,true,true,true,1⟩,⟨ns .u64 r7,true,true,true,1⟩,⟨ns .u64 r8,true,true,true,1⟩,⟨ns .u64 r9,true,true,true,1⟩,⟨ns .u64 (r4++r6),true,true,true,1⟩,⟨ns .u64 r10,true,true,true,1⟩,⟨ns .u64 s10,true,true,true,1⟩,⟨ns .u64 r4,true,true,true,1⟩,⟨ns .u64 r6,true,true,true,1⟩,⟨ns .u64 r10,true,true,true,1⟩,⟨ns .u64 r11,true,true,true,1⟩,⟨ns .u64 (r7++r13),true,true,true,1⟩,⟨ns .u64 r14,true,true,true,1⟩,⟨ns .u64 s14,true,true,true,1⟩,⟨ns .u64 r7,true,true,true,1⟩,⟨ns .u64 r13,true,true,true,1⟩,⟨ns .u64 [u,r11,r11].flatten,true,true,true,1⟩]) (id:=34) (n:=3) (xs:=[u,r11,r11]) rfl (by decide) (by simp only [Wh,W8,or_false]; rintro x (rfl | rfl | rfl)<;>assumption) rfl
 simp only [Ze,Q9,W7,Be,U8,Dq] at hr17 fr17
 refine ⟨r12,r15,r16,r17,?_,Er12,Er15,Er16,Er17,?_,?_,?_,?_⟩
 ·obtain ⟨q1,q2,q3⟩:=Mg Eax Eaz
  obtain ⟨q4,q5,q6⟩:=Mg Ebx Ebz
  obtain ⟨q7,q8,q9⟩:=Mg Er12 Er15
  obtain ⟨q10,q11,q12⟩:=Mg Er16 Er17
  have f1:=T4 Eax Eaz
  have f2:=T4 Ebx Ebz
  have f3:=T4 Er4 Er6
  have f4:=T4 Er7 Er13
  have f5:=T4 Er12 Er15
  have f6:=T4 Er16 Er17
  have f7:=Qpl Eu Er11 Er11
  have Lax:=Eax.len
  have Laz:=Eaz.len
  have Lbx:=Ebx.len
  have Lbz:=Ebz.len
  have Lu:=Eu.len
  have Lr1:=Er1.len
  have Lr2:=Er2.len
  have Lr3:=Er3.len
  have Lr4:=Er4.len
  have Lr5:=Er5.len
  have Lr6:=Er6.len
  have Lr7:=Er7.len
  have Lr8:=Er8.len
  have Lr9:=Er9.len
  have Lr10:=Er10.len
  have Lr11:=Er11.len
  have Lr12:=Er12.len
  have Lr13:=Er13.len
  have Lr14:=Er14.len
  have Lr15:=Er15.len
  have Lr16:=Er16.len
  have Lr17:=Er17.len
  have rt:rf (.tuple #[eV (r12++r15),eV (r16++r17)])=true:=Hw (Ko _) (Ko _)
  apply Jx
  apply Zu
  rw [Zz (fn:=Ze6) rfl]
  simp only [Ze6,↓Zm,Zw,quiet,cF,↓pF,reduceCtorEq,Qb,Qq,Zj,Zd,Zg,Zc,Q8,Qf,Q0,Qe,Qz,Q6,Q5,↓Zo,↓Zl,↓Zq,↓Zt,↓Zr,↓Zs,cL,Qp,Qo,Qy,Qx,Qv,Ql,Qk,Qw,Qc,Q1,Q2,Qr,Qg,Qi,Qh,Qu,Qt,Qs,Qn,Qd,cJ,Q4,Ji,Jf,Jt,Ku,Ju,Ko,J0,q1,q2,q3,q4,q5,q6,q7,q8,q9,q10,q11,q12,f1,f2,f3,f4,f5,f6,f7,vc,rt,hr1,hr2,hr3,hr4,hr5,hr6,hr7,hr8,hr9,hr10,hr11,hr12,hr13,hr14,hr15,hr16,hr17,Lax,Laz,Lbx,Lbz,Lu,Lr1,Lr2,Lr3,Lr4,Lr5,Lr6,Lr7,Lr8,Lr9,Lr10,Lr11,Lr12,Lr13,Lr14,Lr15,Lr16,Lr17]
  rfl
 ·rw [fr12,fr7,fr8,fr1,fr2]; rfl
 ·rw [fr15,fr14,fr13,fr9,fr7,fr8,fr1,fr2,fc]; rfl
 ·rw [fr16,fr10,fr4,fr6,fr3,fr1,fr5,fr2]; rfl
 ·rw [fr17,fr11,fr4,fr6,fr3,fr1,fr5,fr2]
  unfold adZ adL adR
  grobner
def Qve (n p i:Nat) (ex:Env):St:=⟨[(0,.int .i64 n),(3,.int .u64 p),(4,.int .i64 i)]++ex,[],[]⟩
theorem Q8w {n:Nat} (h:n<64):2^n<18446744073709551616:=Nat.pow_lt_pow_right (by decide:1<2) (m:=n) (n:=64) h
theorem Q3e {n i:Nat} (hn:n<64) (hi:i<n):Jl T 0 Qhk (Qve n (2^i) i [])=some (.normal,Qve n (2^(i+1)) (i+1) []):=by
 have e1:((i:Int)<(n:Int))=True:=eq_true (by omega)
 have w1:IntKind.i64.wrap ((i:Int)+1)=((i+1:Nat):Int):=Yi (n:=i+1) (by omega)
 have hlt:2^(i+1)<18446744073709551616:=Q8w (by omega)
 have w2:IntKind.u64.wrap (((2^i:Nat):Int)*2)=((2^(i+1):Nat):Int):=by
  rw [show (((2^i:Nat):Int)*2)=((2^(i+1):Nat):Int) by rw [Kv]; exact (U1 _ _).symm,Qfi,Z5 hlt]
 generalize 2^(i+1)=q,2^i=p at *
 generalize i+1=i1 at *
 simp only [Qve,Qhk,↓Zm,Zw,quiet,cF,↓pF,reduceCtorEq,Qb,Qq,Zj,Zd,Zg,Zc,Q8,Qf,Q0,Qe,Qz,Q6,Q5,↓Zo,↓Zl,↓Zq,↓Zt,↓Zr,↓Zs,cL,Qp,Qo,Qy,Qx,Qv,Ql,Qk,Qw,Qc,Q1,Q2,Qr,Qg,Qi,Qh,Qu,Qt,Qs,Qn,Qd,cJ,e1,w1,w2]
theorem Qli {n:Nat} (hn:n<64):evVal T 144 [.int .i64 n]=some (.int .u64 ((2^n:Nat):Int)):=by
 have hb:=Wf (T:=T) (base:=0) (id:=0) (body:=Qhk) (fun i=>Qve n (2^i) i []) (s':=Qve n (2^n) n [(7,.bool false)]) n
  (fun i hi=>Q3e hn hi) (by
   have e1:((n:Int)<(n:Int))=False:=eq_false (by omega)
   generalize 2^n=p at *
   simp only [Qve,Qhk,↓Zm,Zw,quiet,cF,↓pF,reduceCtorEq,Qb,Qq,Zj,Zd,Zg,Zc,Q8,Qf,Q0,Qe,Qz,Q6,Q5,↓Zo,↓Zl,↓Zq,↓Zt,↓Zr,↓Zs,cL,Qp,Qo,Qy,Qx,Qv,Ql,Qk,Qw,Qc,Q1,Q2,Qr,Qg,Qi,Qh,Qu,Qt,Qs,Qn,Qd,cJ,e1])
 generalize 2^n=p at *
 simp only [Qve,Ze,Q9,Yv,J6,Hr] at hb
 apply Jx
 apply Zu
 rw [Zz (fn:=Zfi) rfl]
 simp only [Zfi,↓Zm,Zw,quiet,cF,↓pF,reduceCtorEq,Qb,Qq,Zj,Zd,Zg,Zc,Q8,Qf,Q0,Qe,Qz,Q6,Q5,↓Zo,↓Zl,↓Zq,↓Zt,↓Zr,↓Zs,cL,Qp,Qo,Qy,Qx,Qv,Ql,Qk,Qw,Qc,Q1,Q2,Qr,Qg,Qi,Qh,Qu,Qt,Qs,Qn,Qd,cJ,hb]
 rfl
theorem Qa0 {x r:Nat} (hx:x<18446744073709551616) (hr:0<r) (hr':r≤63):evVal T 143 [.int .u64 x,.int .i64 r,.int .i64 64]=some (.int .u64 (Ue x r:Nat)):=by
 have h1:=Qli (n:=r) (by omega)
 have h2:=Qli (n:=64-r) (by omega)
 have hsub:IntKind.i64.wrap (64-(r:Int))=((64-r:Nat):Int):=by rw [show (64:Int)-(r:Int)=((64-r:Nat):Int) by omega]; exact Yi (by omega)
 have hp:0<2^r:=Us (by decide)
 have hz:(((2^r:Nat):Int)=0)=False:=eq_false (by omega)
 have hd:((x:Nat):Int).tdiv ((2^r:Nat):Int)=((x/2^r:Nat):Int):=rfl
 have hd':IntKind.u64.wrap ((x/2^r:Nat):Int)=((x/2^r:Nat):Int):=by rw [Qfi,Z5 (Wv (Uj _ _) hx)]
 have hm:IntKind.u64.wrap ((x:Int)*((2^(64-r):Nat):Int))=((x*2^(64-r)%18446744073709551616:Nat):Int):=by rw [←U1,Qfi]
 have hrot:x/2^r+x*2^(64-r)%18446744073709551616=Ue x r:=rfl
 have ha:IntKind.u64.wrap (((x/2^r:Nat):Int)+((x*2^(64-r)%18446744073709551616:Nat):Int))=((Ue x r:Nat):Int):=by
  rw [To,hrot,Z5 (Bu hx hr hr')]
 generalize Ue x r=R,x*2^(64-r)%18446744073709551616=M,x/2^r=D at *
 generalize 2^(64-r)=A,2^r=B at *
 generalize 64-r=q at *
 apply Jx
 apply Zu
 rw [Zz (fn:=Zfj) rfl]
 simp only [Zfj,↓Zm,Zw,quiet,cF,↓pF,reduceCtorEq,Qb,Qq,Zj,Zd,Zg,Zc,Q8,Qf,Q0,Qe,Qz,Q6,Q5,↓Zo,↓Zl,↓Zq,↓Zt,↓Zr,↓Zs,cL,Qp,Qo,Qy,Qx,Qv,Ql,Qk,Qw,Qc,Q1,Q2,Qr,Qg,Qi,Qh,Qu,Qt,Qs,Qn,Qd,cJ,h1,h2,hsub,hz,hd,hd',hm,ha]
 rfl
theorem Ql4 (x:Nat):evVal T 145 [.int .u64 x,.int .i64 64]=some (.int .u64 (x:Nat)):=by
 apply Jx
 apply Zu
 rw [Zz (fn:=Zfh) rfl]
 simp only [Zfh,↓Zm,Zw,quiet,cF,↓pF,reduceCtorEq,Qb,Qq,Zj,Zd,Zg,Zc,Q8,Qf,Q0,Qe,Qz,Q6,Q5,↓Zo,↓Zl,↓Zq,↓Zt,↓Zr,↓Zs,cL,Qp,Qo,Qy,Qx,Qv,Ql,Qk,Qw,Qc,Q1,Q2,Qr,Qg,Qi,Qh,Qu,Qt,Qs,Qn,Qd,cJ]
 rfl
theorem Qkf {a b c:Nat} (ha:a<18446744073709551616) (hb:b<18446744073709551616) (hc:c<18446744073709551616):evVal T 142 [.int .u64 a,.int .u64 b,.int .u64 c]=some (.int .u64 ((a^^^b^^^c:Nat):Int)):=by
 have h1:=Rq ha hb
 have h2:=Rq (Mb ha hb) hc
 generalize a^^^b^^^c=R at *
 generalize a^^^b=q at *
 apply Jx
 apply Zu
 rw [Zz (fn:=Zfk) rfl]
 simp only [Zfk,↓Zm,Zw,quiet,cF,↓pF,reduceCtorEq,Qb,Qq,Zj,Zd,Zg,Zc,Q8,Qf,Q0,Qe,Qz,Q6,Q5,↓Zo,↓Zl,↓Zq,↓Zt,↓Zr,↓Zs,cL,Qp,Qo,Qy,Qx,Qv,Ql,Qk,Qw,Qc,Q1,Q2,Qr,Qg,Qi,Qh,Qu,Qt,Qs,Qn,Qd,cJ,h1,h2]
 rfl
theorem Q1s {e f g:Nat} (he:e<2^64):(e&&&f)|||((2^64-1-e)&&&g)=(e&&&f)^^^(((2^64-1)^^^e)&&&g):=by
 apply Nat.eq_of_testBit_eq
 intro i
 have h1:(2^64-1-e).testBit i=(decide (i<64) && !e.testBit i):=by
  rw [show 2^64-1-e=2^64-(e+1) by omega,Nat.testBit_two_pow_sub_succ he]
 have h2:((2^64-1)^^^e).testBit i=(decide (i<64) ^^ e.testBit i):=by
  rw [Qxd,Nat.testBit_two_pow_sub_one]
 have h3:e.testBit i=true→i<64:=fun h=>by
  rcases Yp i 64 with k | k
  ·exact k
  ·rw [Nat.testBit_lt_two_pow (Xr he (Vr (by decide) k))] at h; cases h
 rw [Qj1,Qxd,Qhw,Qhw,Qhw,h1,h2]
 cases he':e.testBit i<;>cases f.testBit i<;>cases g.testBit i<;>simp_all
theorem Zdz (a b c:Nat):(a&&&b)|||(a&&&c)|||(b&&&c)=maO a b c:=by
 apply Nat.eq_of_testBit_eq
 intro i
 simp only [maO,Qj1,Qxd,Qhw]
 cases a.testBit i<;>cases b.testBit i<;>cases c.testBit i<;>rfl
theorem ch_or {e f g:Nat} (he:e<18446744073709551616):(e&&&f)|||((18446744073709551615-e)&&&g)=chO e f g:=Q1s (e:=e) (f:=f) (g:=g) he
theorem Qzm (H:List Ob):Yd T 141 [] H=some (.slice (some ⟨H.length,0,none⟩) 80 80,H++[⟨ns .u64 Dy,true,true,true,1⟩],[]):=by
 have hf:=Qpd
 have l8:(ns .u64 Dy).length=80:=rfl
 rw [Zz (fn:=Zfl) rfl]
 simp only [Zfl,↓Zm,Zw,quiet,cF,↓pF,reduceCtorEq,Qb,Qq,Zj,Zd,Zg,Zc,Q8,Qf,Q0,Qe,Qz,Q6,Q5,↓Zo,↓Zl,↓Zq,↓Zt,↓Zr,↓Zs,cL,Qp,Qo,Qy,Qx,Qv,Ql,Qk,Qw,Qc,Q1,Q2,Qr,Qg,Qi,Qh,Qu,Qt,Qs,Qn,Qd,cJ,hf,l8]
def shC (sv:Value):List Value:=[.int .i64 64,.int .i64 80,.int .i64 128,sv,.int .i64 1,.int .i64 8,.int .i64 7,.int .i64 19,.int .i64 61,.int .i64 6,.int .i64 28,.int .i64 34,.int .i64 39,.int .i64 14,.int .i64 18,.int .i64 41]
theorem shC_0 (sv:Value):(shC sv)[0]?=some (.int .i64 64):=rfl
theorem Qoj (sv:Value):(shC sv)[1]?=some (.int .i64 80):=rfl
theorem Zb3 (sv:Value):(shC sv)[2]?=some (.int .i64 128):=rfl
theorem shC_3 (sv:Value):(shC sv)[3]?=some sv:=rfl
theorem Qxt (sv:Value):(shC sv).length=16:=rfl
def rzI (B:Nat) (x s:Value) (Hc:List Ob) (ex:Env):St:=⟨[(0,x),(3,.pointer (some ⟨B,0,none⟩)),(5,.int .i64 8),(6,s)]++ex,Hc,[]⟩
theorem Q29 {B N:Nat} {x sv s0:Value} {H1 Hc0:List Ob} {bs:List Nat} (hBN:B<N) (hh:H1[B]?=some ⟨shC sv,true,true,true,1⟩) (hn:bs.length<2^46) (hg0:Grown .u8 N Hc0 s0 (bs++[128])) (hL0:N≤Hc0.length) (hF0:∀ i,i<N→Hc0[i]?=H1[i]?) :
  ∃ s Hc,Jl T B (.block 0 (.loop Qhl)) (rzI B x s0 Hc0 [])=some (.normal,rzI B x s Hc [(48,.bool false)])∧Grown .u8 N Hc s (bs++128::Qa (Da bs.length) 0)∧N≤Hc.length∧∀ i,i<N→Hc[i]?=H1[i]? := by
 have f0:fillL [Value.int .u8 0] [(0,1,.int .u8 0)]=some [.int .u8 0]:=rfl
 have c2:=Zb3 sv
 have hz:=Qgp bs.length
 obtain ⟨st,hb,s,Hc,rfl,hg,hL,hF⟩:=Vi (T:=T) (base:=B) (id:=0) (body:=Qhl)
  (fun j st=>∃ s Hc,st=rzI B x s Hc []∧Grown .u8 N Hc s (bs++128::Qa j 0)∧N≤Hc.length∧∀ i,i<N→Hc[i]?=H1[i]?)
  (Q:=fun st=>∃ s Hc,st=rzI B x s Hc [(48,.bool false)]∧Grown .u8 N Hc s (bs++128::Qa (Da bs.length) 0)∧N≤Hc.length∧∀ i,i<N→Hc[i]?=H1[i]?)
  (Da bs.length) (s:=rzI B x s0 Hc0 []) ⟨_,_,rfl,hg0,hL0,hF0⟩
  (fun j st hj hs=>by
   obtain ⟨s,Hc,rfl,hg,hL,hF⟩:=hs
   have hl:=hg.len
   have e1:(bs++128::Qa j 0).length=bs.length+(1+j):=by simp; omega
   rw [e1] at hl
   obtain ⟨s',H',M,h1,h2,h3,h4,h5⟩:=M9 (x:=0) (bytes:=1) hg hL (by rw [e1]; omega) (by decide)
   have hm:Jp B [] M=[]:=Xu fun i hi=>by have:=h3 i hi; omega
   have hget:Hc[B]?=some ⟨shC sv,true,true,true,1⟩:=(hF B hBN).trans hh
   have w3:IntKind.i64.wrap (((bs.length+(1+j):Nat):Int)+16)=((bs.length+(1+j)+16:Nat):Int):=Yx (b:=16) (by omega)
   have w4:((bs.length+(1+j)+16:Nat):Int).tmod 128=(((bs.length+(1+j)+16)%128:Nat):Int):=rfl
   have w5:((((bs.length+(1+j)+16)%128:Nat):Int) != 0)=true:=bne_iff_ne.2 (by have:=Qjh bs.length j hj; omega)
   refine ⟨rzI B x s' H' [],?_,s',H',rfl,by rw [Mt,←Ze,←Je]; exact h2,h4,fun i hi=>by rw [h5 i hi,hF i hi]⟩
   simp only [J6] at h1
   generalize (bs.length+(1+j)+16)%128=r at *
   generalize bs.length+(1+j)+16=r2 at *
   generalize bs.length+(1+j)=r3,shC sv=sc at *
   simp only [rzI,Qhl,↓Zm,Zw,quiet,cF,↓pF,reduceCtorEq,Qb,Qq,Zj,Zd,Zg,Zc,Q8,Qf,Q0,Qe,Qz,Q6,Q5,↓Zo,↓Zl,↓Zq,↓Zt,↓Zr,↓Zs,cL,Qp,Qo,Qy,Qx,Qv,Ql,Qk,Qw,Qc,Q1,Q2,Qr,Qg,Qi,Qh,Qu,Qt,Qs,Qn,Qd,cJ,hget,c2,hl,w3,w4,w5,f0,h1,hm])
  (fun st hs=>by
   obtain ⟨s,Hc,rfl,hg,hL,hF⟩:=hs
   have hl:=hg.len
   have e1:(bs++128::Qa (Da bs.length) 0).length=bs.length+(1+Da bs.length):=by simp; omega
   rw [e1] at hl
   have hget:Hc[B]?=some ⟨shC sv,true,true,true,1⟩:=(hF B hBN).trans hh
   have w3:IntKind.i64.wrap (((bs.length+(1+Da bs.length):Nat):Int)+16)=((bs.length+(1+Da bs.length)+16:Nat):Int):=Yx (b:=16) (by omega)
   have w4:((bs.length+(1+Da bs.length)+16:Nat):Int).tmod 128=0:=by
    have:((bs.length+(1+Da bs.length)+16:Nat):Int).tmod 128=(((bs.length+(1+Da bs.length)+16)%128:Nat):Int):=rfl
    rw [this,Qln]; rfl
   refine ⟨_,?_,s,Hc,rfl,hg,hL,hF⟩
   generalize bs.length+(1+Da bs.length)+16=r2 at *
   generalize bs.length+(1+Da bs.length)=r3,shC sv=sc at *
   simp only [rzI,Qhl,↓Zm,Zw,quiet,cF,↓pF,reduceCtorEq,Qb,Qq,Zj,Zd,Zg,Zc,Q8,Qf,Q0,Qe,Qz,Q6,Q5,↓Zo,↓Zl,↓Zq,↓Zt,↓Zr,↓Zs,cL,Qp,Qo,Qy,Qx,Qv,Ql,Qk,Qw,Qc,Q1,Q2,Qr,Qg,Qi,Qh,Qu,Qt,Qs,Qn,Qd,cJ,hget,c2,hl,w3,w4])
 exact ⟨s,Hc,hb,hg,hL,hF⟩
def rcI (B:Nat) (s:Value) (Hm:List Ob) (C:List Nat) (m:Nat) (iv:Int) (ex:Env):St:=⟨[(3,.pointer (some ⟨B,0,none⟩)),(5,.int .i64 8),(6,s),(7,.slice (some ⟨Hm.length,0,none⟩) 16 16),(8,.int .u64 m),(9,.int .i64 iv)]++ex,Hm++[⟨u8s C,true,true,true,1⟩],[]⟩
theorem Q3t {B n:Nat} {s:Value} {Hm:List Ob} {C:List Nat} (hB:B≤Hm.length) (lC:C.length=16) (hn:n<18446744073709551616) :
  Jl T B Qax (rcI B s Hm C n 15 [])=some (.normal,rcI B s Hm (C.set 15 (Tx n 15)) (n/32) 14 []):=by
 have w1:(n:Int).tmod 32=((n%32:Nat):Int):=rfl
 have w2:IntKind.u64.wrap (((n%32:Nat):Int)*8)=((n%32*8:Nat):Int):=by
  rw [show ((n%32:Nat):Int)*8=((n%32*8:Nat):Int) from (U1 _ _).symm,Qfi,Z5 (by omega)]
 have hp:Tx n 15=n%32*8:=by
  unfold Tx
  rw [show 15-15=0 from rfl,Yv,Ww]
  omega
 have w3:IntKind.u8.wrap ((n%32*8:Nat):Int)=((n%32*8:Nat):Int):=by rw [Qcf,Z5 (by omega)]
 have w4:IntKind.u64.wrap ((n:Int).tdiv 32)=((n/32:Nat):Int):=by rw [show ((n:Int).tdiv 32)=((n/32:Nat):Int) from rfl,Qfi,Z5 (by omega)]
 have hset:=Ba C 15 (n%32*8)
 have im:Jp B [] [Hm.length]=[]:=Xu (by simp; omega)
 have hl:15+1≤(u8s C).length:=by rw [Zv,lC]; decide
 rw [hp]
 generalize n%32*8=d at *
 generalize n%32=r,n/32=m at *
 simp only [rcI,Qax,↓Zm,Zw,quiet,cF,↓pF,reduceCtorEq,Qb,Qq,Zj,Zd,Zg,Zc,Q8,Qf,Q0,Qe,Qz,Q6,Q5,↓Zo,↓Zl,↓Zq,↓Zt,↓Zr,↓Zs,cL,Qp,Qo,Qy,Qx,Qv,Ql,Qk,Qw,Qc,Q1,Q2,Qr,Qg,Qi,Qh,Qu,Qt,Qs,Qn,Qd,cJ,w1,w2,w3,w4,hset,im,hl]
theorem Q8p {B n k:Nat} {s:Value} {Hm:List Ob} {C:List Nat} (hB:B≤Hm.length) (lC:C.length=16) (hk:k<15) (hn:n<18446744073709551616) :
  Jl T B Qax (rcI B s Hm C n (k:Nat) [])=some (.normal,rcI B s Hm (C.set k (n%256)) (n/256) ((k:Int)-1) []):=by
 have w1:(n:Int).tmod 256=((n%256:Nat):Int):=rfl
 have w3:IntKind.u8.wrap ((n%256:Nat):Int)=((n%256:Nat):Int):=by rw [Qcf,Ha]
 have w4:IntKind.u64.wrap ((n:Int).tdiv 256)=((n/256:Nat):Int):=by rw [show ((n:Int).tdiv 256)=((n/256:Nat):Int) from rfl,Qfi,Z5 (by omega)]
 have w5:IntKind.i64.wrap ((k:Int)-1)=(k:Int)-1:=Kn (by omega) (by omega)
 have e1:(0≤(k:Int))=True:=eq_true (by omega)
 have e2:((k:Int)==15)=false:=beq_eq_false_iff_ne.2 (by omega)
 have e3:((k:Int)<16)=True:=eq_true (by omega)
 have hset:=Ba C k (n%256)
 have im:Jp B [] [Hm.length]=[]:=Xu (by simp; omega)
 have hl:k+1≤(u8s C).length:=by rw [Zv,lC]; omega
 generalize n%256=d,n/256=m at *
 simp only [rcI,Qax,↓Zm,Zw,quiet,cF,↓pF,reduceCtorEq,Qb,Qq,Zj,Zd,Zg,Zc,Q8,Qf,Q0,Qe,Qz,Q6,Q5,↓Zo,↓Zl,↓Zq,↓Zt,↓Zr,↓Zs,cL,Qp,Qo,Qy,Qx,Qv,Ql,Qk,Qw,Qc,Q1,Q2,Qr,Qg,Qi,Qh,Qu,Qt,Qs,Qn,Qd,cJ,w1,w3,w4,w5,e1,e2,e3,hset,im,hl]
theorem Q3u {B n:Nat} {s:Value} {Hm:List Ob} (hB:B≤Hm.length) (hn:n<2^46) :
  Jl T B (.block 2 (.loop Qax)) (rcI B s Hm (Qa 16 0) n 15 [])=some (.normal,rcI B s Hm ((We 16).map (Tx n)) (8*n/256^16) (-1) [(62,.bool false)]):=by
 obtain ⟨st,hb,C,rfl,lC,hC⟩:=Vi (T:=T) (base:=B) (id:=2) (body:=Qax)
  (fun j st=>∃ C m,st=rcI B s Hm C m ((15:Int)-(j:Nat)) []∧C.length=16∧(m=if j=0 then n else 8*n/256^j)∧∀ i,16≤i+j→i<16→C[i]?=some (Tx n i))
  (Q:=fun st=>∃ C,st=rcI B s Hm C (8*n/256^16) (-1) [(62,.bool false)]∧C.length=16∧∀ i,i<16→C[i]?=some (Tx n i))
  16 (s:=rcI B s Hm (Qa 16 0) n 15 []) ⟨_,_,rfl,rfl,rfl,fun i h1 h2=>by omega⟩
  (fun j st hj hs=>by
   obtain ⟨C,m,rfl,lC,hm,hC⟩:=hs
   rcases Wl j with h0 | h0
   ·subst h0
    rw [if_pos rfl] at hm
    subst hm
    refine ⟨_,Q3t hB lC (by omega),_,_,rfl,by rw [Jk]; exact lC,by rw [if_neg (by decide),Z3,Nat.pow_one]; omega,fun i h1 h2 => ?_⟩
    have:i=15:=by omega
    subst this
    rw [Jj (by omega)]
   ·rw [if_neg (by omega)] at hm
    subst hm
    have e:((15:Int)-(j:Nat))=((15-j:Nat):Int):=by omega
    have hlt:8*n/256^j<18446744073709551616:=Wv (Uj _ _) (by omega)
    have hp:Tx n (15-j)=8*n/256^j%256:=by unfold Tx; rw [show 15-(15-j)=j by omega]
    have hd:8*n/256^j/256=8*n/256^(j+1):=by rw [Kb,Kv]
    have hbd:=Q8p (s:=s) hB lC (k:=15-j) (by omega) hlt
    rw [←e,←hp,hd] at hbd
    refine ⟨_,hbd,_,_,by rw [show (15:Int)-(j:Nat)-1=(15:Int)-((j+1:Nat):Int) by omega],by rw [Jk]; exact lC,by rw [if_neg (by omega)],fun i h1 h2 => ?_⟩
    by_cases h:i=15-j
    ·subst h; rw [Jj (by omega)]
    ·rw [Z4 (by omega)]; exact hC i (by omega) h2)
  (fun st hs=>by
   obtain ⟨C,m,rfl,lC,hm,hC⟩:=hs
   rw [if_neg (by decide)] at hm
   refine ⟨_,?_,C,rfl,lC,fun i hi=>hC i (by omega) hi⟩
   subst hm
   generalize 8*n/256^16=m at *
   simp only [rcI,Qax,↓Zm,Zw,quiet,cF,↓pF,reduceCtorEq,Qb,Qq,Zj,Zd,Zg,Zc,Q8,Qf,Q0,Qe,Qz,Q6,Q5,↓Zo,↓Zl,↓Zq,↓Zt,↓Zr,↓Zs,cL,Qp,Qo,Qy,Qx,Qv,Ql,Qk,Qw,Qc,Q1,Q2,Qr,Qg,Qi,Qh,Qu,Qt,Qs,Qn,Qd,cJ])
 have:C=(We 16).map (Tx n):=Wa fun i=>by
  by_cases h:i<16
  ·rw [hC i h]; simp [h]
  ·rw [Xe (by omega),Xe (by simp; omega)]
 rw [←this]
 exact hb
def tuC:List Value:=[.int .i64 1,.int .i64 8,.int .i64 7,.int .i64 19,.int .i64 61,.int .i64 6,.int .i64 28,.int .i64 34,.int .i64 39,.int .i64 14,.int .i64 18,.int .i64 41]
def rhE (B tid L:Nat) (tb sv:Value) (u at_ q:Nat) (i:Int):Env:=[(3,.pointer (some ⟨B,0,none⟩)),(5,.int .i64 8),(6,.slice (some ⟨tid,0,none⟩) L L),(10,tb),(11,sv),(12,.int .i64 64),(13,.pointer (some ⟨u,0,none⟩)),(14,.int .i64 at_),(15,.slice (some ⟨q,0,none⟩) 80 80),(16,.int .i64 i)]
def rhI (B tid L:Nat) (tb sv:Value) (u at_:Nat) (Hm:List Ob) (W:List Nat) (i:Int) (ex:Env):St:=⟨rhE B tid L tb sv u at_ Hm.length i++ex,Hm++[⟨ns .u64 W,true,true,true,1⟩],[]⟩
theorem Q3z {B tid u at_ i:Nat} {tb sv:Value} {Hm:List Ob} {all b:List Nat} {x4:Bool} (hB:B≤Hm.length) (ht:Hm[tid]?=some ⟨u8s all,true,true,x4,1⟩) (hL:all.length<2^50) (hb:∀ j,j<128→all[at_+j]?=b[j]?) (hbl:b.length=128) (hx:∀ y∈b,y<256) (hat:at_+128≤all.length) (hi:i<16) :
  Jl T B (.block 8 (.loop Qhm)) (rhI B tid all.length tb sv u at_ Hm (pf 80 (Ug b) i) i [(17,.int .i64 0)])=some (.normal,rhI B tid all.length tb sv u at_ Hm (pf 80 (Ug b) (i+1)) i [(17,.int .i64 8),(120,.bool false)]):=by
 have hWl:=Mv b
 have h8:((b.drop (8*i)).take 8).length=8:=by rw [Js,X5]; omega
 have hz:=Qlk (L:=Ug b) (by omega:i<80) hWl
 have hpl:=Df hWl (by omega:i≤80)
 have Qmc:(pf 80 (Ug b) i).set i (be [])=pf 80 (Ug b) i:=Qsa hz
 have hW:=Qh4 (b:=b) hi
 have hstep:=Gu hWl (by omega:i<80) hW
 have h:=Wf (T:=T) (base:=B) (id:=8) (body:=Qhm) (fun j=>rhI B tid all.length tb sv u at_ Hm ((pf 80 (Ug b) i).set i (be (((b.drop (8*i)).take 8).take j))) i [(17,.int .i64 j)]) (s':=rhI B tid all.length tb sv u at_ Hm (pf 80 (Ug b) (i+1)) i [(17,.int .i64 8),(120,.bool false)]) 8
  (fun j hj=>by
   obtain ⟨x,hxj⟩:∃ x,((b.drop (8*i)).take 8)[j]?=some x:=⟨_,Q3 (by omega)⟩
   have hxb:b[8*i+j]?=some x:=by
    rw [Ks,if_pos hj,Vy] at hxj; exact hxj
   have hx':=hx x (Zp hxb)
   have hxa:(u8s all)[at_+8*i+j]?=some (.int .u8 (x:Nat)):=Wy (by rw [show at_+8*i+j=at_+(8*i+j) by omega,hb _ (by omega)]; exact hxb)
   have hbel:=Qui j (((b.drop (8*i)).take 8).take j) (by rw [Js]; omega) (fun y hy=>hx y (Y2 (Ki (Ki hy))))
   have hbes:be (((b.drop (8*i)).take 8).take (j+1))=be (((b.drop (8*i)).take 8).take j)*256+x:=by rw [Ym,hxj]; exact Qrc _ _
   rw [hbes]
   have h256:(256:Nat)^j≤256^7:=Vr (by decide) (by omega)
   have e7:(256:Nat)^7=72057594037927936:=by decide
   rw [e7] at h256
   generalize be (((b.drop (8*i)).take 8).take j)=a at *
   have hg:((pf 80 (Ug b) i).set i a)[i]?=some a:=by rw [Jj (by rw [hpl]; omega)]
   have hgc:=Yy (k := .u64) hg
   have hss:=Bf .u64 ((pf 80 (Ug b) i).set i a) i (a*256+x)
   rw [Th] at hss
   have hln:((pf 80 (Ug b) i).set i a).length=80:=by rw [Jk]; exact hpl
   have w1:IntKind.i64.wrap ((j:Int)+1)=((j+1:Nat):Int):=Yx (b:=1) (by omega)
   have w2:IntKind.u64.wrap (x:Int)=(x:Int):=R2 (by omega)
   have w3:IntKind.u64.wrap ((a:Int)*256)=((a*256:Nat):Int):=by
    rw [show (a:Int)*256=((a*256:Nat):Int) from (U1 _ _).symm]; exact R2 (by omega)
   have w4:IntKind.u64.wrap (((a*256:Nat):Int)+(x:Int))=((a*256+x:Nat):Int):=by
    rw [←Gw]; exact R2 (by omega)
   have w5:IntKind.i64.wrap (8*(i:Int))=((8*i:Nat):Int):=Yi (n:=8*i) (by omega)
   have w6:IntKind.i64.wrap ((at_:Int)+((8*i:Nat):Int))=((at_+8*i:Nat):Int):=Yx (by omega)
   have w7:IntKind.i64.wrap (((at_+8*i:Nat):Int)+(j:Int))=((at_+8*i+j:Nat):Int):=Yx (by omega)
   have e1:((j:Int)<8)=True:=eq_true (by omega)
   have e2:((i:Int)<80)=True:=eq_true (by omega)
   have e3:(((at_+8*i+j:Nat):Int)<((all.length:Nat):Int))=True:=eq_true (by omega)
   have hget:(Hm++[⟨ns .u64 ((pf 80 (Ug b) i).set i a),true,true,true,1⟩])[tid]?=some ⟨u8s all,true,true,x4,1⟩:=by rw [Qm (Q7.1 ht).1]; exact ht
   have hle:i+1≤(ns .u64 ((pf 80 (Ug b) i).set i a)).length:=by rw [J0,hln]; omega
   have im:Jp B [] [Hm.length]=[]:=Xu (by simp; omega)
   generalize (pf 80 (Ug b) i).set i a=O1,(pf 80 (Ug b) i).set i (a*256+x)=O2 at *
   generalize hv:a*256+x=v at *
   generalize a*256=v2 at *
   generalize hoo:at_+8*i+j=oo at *
   generalize at_+8*i=o2 at *
   generalize 8*i=o3,all.length=LL,j+1=j1 at *
   simp only [rhI,rhE,Qhm,↓Zm,Zw,quiet,cF,↓pF,reduceCtorEq,Qb,Qq,Zj,Zd,Zg,Zc,Q8,Qf,Q0,Qe,Qz,Q6,Q5,↓Zo,↓Zl,↓Zq,↓Zt,↓Zr,↓Zs,cL,Qp,Qo,Qy,Qx,Qv,Ql,Qk,Qw,Qc,Q1,Q2,Qr,Qg,Qi,Qh,Qu,Qt,Qs,Qn,Qd,cJ,e1,e2,e3,w1,w2,w3,w4,w5,w6,w7,hget,hxa,hgc,hss,hle,im])
  (by
   have e8:((b.drop (8*i)).take 8).take 8=(b.drop (8*i)).take 8:=by rw [List.take_take,Nat.min_self]
   rw [e8,hstep]
   generalize pf 80 (Ug b) (i+1)=O2 at *
   simp only [rhI,rhE,Qhm,↓Zm,Zw,quiet,cF,↓pF,reduceCtorEq,Qb,Qq,Zj,Zd,Zg,Zc,Q8,Qf,Q0,Qe,Qz,Q6,Q5,↓Zo,↓Zl,↓Zq,↓Zt,↓Zr,↓Zs,cL,Qp,Qo,Qy,Qx,Qv,Ql,Qk,Qw,Qc,Q1,Q2,Qr,Qg,Qi,Qh,Qu,Qt,Qs,Qn,Qd,cJ])
 rw [Q0,Qmc] at h
 exact h
theorem Qxi:tuC.length=12:=rfl
theorem p7_v:evVal T 144 [.int .i64 7]=some (.int .u64 128):=Qli (n:=7) (by decide)
theorem p6_v:evVal T 144 [.int .i64 6]=some (.int .u64 64):=Qli (n:=6) (by decide)
theorem Q8r {B tid u at_ i:Nat} {tb sv sh:Value} {Hm:List Ob} {L:Nat} {b:List Nat} (hB:B<Hm.length) (hS:Hm[B]?=some ⟨shC sh,true,true,true,1⟩) (hU:Hm[u]?=some ⟨tuC,true,true,true,1⟩) (hb:∀ x∈b,x<256) (hi:16≤i) (hi':i<80) :
  Jl T B Qay (rhI B tid L tb sv u at_ Hm (pf 80 (Ug b) i) i [])=some (.normal,rhI B tid L tb sv u at_ Hm (pf 80 (Ug b) (i+1)) ((i+1:Nat):Int) []):=by
 have hWl:=Mv b
 have hW:=Qh3 (b:=b) hi hi'
 have hstep:=Gu hWl hi' hW
 have hpl:=Df hWl (W3 hi')
 obtain ⟨x,hx⟩:∃ x,(Ug b)[i-15]?=some x:=⟨_,Q3 (by omega)⟩
 obtain ⟨y,hy⟩:∃ x,(Ug b)[i-2]?=some x:=⟨_,Q3 (by omega)⟩
 obtain ⟨w,hu⟩:∃ x,(Ug b)[i-16]?=some x:=⟨_,Q3 (by omega)⟩
 obtain ⟨v,hv⟩:∃ x,(Ug b)[i-7]?=some x:=⟨_,Q3 (by omega)⟩
 have lx:=Qj6 hb hx
 have ly:=Qj6 hb hy
 have cx:=Yy (k := .u64) ((R4 (n:=80) (by omega:i-15<i) (by omega)).trans hx)
 have cy:=Yy (k := .u64) ((R4 (n:=80) (by omega:i-2<i) (by omega)).trans hy)
 have cu:=Yy (k := .u64) ((R4 (n:=80) (by omega:i-16<i) (by omega)).trans hu)
 have cv:=Yy (k := .u64) ((R4 (n:=80) (by omega:i-7<i) (by omega)).trans hv)
 rw [U6 hx,U6 hy,U6 hu,U6 hv] at hstep
 have r1:evVal T 143 [.int .u64 x,.int .i64 1,.int .i64 64]=some (.int .u64 (Ue x 1:Nat)):=Qa0 (r:=1) lx (by decide) (by decide)
 have r8:evVal T 143 [.int .u64 x,.int .i64 8,.int .i64 64]=some (.int .u64 (Ue x 8:Nat)):=Qa0 (r:=8) lx (by decide) (by decide)
 have r19:evVal T 143 [.int .u64 y,.int .i64 19,.int .i64 64]=some (.int .u64 (Ue y 19:Nat)):=Qa0 (r:=19) ly (by decide) (by decide)
 have r61:evVal T 143 [.int .u64 y,.int .i64 61,.int .i64 64]=some (.int .u64 (Ue y 61:Nat)):=Qa0 (r:=61) ly (by decide) (by decide)
 have b1:=Bu (r:=1) lx (by decide) (by decide)
 have b8:=Bu (r:=8) lx (by decide) (by decide)
 have b19:=Bu (r:=19) ly (by decide) (by decide)
 have b61:=Bu (r:=61) ly (by decide) (by decide)
 have b7:x/2^7<18446744073709551616:=Qg4 lx
 have b6:y/2^6<18446744073709551616:=Qg4 ly
 have x2:evVal T 142 [.int .u64 (Ue x 1:Nat),.int .u64 (Ue x 8:Nat),.int .u64 (x/2^7:Nat)]=some (.int .u64 (sg0 x:Nat)):=Qkf b1 b8 b7
 have y2:evVal T 142 [.int .u64 (Ue y 19:Nat),.int .u64 (Ue y 61:Nat),.int .u64 (y/2^6:Nat)]=some (.int .u64 (sg1 y:Nat)):=Qkf b19 b61 b6
 have p7:=p7_v
 have p6:=p6_v
 have s7:IntKind.u64.wrap ((x:Int).tdiv 128)=((x/2^7:Nat):Int):=R2 b7
 have s6:IntKind.u64.wrap ((y:Int).tdiv 64)=((y/2^6:Nat):Int):=R2 b6
 have m1:=To w (sg0 x)
 have m2:=To ((w+sg0 x)%18446744073709551616) v
 have m3:=To (((w+sg0 x)%18446744073709551616+v)%18446744073709551616) (sg1 y)
 have hsum:(((w+sg0 x)%18446744073709551616+v)%18446744073709551616+sg1 y)%18446744073709551616=(w+v+sg0 x+sg1 y)%18446744073709551616:=by omega
 rw [hsum] at m3
 have kp:=Ql4 ((w+v+sg0 x+sg1 y)%18446744073709551616)
 have hset:=Bf .u64 (pf 80 (Ug b) i) i ((w+v+sg0 x+sg1 y)%18446744073709551616)
 rw [hstep] at hset
 have e1:((i:Int)<80)=True:=eq_true (by omega)
 have e2:((i:Int)<16)=False:=eq_false (by omega)
 have i15:IntKind.i64.wrap ((i:Int)-15)=((i-15:Nat):Int):=by rw [Kn (by omega) (by omega)]; omega
 have i2:IntKind.i64.wrap ((i:Int)-2)=((i-2:Nat):Int):=by rw [Kn (by omega) (by omega)]; omega
 have i16:IntKind.i64.wrap ((i:Int)-16)=((i-16:Nat):Int):=by rw [Kn (by omega) (by omega)]; omega
 have i7:IntKind.i64.wrap ((i:Int)-7)=((i-7:Nat):Int):=by rw [Kn (by omega) (by omega)]; omega
 have j15:(((i-15:Nat):Int)<80)=True:=eq_true (by omega)
 have j2:(((i-2:Nat):Int)<80)=True:=eq_true (by omega)
 have j16:(((i-16:Nat):Int)<80)=True:=eq_true (by omega)
 have j7:(((i-7:Nat):Int)<80)=True:=eq_true (by omega)
 have w3:IntKind.i64.wrap ((i:Int)+1)=((i+1:Nat):Int):=Yx (b:=1) (by omega)
 have hle:i+1≤(ns .u64 (pf 80 (Ug b) i)).length:=by rw [J0,hpl]; omega
 have im:Jp B [] [Hm.length]=[]:=Xu (by simp; omega)
 have gS:∀ m:List Ob,(Hm++m)[B]?=some ⟨shC sh,true,true,true,1⟩:=fun m=>by rw [Qm hB]; exact hS
 have gU:∀ m:List Ob,(Hm++m)[u]?=some ⟨tuC,true,true,true,1⟩:=fun m=>by rw [Qm (Q7.1 hU).1]; exact hU
 have c1:=Qoj sh
 have t0:tuC[0]?=some (.int .i64 1):=rfl
 have t1:tuC[1]?=some (.int .i64 8):=rfl
 have t2:tuC[2]?=some (.int .i64 7):=rfl
 have t3:tuC[3]?=some (.int .i64 19):=rfl
 have t4:tuC[4]?=some (.int .i64 61):=rfl
 have t5:tuC[5]?=some (.int .i64 6):=rfl
 clear hsum hstep hW hx hy hu hv hWl hS hU
 generalize pf 80 (Ug b) i=O1,pf 80 (Ug b) (i+1)=O2,(w+v+sg0 x+sg1 y)%18446744073709551616=z,((w+sg0 x)%18446744073709551616+v)%18446744073709551616=z2 at *
 generalize (w+sg0 x)%18446744073709551616=z3 at *
 generalize sg0 x=gx,sg1 y=gy,Ue x 1=x1v,Ue x 8=x8v,Ue y 19=y19v,Ue y 61=y61v,x/2^7=x7v,y/2^6=y6v at *
 generalize i-15=k15,i-2=k2,i-16=k16,i-7=k7 at *
 generalize hi1:i+1=i1 at *
 generalize tuC=tc,shC sh=sc at *
 simp only [rhI,rhE,Qay,↓Zm,Zw,quiet,cF,↓pF,reduceCtorEq,Qb,Qq,Zj,Zd,Zg,Zc,Q8,Qf,Q0,Qe,Qz,Q6,Q5,↓Zo,↓Zl,↓Zq,↓Zt,↓Zr,↓Zs,cL,Qp,Qo,Qy,Qx,Qv,Ql,Qk,Qw,Qc,Q1,Q2,Qr,Qg,Qi,Qh,Qu,Qt,Qs,Qn,Qd,cJ,gS,gU,c1,t0,t1,t2,t3,t4,t5,e1,e2,i15,i2,i16,i7,j15,j2,j16,j7,cx,cy,cu,cv,r1,r8,r19,r61,p7,p6,s7,s6,x2,y2,m1,m2,m3,kp,hset,w3,hi1,hle,im]
theorem Zc6 {B tid u at_ i:Nat} {tb sv sh:Value} {Hm:List Ob} {all b:List Nat} {x4:Bool} (hB:B<Hm.length) (hS:Hm[B]?=some ⟨shC sh,true,true,true,1⟩) (ht:Hm[tid]?=some ⟨u8s all,true,true,x4,1⟩) (hL:all.length<2^50) (hb:∀ j,j<128→all[at_+j]?=b[j]?) (hbl:b.length=128) (hx:∀ y∈b,y<256) (hat:at_+128≤all.length) (hi:i<16) :
  Jl T B Qay (rhI B tid all.length tb sv u at_ Hm (pf 80 (Ug b) i) i [])=some (.normal,rhI B tid all.length tb sv u at_ Hm (pf 80 (Ug b) (i+1)) ((i+1:Nat):Int) []):=by
 have h4:=Q3z (tb:=tb) (sv:=sv) (u:=u) (W3 hB) ht hL hb hbl hx hat hi
 have e1:((i:Int)<80)=True:=eq_true (by omega)
 have e2:((i:Int)<16)=True:=eq_true (by omega)
 have w3:IntKind.i64.wrap ((i:Int)+1)=((i+1:Nat):Int):=Yx (b:=1) (by omega)
 have gS:∀ m:List Ob,(Hm++m)[B]?=some ⟨shC sh,true,true,true,1⟩:=fun m=>by rw [Qm hB]; exact hS
 have c1:=Qoj sh
 simp only [rhI,rhE,Ze,Q9] at h4
 generalize pf 80 (Ug b) i=O1,pf 80 (Ug b) (i+1)=O2 at *
 generalize hi1:i+1=i1 at *
 generalize shC sh=sc at *
 simp only [rhI,rhE,Qay,↓Zm,Zw,quiet,cF,↓pF,reduceCtorEq,Qb,Qq,Zj,Zd,Zg,Zc,Q8,Qf,Q0,Qe,Qz,Q6,Q5,↓Zo,↓Zl,↓Zq,↓Zt,↓Zr,↓Zs,cL,Qp,Qo,Qy,Qx,Qv,Ql,Qk,Qw,Qc,Q1,Q2,Qr,Qg,Qi,Qh,Qu,Qt,Qs,Qn,Qd,cJ,gS,c1,e1,e2,h4,w3,hi1]
theorem Q3y {B tid u at_:Nat} {tb sv sh:Value} {Hm:List Ob} {all b:List Nat} {x4:Bool} (hB:B<Hm.length) (hS:Hm[B]?=some ⟨shC sh,true,true,true,1⟩) (hU:Hm[u]?=some ⟨tuC,true,true,true,1⟩) (ht:Hm[tid]?=some ⟨u8s all,true,true,x4,1⟩) (hL:all.length<2^50) (hb:∀ j,j<128→all[at_+j]?=b[j]?) (hbl:b.length=128) (hx:∀ y∈b,y<256) (hat:at_+128≤all.length) :
  Jl T B (.block 6 (.loop Qay)) (rhI B tid all.length tb sv u at_ Hm (Qa 80 0) 0 [])=some (.normal,rhI B tid all.length tb sv u at_ Hm (Ug b) 80 [(113,.bool false)]):=by
 have hWl:=Mv b
 have h:=Wf (T:=T) (base:=B) (id:=6) (body:=Qay) (fun i=>rhI B tid all.length tb sv u at_ Hm (pf 80 (Ug b) i) i []) (s':=rhI B tid all.length tb sv u at_ Hm (Ug b) 80 [(113,.bool false)]) 80
  (fun i hi=>by
   by_cases h:i<16
   ·exact Zc6 hB hS ht hL hb hbl hx hat h
   ·exact Q8r hB hS hU hx (by omega) hi)
  (by
   have gS:∀ m:List Ob,(Hm++m)[B]?=some ⟨shC sh,true,true,true,1⟩:=fun m=>by rw [Qm hB]; exact hS
   have c1:=Qoj sh
   rw [Dk hWl]
   generalize Ug b=O2,shC sh=sc at *
   simp only [rhI,rhE,Qay,↓Zm,Zw,quiet,cF,↓pF,reduceCtorEq,Qb,Qq,Zj,Zd,Zg,Zc,Q8,Qf,Q0,Qe,Qz,Q6,Q5,↓Zo,↓Zl,↓Zq,↓Zt,↓Zr,↓Zs,cL,Qp,Qo,Qy,Qx,Qv,Ql,Qk,Qw,Qc,Q1,Q2,Qr,Qg,Qi,Qh,Qu,Qt,Qs,Qn,Qd,cJ,gS,c1])
 rw [Dj] at h
 exact h
def rvE (B tid L kid:Nat) (sv:Value) (u at_ q vid:Nat) (i:Int):Env:=[(3,.pointer (some ⟨B,0,none⟩)),(5,.int .i64 8),(6,.slice (some ⟨tid,0,none⟩) L L),(10,.slice (some ⟨kid,0,none⟩) 80 80),(11,sv),(12,.int .i64 64),(13,.pointer (some ⟨u,0,none⟩)),(14,.int .i64 at_),(15,.slice (some ⟨q,0,none⟩) 80 80),(22,.slice (some ⟨vid,0,none⟩) 8 8),(23,.int .i64 i)]
def rvI (B tid L kid:Nat) (sv:Value) (u at_ q vid:Nat) (i:Int) (Hc:List Ob) (ex:Env):St:=⟨rvE B tid L kid sv u at_ q vid i++ex,Hc,[]⟩
theorem Q8a {B tid L kid u at_ q vid i:Nat} {sv sh:Value} {Hc:List Ob} {w s:List Nat} {x1 x2:Bool} (hS:Hc[B]?=some ⟨shC sh,true,true,true,1⟩) (hU:Hc[u]?=some ⟨tuC,true,true,true,1⟩) (hK:Hc[kid]?=some ⟨ns .u64 Dy,true,true,true,1⟩) (hq:Hc[q]?=some ⟨ns .u64 w,true,true,true,1⟩) (hvo:Hc[vid]?=some ⟨ns .u64 s,true,x1,x2,1⟩) (hw:w.length=80) (hs:s.length=8) (hx:∀ x∈s,x<18446744073709551616) (hi:i<80) :
  Jl T B Qe1 (rvI B tid L kid sv u at_ q vid i Hc [])=some (.normal,rvI B tid L kid sv u at_ q Hc.length ((i+1:Nat):Int) (Hc++[⟨ns .u64 (rnd s (Dy.getD i 0) (w.getD i 0)),true,true,true,1⟩]) []):=by
 obtain ⟨a,b,c,d,e,f,g,h,rfl⟩:=eight hs
 obtain ⟨k,hk⟩:∃ k,Dy[i]?=some k:=⟨_,Q3 (by rw [Qbw]; exact hi)⟩
 obtain ⟨v,hv⟩:∃ k,w[i]?=some k:=⟨_,Q3 (by omega)⟩
 rw [U6 hk,U6 hv]
 have kc:=Yy (k := .u64) hk
 have vc:=Yy (k := .u64) hv
 have la:=hx a (by simp)
 have lb:=hx b (by simp)
 have lc:=hx c (by simp)
 have le:=hx e (by simp)
 have lf:=hx f (by simp)
 have lg:=hx g (by simp)
 have r14:evVal T 143 [.int .u64 e,.int .i64 14,.int .i64 64]=some (.int .u64 (Ue e 14:Nat)):=Qa0 (r:=14) le (by decide) (by decide)
 have r18:evVal T 143 [.int .u64 e,.int .i64 18,.int .i64 64]=some (.int .u64 (Ue e 18:Nat)):=Qa0 (r:=18) le (by decide) (by decide)
 have r41:evVal T 143 [.int .u64 e,.int .i64 41,.int .i64 64]=some (.int .u64 (Ue e 41:Nat)):=Qa0 (r:=41) le (by decide) (by decide)
 have r28:evVal T 143 [.int .u64 a,.int .i64 28,.int .i64 64]=some (.int .u64 (Ue a 28:Nat)):=Qa0 (r:=28) la (by decide) (by decide)
 have r34:evVal T 143 [.int .u64 a,.int .i64 34,.int .i64 64]=some (.int .u64 (Ue a 34:Nat)):=Qa0 (r:=34) la (by decide) (by decide)
 have r39:evVal T 143 [.int .u64 a,.int .i64 39,.int .i64 64]=some (.int .u64 (Ue a 39:Nat)):=Qa0 (r:=39) la (by decide) (by decide)
 have b14:=Bu (r:=14) le (by decide) (by decide)
 have b18:=Bu (r:=18) le (by decide) (by decide)
 have b41:=Bu (r:=41) le (by decide) (by decide)
 have b28:=Bu (r:=28) la (by decide) (by decide)
 have b34:=Bu (r:=34) la (by decide) (by decide)
 have b39:=Bu (r:=39) la (by decide) (by decide)
 have x2:evVal T 142 [.int .u64 (Ue e 14:Nat),.int .u64 (Ue e 18:Nat),.int .u64 (Ue e 41:Nat)]=some (.int .u64 (Sg1 e:Nat)):=Qkf b14 b18 b41
 have x4:evVal T 142 [.int .u64 (Ue a 28:Nat),.int .u64 (Ue a 34:Nat),.int .u64 (Ue a 39:Nat)]=some (.int .u64 (Sg0 a:Nat)):=Qkf b28 b34 b39
 have a1:=Qd2 le lf
 have lne:18446744073709551615-e<18446744073709551616:=by omega
 have a2:IntKind.u64.wrap (18446744073709551615-(e:Int))=((18446744073709551615-e:Nat):Int):=Qj7 (a:=18446744073709551615) (by omega) (by decide)
 have kp1:=Ql4 (18446744073709551615-e)
 have a3:=Qd2 lne lg
 have a4:Vx .or .u64 ((e&&&f:Nat):Int) (((18446744073709551615-e)&&&g:Nat):Int)=((chO e f g:Nat):Int):=by rw [Hg rfl (Gr lf) (Gr lg),ch_or le]
 have a5:=Qd2 la lb
 have a6:=Qd2 la lc
 have a7:=Qd2 lb lc
 have a8:Vx .or .u64 ((a&&&b:Nat):Int) ((a&&&c:Nat):Int)=(((a&&&b)|||(a&&&c):Nat):Int):=Hg rfl (Gr lb) (Gr lc)
 have a9:Vx .or .u64 (((a&&&b)|||(a&&&c):Nat):Int) ((b&&&c:Nat):Int)=((maO a b c:Nat):Int):=by rw [Hg rfl (Hy (n:=64) (Gr lb) (Gr lc)) (Gr lc),Zdz]
 have m1:=To h (Sg1 e)
 have m2:=To ((h+Sg1 e)%18446744073709551616) (chO e f g)
 have m3:=To (((h+Sg1 e)%18446744073709551616+chO e f g)%18446744073709551616) k
 have m4:=To ((((h+Sg1 e)%18446744073709551616+chO e f g)%18446744073709551616+k)%18446744073709551616) v
 have hT1:((((h+Sg1 e)%18446744073709551616+chO e f g)%18446744073709551616+k)%18446744073709551616+v)%18446744073709551616=t1O [a,b,c,d,e,f,g,h] k v:=by
  show _=(h+Sg1 e+chO e f g+k+v)%18446744073709551616
  omega
 rw [hT1] at m4
 have m5:IntKind.u64.wrap ((Sg0 a:Int)+(maO a b c:Int))=((t2O [a,b,c,d,e,f,g,h]:Nat):Int):=To (Sg0 a) (maO a b c)
 have m6:=To (t1O [a,b,c,d,e,f,g,h] k v) (t2O [a,b,c,d,e,f,g,h])
 have m7:=To d (t1O [a,b,c,d,e,f,g,h] k v)
 have hr:rnd [a,b,c,d,e,f,g,h] k v=[(t1O [a,b,c,d,e,f,g,h] k v+t2O [a,b,c,d,e,f,g,h])%18446744073709551616,a,b,c,(d+t1O [a,b,c,d,e,f,g,h] k v)%18446744073709551616,e,f,g]:=rfl
 have hf:=Zca ((t1O [a,b,c,d,e,f,g,h] k v+t2O [a,b,c,d,e,f,g,h])%18446744073709551616) a b c ((d+t1O [a,b,c,d,e,f,g,h] k v)%18446744073709551616) e f g
 rw [←hr] at hf
 have kp2:=Ql4 ((t1O [a,b,c,d,e,f,g,h] k v+t2O [a,b,c,d,e,f,g,h])%18446744073709551616)
 have kp3:=Ql4 ((d+t1O [a,b,c,d,e,f,g,h] k v)%18446744073709551616)
 have lR:=Qxu [a,b,c,d,e,f,g,h] k v
 have e1:((i:Int)<80)=True:=eq_true (by omega)
 have w3:IntKind.i64.wrap ((i:Int)+1)=((i+1:Nat):Int):=Yx (b:=1) (by omega)
 have g0:(ns .u64 [a,b,c,d,e,f,g,h])[0]?=some (.int .u64 (a:Nat)):=rfl
 have g1:(ns .u64 [a,b,c,d,e,f,g,h])[1]?=some (.int .u64 (b:Nat)):=rfl
 have g2:(ns .u64 [a,b,c,d,e,f,g,h])[2]?=some (.int .u64 (c:Nat)):=rfl
 have g3:(ns .u64 [a,b,c,d,e,f,g,h])[3]?=some (.int .u64 (d:Nat)):=rfl
 have g4:(ns .u64 [a,b,c,d,e,f,g,h])[4]?=some (.int .u64 (e:Nat)):=rfl
 have g5:(ns .u64 [a,b,c,d,e,f,g,h])[5]?=some (.int .u64 (f:Nat)):=rfl
 have g6:(ns .u64 [a,b,c,d,e,f,g,h])[6]?=some (.int .u64 (g:Nat)):=rfl
 have g7:(ns .u64 [a,b,c,d,e,f,g,h])[7]?=some (.int .u64 (h:Nat)):=rfl
 have lS:(ns .u64 [a,b,c,d,e,f,g,h]).length=8:=rfl
 clear hT1 hr hk hv hs hx
 generalize rnd [a,b,c,d,e,f,g,h] k v=R at *
 generalize (t1O [a,b,c,d,e,f,g,h] k v+t2O [a,b,c,d,e,f,g,h])%18446744073709551616=z1 at *
 generalize (d+t1O [a,b,c,d,e,f,g,h] k v)%18446744073709551616=z2 at *
 generalize t1O [a,b,c,d,e,f,g,h] k v=t1 at *
 generalize t2O [a,b,c,d,e,f,g,h]=t2 at *
 generalize (((h+Sg1 e)%18446744073709551616+chO e f g)%18446744073709551616+k)%18446744073709551616=z3 at *
 generalize ((h+Sg1 e)%18446744073709551616+chO e f g)%18446744073709551616=z4 at *
 generalize (h+Sg1 e)%18446744073709551616=z5 at *
 generalize Sg1 e=se,Sg0 a=sa,chO e f g=cc,maO a b c=mm,(a&&&b)|||(a&&&c)=q1,(18446744073709551615-e)&&&g=q2 at *
 generalize 18446744073709551615-e=q3,e&&&f=q4,a&&&b=q5,a&&&c=q6,b&&&c=q7,Ue e 14=p1,Ue e 18=p2,Ue e 41=p3 at *
 generalize Ue a 28=p4,Ue a 34=p5,Ue a 39=p6 at *
 have t6:tuC[6]?=some (.int .i64 28):=rfl
 have t7:tuC[7]?=some (.int .i64 34):=rfl
 have t8:tuC[8]?=some (.int .i64 39):=rfl
 have t9:tuC[9]?=some (.int .i64 14):=rfl
 have t10:tuC[10]?=some (.int .i64 18):=rfl
 have t11:tuC[11]?=some (.int .i64 41):=rfl
 have c1:=Qoj sh
 generalize hi1:i+1=i1 at *
 generalize tuC=tc,shC sh=sc at *
 generalize ns .u64 [a,b,c,d,e,f,g,h]=S at *
 generalize ns .u64 Dy=KT at *
 simp only [rvI,rvE,Qe1,↓Zm,Zw,quiet,cF,↓pF,reduceCtorEq,Qb,Qq,Zj,Zd,Zg,Zc,Q8,Qf,Q0,Qe,Qz,Q6,Q5,↓Zo,↓Zl,↓Zq,↓Zt,↓Zr,↓Zs,cL,Qp,Qo,Qy,Qx,Qv,Ql,Qk,Qw,Qc,Q1,Q2,Qr,Qg,Qi,Qh,Qu,Qt,Qs,Qn,Qd,cJ,hS,hU,hK,hq,hvo,c1,t6,t7,t8,t9,t10,t11,e1,vc,kc,r14,r18,r41,r28,r34,r39,x2,x4,a1,a2,a3,a4,a5,a6,a7,a8,a9,m1,m2,m3,m4,m5,m6,m7,kp1,kp2,kp3,hf,w3,hi1,g0,g1,g2,g3,g4,g5,g6,g7]
end Go.Ev.YtpgphpkjlpkcbaaGreat
namespace Go.Ev.YtpgphpkjlpkcbaaGreat
open Go Go.Ev
attribute [local congr] W5 Up W4 Uq Wo
set_option maxRecDepth 100000
theorem Q3a {B tid L kid u at_ q vid:Nat} {sv sh:Value} {H0:List Ob} {w s:List Nat} {x1 x2:Bool} (hS:H0[B]?=some ⟨shC sh,true,true,true,1⟩) (hU:H0[u]?=some ⟨tuC,true,true,true,1⟩) (hK:H0[kid]?=some ⟨ns .u64 Dy,true,true,true,1⟩) (hq:H0[q]?=some ⟨ns .u64 w,true,true,true,1⟩) (hvo:H0[vid]?=some ⟨ns .u64 s,true,x1,x2,1⟩) (hw:w.length=80) (hs:s.length=8) (hx:∀ x∈s,x<18446744073709551616) :
  ∃ vid' l y1 y2,Jl T B (.block 10 (.loop Qe1)) (rvI B tid L kid sv u at_ q vid 0 H0 [])=some (.normal,rvI B tid L kid sv u at_ q vid' 80 (H0++l) [(211,.bool false)])∧(H0++l)[vid']?=some ⟨ns .u64 (Qdf 80 w s),true,y1,y2,1⟩∧(vid'=vid∨H0.length≤vid'):=by
 obtain ⟨st,hb,vid',l,y1,y2,rfl,h1,h2⟩:=Vi (T:=T) (base:=B) (id:=10) (body:=Qe1)
  (fun j st=>∃ vid' l y1 y2,st=rvI B tid L kid sv u at_ q vid' j (H0++l) []∧(H0++l)[vid']?=some ⟨ns .u64 (Qdf j w s),true,y1,y2,1⟩∧(vid'=vid∨H0.length≤vid'))
  (Q:=fun st=>∃ vid' l y1 y2,st=rvI B tid L kid sv u at_ q vid' 80 (H0++l) [(211,.bool false)]∧(H0++l)[vid']?=some ⟨ns .u64 (Qdf 80 w s),true,y1,y2,1⟩∧(vid'=vid∨H0.length≤vid'))
  80 (s:=rvI B tid L kid sv u at_ q vid 0 H0 []) ⟨vid,[],x1,x2,by rw [Xd]; rfl,by rw [Xd]; exact hvo,.inl rfl⟩
  (fun j st hj hst=>by
   obtain ⟨vid',l,y1,y2,rfl,h1,h2⟩:=hst
   have up:∀ {i:Nat} {o:Ob},H0[i]?=some o→(H0++l)[i]?=some o:=fun {i o} h=>by rw [Qm (Q7.1 h).1]; exact h
   refine ⟨_,Q8a (up hS) (up hU) (up hK) (up hq) h1 hw (Qbo hs w j) (Qqf hs hx w j) hj,(H0++l).length,l++[⟨ns .u64 (rnd (Qdf j w s) (Dy.getD j 0) (w.getD j 0)),true,true,true,1⟩],true,true,by rw [←Je],?_,.inr (by simp)⟩
   rw [←Je,Za (Zn _),Jw]; rfl)
  (fun st hst=>by
   obtain ⟨vid',l,y1,y2,rfl,h1,h2⟩:=hst
   refine ⟨_,?_,vid',l,y1,y2,rfl,h1,h2⟩
   have gS:(H0++l)[B]?=some ⟨shC sh,true,true,true,1⟩:=by rw [Qm (Q7.1 hS).1]; exact hS
   have c1:=Qoj sh
   generalize shC sh=sc,H0++l=Hc at *
   simp only [rvI,rvE,Qe1,↓Zm,Zw,quiet,cF,↓pF,reduceCtorEq,Qb,Qq,Zj,Zd,Zg,Zc,Q8,Qf,Q0,Qe,Qz,Q6,Q5,↓Zo,↓Zl,↓Zq,↓Zt,↓Zr,↓Zs,cL,Qp,Qo,Qy,Qx,Qv,Ql,Qk,Qw,Qc,Q1,Q2,Qr,Qg,Qi,Qh,Qu,Qt,Qs,Qn,Qd,cJ,gS,c1])
 exact ⟨vid',l,y1,y2,hb,h1,h2⟩
def rsI (B tid L kid sid u at_ vid:Nat) (i:Nat) (Hc:List Ob) (ex:Env):St:=⟨[(3,.pointer (some ⟨B,0,none⟩)),(5,.int .i64 8),(6,.slice (some ⟨tid,0,none⟩) L L),(10,.slice (some ⟨kid,0,none⟩) 80 80),(11,.slice (some ⟨sid,0,none⟩) 8 8),(12,.int .i64 64),(13,.pointer (some ⟨u,0,none⟩)),(14,.int .i64 at_),(22,.slice (some ⟨vid,0,none⟩) 8 8),(29,.int .i64 i)]++ex,Hc,[]⟩
theorem Q8d {B tid L kid sid u at_ vid i a b:Nat} {Hc:List Ob} {D v:List Nat} {x1 x2 x3:Bool} (hB:B≤sid) (hsl:sid<Hc.length) (hne:vid≠sid) (hvo:Hc[vid]?=some ⟨ns .u64 v,true,x1,x2,1⟩) (lD:D.length=8) (hi:i<8) (ha:D[i]?=some a) (hb:v[i]?=some b) :
  Jl T B Qe2 (rsI B tid L kid sid u at_ vid i (Hc.set sid ⟨ns .u64 D,true,true,x3,1⟩) [])=some (.normal,rsI B tid L kid sid u at_ vid (i+1) (Hc.set sid ⟨ns .u64 (D.set i ((a+b)%18446744073709551616)),true,true,x3,1⟩) []):=by
 have e1:((i:Int)<8)=True:=eq_true (by omega)
 have w3:IntKind.i64.wrap ((i:Int)+1)=((i+1:Nat):Int):=Yx (b:=1) (by omega)
 have m1:=To a b
 have kp:=Ql4 ((a+b)%18446744073709551616)
 have ga:=Yy (k := .u64) ha
 have gb:=Yy (k := .u64) hb
 have g1:(Hc.set sid ⟨ns .u64 D,true,true,x3,1⟩)[sid]?=some ⟨ns .u64 D,true,true,x3,1⟩:=Jj hsl
 have g2:(Hc.set sid ⟨ns .u64 D,true,true,x3,1⟩)[vid]?=some ⟨ns .u64 v,true,x1,x2,1⟩:=by rw [Z4 (fun h=>hne h.symm)]; exact hvo
 have hset:=Bf .u64 D i ((a+b)%18446744073709551616)
 have hss:∀ o,(Hc.set sid ⟨ns .u64 D,true,true,x3,1⟩).set sid o=Hc.set sid o:=fun o=>by rw [Th]
 have hle:i+1≤(ns .u64 D).length:=by rw [J0,lD]; omega
 have im:Jp B [] [sid]=[]:=Xu (by simp; omega)
 generalize (a+b)%18446744073709551616=z at *
 generalize Hc.set sid ⟨ns .u64 D,true,true,x3,1⟩=G at *
 generalize hi1:i+1=i1 at *
 simp only [rsI,Qe2,↓Zm,Zw,quiet,cF,↓pF,reduceCtorEq,Qb,Qq,Zj,Zd,Zg,Zc,Q8,Qf,Q0,Qe,Qz,Q6,Q5,↓Zo,↓Zl,↓Zq,↓Zt,↓Zr,↓Zs,cL,Qp,Qo,Qy,Qx,Qv,Ql,Qk,Qw,Qc,Q1,Q2,Qr,Qg,Qi,Qh,Qu,Qt,Qs,Qn,Qd,cJ,e1,w3,m1,kp,ga,gb,g1,g2,hset,hss,hi1,hle,im]
theorem Q3c {B tid L kid sid u at_ vid:Nat} {Hc:List Ob} {s v:List Nat} {x1 x2 x3:Bool} (hB:B≤sid) (hso:Hc[sid]?=some ⟨ns .u64 s,true,true,x3,1⟩) (hne:vid≠sid) (hvo:Hc[vid]?=some ⟨ns .u64 v,true,x1,x2,1⟩) (lS:s.length=8) (lV:v.length=8) :
  Jl T B (.block 12 (.loop Qe2)) (rsI B tid L kid sid u at_ vid 0 Hc [])=some (.normal,rsI B tid L kid sid u at_ vid 8 (Hc.set sid ⟨ns .u64 (Bc (fun x y=>(x+y)%18446744073709551616) s v),true,true,x3,1⟩) [(358,.bool false)]):=by
 have hsl:=(Q7.1 hso).1
 obtain ⟨st,hb,D,rfl,lD,hD⟩:=Vi (T:=T) (base:=B) (id:=12) (body:=Qe2)
  (fun j st=>∃ D,st=rsI B tid L kid sid u at_ vid j (Hc.set sid ⟨ns .u64 D,true,true,x3,1⟩) []∧D.length=8∧∀ k,k<8→D[k]?=if k<j then (Bc (fun x y=>(x+y)%18446744073709551616) s v)[k]? else s[k]?)
  (Q:=fun st=>∃ D,st=rsI B tid L kid sid u at_ vid 8 (Hc.set sid ⟨ns .u64 D,true,true,x3,1⟩) [(358,.bool false)]∧D.length=8∧∀ k,k<8→D[k]?=(Bc (fun x y=>(x+y)%18446744073709551616) s v)[k]?)
  8 (s:=rsI B tid L kid sid u at_ vid 0 Hc []) ⟨s,by rw [Qbm hso],lS,fun k hk=>by rw [if_neg (J7 _)]⟩
  (fun j st hj hs=>by
   obtain ⟨D,rfl,lD,hD⟩:=hs
   obtain ⟨a,ha⟩:∃ a,s[j]?=some a:=⟨_,Q3 (by omega)⟩
   obtain ⟨b,hb⟩:∃ a,v[j]?=some a:=⟨_,Q3 (by omega)⟩
   have hDj:D[j]?=some a:=by rw [hD j hj,if_neg (Xt _)]; exact ha
   refine ⟨_,Q8d hB hsl hne hvo lD hj hDj hb,_,rfl,by rw [Jk]; exact lD,fun k hk => ?_⟩
   by_cases h:j=k
   ·subst h
    rw [Jj (by omega),if_pos (Qut _),Mf,ha,hb]
   ·rw [Z4 h,hD k hk]
    by_cases h2:k<j
    ·rw [if_pos h2,if_pos (by omega)]
    ·rw [if_neg h2,if_neg (by omega)])
  (fun st hs=>by
   obtain ⟨D,rfl,lD,hD⟩:=hs
   refine ⟨_,?_,D,rfl,lD,fun k hk=>by rw [hD k hk,if_pos hk]⟩
   generalize Hc.set sid ⟨ns .u64 D,true,true,x3,1⟩=G
   simp only [rsI,Qe2,↓Zm,Zw,quiet,cF,↓pF,reduceCtorEq,Qb,Qq,Zj,Zd,Zg,Zc,Q8,Qf,Q0,Qe,Qz,Q6,Q5,↓Zo,↓Zl,↓Zq,↓Zt,↓Zr,↓Zs,cL,Qp,Qo,Qy,Qx,Qv,Ql,Qk,Qw,Qc,Q1,Q2,Qr,Qg,Qi,Qh,Qu,Qt,Qs,Qn,Qd,cJ])
 have:D=Bc (fun x y=>(x+y)%18446744073709551616) s v:=Wa fun k=>by
  by_cases h:k<8
  ·exact hD k h
  ·rw [Xe (by omega),Xe (by rw [Rd]; omega)]
 rw [←this]
 exact hb
theorem app8 {H:List Ob} {sid:Nat} {s:List Nat} {x3:Bool} (hso:H[sid]?=some ⟨ns .u64 s,true,true,x3,1⟩) (ls:s.length=8) :
  Wk 1 8 (H++[⟨[],true,true,true,1⟩]) (.slice (some ⟨H.length,0,none⟩) 0 0) (.slice (some ⟨sid,0,none⟩) 8 8)=some (.slice (some ⟨H.length+1,0,none⟩) 8 8,H++[⟨[],true,true,true,1⟩,Ob.grown 1 (ns .u64 s)],none,[]):=by
 have h1:liveAt (H++[⟨[],true,true,true,1⟩]) sid=some ⟨ns .u64 s,true,true,x3,1⟩:=Hb (V9 hso rfl)
 have h2:liveAt (H++[⟨[],true,true,true,1⟩]) H.length=some ⟨[],true,true,true,1⟩:=Uf
 have h3:elemsOf (H++[⟨[],true,true,true,1⟩]) 1 8 (.slice (some ⟨sid,0,none⟩) 8 8)=some (ns .u64 s):=by
  have:Vt 8 (ns .u64 s)=ns .u64 s:=Zk (by rw [J0]; omega)
  simp [elemsOf,h1,J0,ls,this]
 have h4:elemsOf (H++[⟨[],true,true,true,1⟩]) 1 0 (.slice (some ⟨H.length,0,none⟩) 0 0)=some []:=by simp [elemsOf,h2]
 have k1:Go.Ev.lenV (.slice (some ⟨sid,0,none⟩) 8 8)=some 8:=rfl
 simp only [Wk,k1,h2,h3,h4,Zb]
 rw [if_neg (by decide),if_neg (by decide)]
 simp
def reI (B tid L kid sid u:Nat) (at_:Nat) (Hc:List Ob) (ex:Env):St:=⟨[(3,.pointer (some ⟨B,0,none⟩)),(5,.int .i64 8),(6,.slice (some ⟨tid,0,none⟩) L L),(10,.slice (some ⟨kid,0,none⟩) 80 80),(11,.slice (some ⟨sid,0,none⟩) 8 8),(12,.int .i64 64),(13,.pointer (some ⟨u,0,none⟩)),(14,.int .i64 at_)]++ex,Hc,[]⟩
theorem Q8o {B tid kid sid u at_:Nat} {sh:Value} {Hc:List Ob} {all b s:List Nat} {x4:Bool} {x3:Bool} (hBs:B<sid) (hS:Hc[B]?=some ⟨shC sh,true,true,true,1⟩) (hU:Hc[u]?=some ⟨tuC,true,true,true,1⟩) (hK:Hc[kid]?=some ⟨ns .u64 Dy,true,true,true,1⟩) (ht:Hc[tid]?=some ⟨u8s all,true,true,x4,1⟩) (hso:Hc[sid]?=some ⟨ns .u64 s,true,true,x3,1⟩) (hs:s.length=8) (hsx:∀ x∈s,x<18446744073709551616)
  (hL:all.length<2^50) (hb:∀ j,j<128→all[at_+j]?=b[j]?) (hbl:b.length=128) (hx:∀ y∈b,y<256) (hat:at_+128≤all.length) :
  ∃ H',Jl T B Qe0 (reI B tid all.length kid sid u at_ Hc [])=some (.normal,reI B tid all.length kid sid u (at_+128) H' [])∧H'[sid]?=some ⟨ns .u64 (blk s b),true,true,x3,1⟩∧Hc.length≤H'.length∧∀ i,i<Hc.length→i≠sid→H'[i]?=Hc[i]? := by
 have hsl:=(Q7.1 hso).1
 have hBl:B<Hc.length:=by omega
 have h5:=Q3y (tb := .slice (some ⟨kid,0,none⟩) 80 80) (sv := .slice (some ⟨sid,0,none⟩) 8 8) hBl hS hU ht hL hb hbl hx hat
 obtain ⟨H5,hH5⟩:∃ X,X=Hc++[(⟨ns .u64 (Ug b),true,true,true,1⟩:Ob)]:=⟨_,rfl⟩
 have l5:H5.length=Hc.length+1:=by rw [hH5]; simp
 have up5:∀ {i:Nat} {o:Ob},Hc[i]?=some o→H5[i]?=some o:=fun {i o} h=>by rw [hH5,Qm (Q7.1 h).1]; exact h
 have hq5:H5[Hc.length]?=some ⟨ns .u64 (Ug b),true,true,true,1⟩:=by rw [hH5,Za (Zn _),Jw]; rfl
 have hap:=app8 (up5 hso) hs
 obtain ⟨H7,hH7⟩:∃ X,X=H5++[(⟨[],true,true,true,1⟩:Ob),Ob.grown 1 (ns .u64 s)]:=⟨_,rfl⟩
 have l7:H7.length=H5.length+2:=by rw [hH7]; simp
 have up7:∀ {i:Nat} {o:Ob},H5[i]?=some o→H7[i]?=some o:=fun {i o} h=>by rw [hH7,Qm (Q7.1 h).1]; exact h
 have hv7:H7[H5.length+1]?=some ⟨ns .u64 s,true,true,false,1⟩:=by rw [hH7,Za (by omega),Jh]; rfl
 obtain ⟨vid',l,y1,y2,h3,hvo,hvid⟩:=Q3a (L:=all.length) (tid:=tid) (sv := .slice (some ⟨sid,0,none⟩) 8 8) (at_:=at_) (up7 (up5 hS)) (up7 (up5 hU)) (up7 (up5 hK)) (up7 hq5) hv7 (Mv b) hs hsx
 obtain ⟨H8,hH8⟩:∃ X,X=H7++l:=⟨_,rfl⟩
 have l8:H7.length≤H8.length:=by rw [hH8]; simp
 have up8:∀ {i:Nat} {o:Ob},H7[i]?=some o→H8[i]?=some o:=fun {i o} h=>by rw [hH8,Qm (Q7.1 h).1]; exact h
 rw [←hH8] at h3 hvo
 have hne:vid'≠sid:=by omega
 have h2:=Q3c (tid:=tid) (L:=all.length) (kid:=kid) (u:=u) (at_:=at_) (W3 hBs) (up8 (up7 (up5 hso))) hne hvo hs (Qbo hs _ 80)
 rw [show Bc (fun x y=>(x+y)%18446744073709551616) s (Qdf 80 (Ug b) s)=blk s b from rfl] at h2
 obtain ⟨H9,hH9⟩:∃ X,X=H8.set sid ⟨ns .u64 (blk s b),true,true,x3,1⟩:=⟨_,rfl⟩
 rw [←hH9] at h2
 refine ⟨H9,?_,by rw [hH9,Jj (by omega)],by rw [hH9,Jk]; omega,fun i hi hne => ?_⟩
 ·have gS9:H9[B]?=some ⟨shC sh,true,true,true,1⟩:=by rw [hH9,Z4 (by omega)]; exact up8 (up7 (up5 hS))
  have e1:((at_:Int)<((all.length:Nat):Int))=True:=eq_true (by omega)
  have w1:IntKind.i64.wrap ((at_:Int)+128)=((at_+128:Nat):Int):=Yx (b:=128) (by omega)
  have c1:=Qoj sh
  have c2:=Zb3 sh
  have hz80:(Qa 80 [Value.int .u64 0]).flatten=ns .u64 (Qa 80 0):=rfl
  have f0:fillL ([]:List Value) []=some []:=rfl
  have im1:Jp B [] [H5.length]=[]:=Xu (by simp; omega)
  simp only [rhI,rhE,rvI,rvE,rsI,Ze,Q9,J6,←hH5] at h5 h3 h2
  rw [←hH7] at hap
  clear hH5 hH7 hH8 hH9 up5 up7 up8 hv7 hq5 hvo hb hx hso
  generalize shC sh=sc,ns .u64 (Qa 80 0)=Z80,all.length=LL at *
  generalize hat2:at_+128=at2 at *
  simp only [reI,Qe0,↓Zm,Zw,quiet,cF,↓pF,reduceCtorEq,Qb,Qq,Zj,Zd,Zg,Zc,Q8,Qf,Q0,Qe,Qz,Q6,Q5,↓Zo,↓Zl,↓Zq,↓Zt,↓Zr,↓Zs,cL,Qp,Qo,Qy,Qx,Qv,Ql,Qk,Qw,Qc,Q1,Q2,Qr,Qg,Qi,Qh,Qu,Qt,Qs,Qn,Qd,cJ,hS,c1,e1,hz80,h5,f0,hap,im1,h3,h2,gS9,c2,w1]
 ·rw [hH9,Z4 (fun h=>hne h.symm)]
  have hi':=Q3 hi
  rw [hi']
  exact up8 (up7 (up5 hi'))
theorem Q3r {B tid kid sid u m:Nat} {sh:Value} {H0:List Ob} {all:List Nat} {x3 x4:Bool} (hBs:B<sid) (hus:u≠sid) (hks:kid≠sid) (hts:tid≠sid) (hS:H0[B]?=some ⟨shC sh,true,true,true,1⟩) (hU:H0[u]?=some ⟨tuC,true,true,true,1⟩) (hK:H0[kid]?=some ⟨ns .u64 Dy,true,true,true,1⟩) (ht:H0[tid]?=some ⟨u8s all,true,true,x4,1⟩) (hso:H0[sid]?=some ⟨ns .u64 Rf,true,true,x3,1⟩)
  (hL:all.length<2^50) (hx:∀ y∈all,y<256) (hm:all.length=128*m) :
  ∃ H',Jl T B (.block 4 (.loop Qe0)) (reI B tid all.length kid sid u 0 H0 [])=some (.normal,reI B tid all.length kid sid u all.length H' [(102,.bool false)])∧H'[sid]?=some ⟨ns .u64 (stK m all),true,true,x3,1⟩∧H0.length≤H'.length∧∀ i,i<H0.length→i≠sid→H'[i]?=H0[i]? := by
 obtain ⟨st,hb,H',rfl,h1,h2,h3⟩:=Vi (T:=T) (base:=B) (id:=4) (body:=Qe0)
  (fun j st=>∃ H',st=reI B tid all.length kid sid u (128*j) H' []∧H'[sid]?=some ⟨ns .u64 (stK j all),true,true,x3,1⟩∧H0.length≤H'.length∧∀ i,i<H0.length→i≠sid→H'[i]?=H0[i]?)
  (Q:=fun st=>∃ H',st=reI B tid all.length kid sid u all.length H' [(102,.bool false)]∧H'[sid]?=some ⟨ns .u64 (stK m all),true,true,x3,1⟩∧H0.length≤H'.length∧∀ i,i<H0.length→i≠sid→H'[i]?=H0[i]?)
  m (s:=reI B tid all.length kid sid u 0 H0 []) ⟨H0,rfl,hso,Zn _,fun _ _ _=>rfl⟩
  (fun j st hj hs=>by
   obtain ⟨H',rfl,h1,h2,h3⟩:=hs
   have up:∀ {i:Nat} {o:Ob},H0[i]?=some o→i≠sid→H'[i]?=some o:=fun {i o} h hne=>(h3 i (Q7.1 h).1 hne).trans h
   have hat:128*j+128≤all.length:=by omega
   obtain ⟨H9,k1,k2,k3,k4⟩:=Q8o (at_:=128*j) (b:=(all.drop (128*j)).take 128) hBs (up hS (by omega)) (up hU hus) (up hK hks) (up ht hts) h1 (Qed all j) (Qp8 all j) hL (fun i hi=>by rw [Ks,if_pos hi,Vy]) (by rw [Js,X5]; omega) (fun y hy=>hx y (Y2 (Ki hy))) hat
   exact ⟨_,k1,H9,rfl,k2,by omega,fun i hi hne=>(k4 i (by omega) hne).trans (h3 i hi hne)⟩)
  (fun st hs=>by
   obtain ⟨H',rfl,h1,h2,h3⟩:=hs
   rw [←hm]
   refine ⟨_,?_,H',rfl,h1,h2,h3⟩
   have e1:((all.length:Int)<((all.length:Nat):Int))=False:=eq_false (by omega)
   generalize all.length=LL at *
   simp only [reI,Qe0,↓Zm,Zw,quiet,cF,↓pF,reduceCtorEq,Qb,Qq,Zj,Zd,Zg,Zc,Q8,Qf,Q0,Qe,Qz,Q6,Q5,↓Zo,↓Zl,↓Zq,↓Zt,↓Zr,↓Zs,cL,Qp,Qo,Qy,Qx,Qv,Ql,Qk,Qw,Qc,Q1,Q2,Qr,Qg,Qi,Qh,Qu,Qt,Qs,Qn,Qd,cJ,e1])
 exact ⟨H',hb,h1,h2,h3⟩
def roI (sid:Nat) (s:Value) (i c:Int) (Hc:List Ob) (ex:Env):St:=⟨[(5,.int .i64 8),(11,.slice (some ⟨sid,0,none⟩) 8 8),(30,s),(31,.int .i64 i),(32,.int .i64 c)]++ex,Hc,[]⟩
theorem Q8h {B N sid i c w:Nat} {s:Value} {Hc:List Ob} {st bs:List Nat} {x3:Bool} (hBN:B≤N) (hsN:sid<N) (hso:Hc[sid]?=some ⟨ns .u64 st,true,true,x3,1⟩) (hg:Grown .u8 N Hc s bs) (hL:N≤Hc.length) (hbs:bs.length<100) (hi:i<8) (hc:c<8) (hw:st[i]?=some w) (hw':w<18446744073709551616) :
  ∃ s' H',Jl T B Qe3 (roI sid s i c Hc [])=some (.normal,roI sid s' i ((c:Int)-1) H' [])∧Grown .u8 N H' s' (bs++[w/256^c%256])∧N≤H'.length∧∀ k,k<N→H'[k]?=Hc[k]? := by
 obtain ⟨s',H',M,h1,h2,h3,h4,h5⟩:=M9 (x:=w/256^c%256) (bytes:=1) hg hL (by omega) (by decide)
 refine ⟨s',H',?_,h2,h4,h5⟩
 have hm:Jp B [] M=[]:=Xu fun i hi=>by have:=h3 i hi; omega
 have hp:=Qli (n:=8*c) (by omega)
 have e8:(2:Nat)^(8*c)=256^c:=by rw [Y5]
 rw [e8] at hp
 have h0:0<256^c:=Us (by decide)
 have hz:(((256^c:Nat):Int)=0)=False:=eq_false (by omega)
 have hd:IntKind.u64.wrap ((w:Int).tdiv ((256^c:Nat):Int))=((w/256^c:Nat):Int):=R2 (Wv (Uj _ _) hw')
 have hr:((w/256^c:Nat):Int).tmod 256=((w/256^c%256:Nat):Int):=rfl
 have w1:IntKind.i64.wrap (8*(c:Int))=((8*c:Nat):Int):=Yi (n:=8*c) (by omega)
 have w2:IntKind.u8.wrap ((w/256^c%256:Nat):Int)=((w/256^c%256:Nat):Int):=Qry (Jo _ (by decide))
 have w3:IntKind.i64.wrap ((c:Int)-1)=(c:Int)-1:=Kn (by omega) (by omega)
 have e1:(0≤(c:Int))=True:=eq_true (by omega)
 have e2:((i:Int)<8)=True:=eq_true (by omega)
 have gw:=Yy (k := .u64) hw
 have f0:fillL [Value.int .u8 0] [(0,1,.int .u8 ((w/256^c%256:Nat):Int))]=some [.int .u8 ((w/256^c%256:Nat):Int)]:=rfl
 generalize w/256^c%256=r at *
 generalize w/256^c=d at *
 generalize 256^c=p,8*c=c8 at *
 simp only [roI,Qe3,↓Zm,Zw,quiet,cF,↓pF,reduceCtorEq,Qb,Qq,Zj,Zd,Zg,Zc,Q8,Qf,Q0,Qe,Qz,Q6,Q5,↓Zo,↓Zl,↓Zq,↓Zt,↓Zr,↓Zs,cL,Qp,Qo,Qy,Qx,Qv,Ql,Qk,Qw,Qc,Q1,Q2,Qr,Qg,Qi,Qh,Qu,Qt,Qs,Qn,Qd,cJ,e1,e2,w1,w2,w3,hp,hz,hd,hr,hso,gw,f0,h1,hm]
def Qfb (st:List Nat):List Nat:=(We 64).map fun i=>st.getD (i/8) 0/256^(7-i%8)%256
theorem Q4f (st:List Nat):(Qfb st).length=64:=by simp [Qfb]
theorem Q4g {st:List Nat} {i j w:Nat} (hi:i<8) (hj:j<8) (hw:st[i]?=some w):(Qfb st)[8*i+j]?=some (w/256^(7-j)%256):=by
 have h1:(8*i+j)/8=i:=by omega
 have h2:(8*i+j)%8=j:=by omega
 have h3:8*i+j<64:=by omega
 simp only [Qfb,U4,Re h3,Rm,h1,h2,U6 hw]
theorem Q3j {B N sid i w:Nat} {s0:Value} {H0:List Ob} {st:List Nat} {x3:Bool} (hBN:B≤N) (hsN:sid<N) (hso:H0[sid]?=some ⟨ns .u64 st,true,true,x3,1⟩) (hg0:Grown .u8 N H0 s0 ((Qfb st).take (8*i))) (hL0:N≤H0.length) (hi:i<8) (hw:st[i]?=some w) (hw':w<18446744073709551616) :
  ∃ s' H',Jl T B (.block 16 (.loop Qe3)) (roI sid s0 i 7 H0 [])=some (.normal,roI sid s' i (-1) H' [(382,.bool false)])∧Grown .u8 N H' s' ((Qfb st).take (8*(i+1)))∧N≤H'.length∧∀ k,k<N→H'[k]?=H0[k]? := by
 obtain ⟨x,hb,s',H',rfl,h1,h2,h3⟩:=Vi (T:=T) (base:=B) (id:=16) (body:=Qe3)
  (fun j x=>∃ s' H',x=roI sid s' i ((7:Int)-(j:Nat)) H' []∧Grown .u8 N H' s' ((Qfb st).take (8*i+j))∧N≤H'.length∧∀ k,k<N→H'[k]?=H0[k]?)
  (Q:=fun x=>∃ s' H',x=roI sid s' i (-1) H' [(382,.bool false)]∧Grown .u8 N H' s' ((Qfb st).take (8*i+8))∧N≤H'.length∧∀ k,k<N→H'[k]?=H0[k]?)
  8 (s:=roI sid s0 i 7 H0 []) ⟨s0,H0,rfl,hg0,hL0,fun _ _=>rfl⟩
  (fun j x hj hx=>by
   obtain ⟨s',H',rfl,h1,h2,h3⟩:=hx
   have e:((7:Int)-(j:Nat))=((7-j:Nat):Int):=by omega
   obtain ⟨s2,H2,k1,k2,k3,k4⟩:=Q8h (c:=7-j) hBN hsN ((h3 sid hsN).trans hso) h1 h2 (by rw [Js]; omega) hi (by omega) hw hw'
   have hget:=Q4g hi hj hw
   rw [show (Qfb st).take (8*i)=(Qfb st).take (8*i) from rfl] at hg0
   have ht:(Qfb st).take (8*i+(j+1))=(Qfb st).take (8*i+j)++[w/256^(7-j)%256]:=by
    rw [←Kc,Ym,hget]; rfl
   rw [←e] at k1
   exact ⟨_,k1,s2,H2,by rw [show (7:Int)-(j:Nat)-1=(7:Int)-((j+1:Nat):Int) by omega],by rw [ht]; exact k2,k3,fun k hk=>(k4 k hk).trans (h3 k hk)⟩)
  (fun x hx=>by
   obtain ⟨s',H',rfl,h1,h2,h3⟩:=hx
   refine ⟨_,?_,s',H',rfl,h1,h2,h3⟩
   simp only [roI,Qe3,↓Zm,Zw,quiet,cF,↓pF,reduceCtorEq,Qb,Qq,Zj,Zd,Zg,Zc,Q8,Qf,Q0,Qe,Qz,Q6,Q5,↓Zo,↓Zl,↓Zq,↓Zt,↓Zr,↓Zs,cL,Qp,Qo,Qy,Qx,Qv,Ql,Qk,Qw,Qc,Q1,Q2,Qr,Qg,Qi,Qh,Qu,Qt,Qs,Qn,Qd,cJ])
 exact ⟨s',H',hb,h1,h2,h3⟩
def Qqg (sid:Nat) (s:Value) (i:Int) (Hc:List Ob) (ex:Env):St:=⟨[(5,.int .i64 8),(11,.slice (some ⟨sid,0,none⟩) 8 8),(30,s),(31,.int .i64 i)]++ex,Hc,[]⟩
theorem Q3k {B N sid:Nat} {H0:List Ob} {st:List Nat} {x3:Bool} (hBN:B≤N) (hsN:sid<N) (hso:H0[sid]?=some ⟨ns .u64 st,true,true,x3,1⟩) (hL0:N≤H0.length) (ls:st.length=8) (xs:∀ w∈st,w<18446744073709551616) :
  ∃ s' H',Jl T B (.block 14 (.loop Qhn)) (Qqg sid (.slice none 0 0) 0 H0 [])=some (.normal,Qqg sid s' 8 H' [(376,.bool false)])∧Grown .u8 N H' s' (Qfb st)∧N≤H'.length∧∀ k,k<N→H'[k]?=H0[k]? := by
 obtain ⟨x,hb,s',H',rfl,h1,h2,h3⟩:=Vi (T:=T) (base:=B) (id:=14) (body:=Qhn)
  (fun j x=>∃ s' H',x=Qqg sid s' j H' []∧Grown .u8 N H' s' ((Qfb st).take (8*j))∧N≤H'.length∧∀ k,k<N→H'[k]?=H0[k]?)
  (Q:=fun x=>∃ s' H',x=Qqg sid s' 8 H' [(376,.bool false)]∧Grown .u8 N H' s' (Qfb st)∧N≤H'.length∧∀ k,k<N→H'[k]?=H0[k]?)
  8 (s:=Qqg sid (.slice none 0 0) 0 H0 []) ⟨_,_,rfl,.nil,hL0,fun _ _=>rfl⟩
  (fun j x hj hx=>by
   obtain ⟨s',H',rfl,h1,h2,h3⟩:=hx
   obtain ⟨w,hw⟩:∃ w,st[j]?=some w:=⟨_,Q3 (by omega)⟩
   obtain ⟨s2,H2,k1,k2,k3,k4⟩:=Q3j hBN hsN ((h3 sid hsN).trans hso) h1 h2 hj hw (xs w (Zp hw))
   refine ⟨Qqg sid s2 ((j+1:Nat):Int) H2 [],?_,s2,H2,rfl,k2,k3,fun k hk=>(k4 k hk).trans (h3 k hk)⟩
   have e1:((j:Int)<8)=True:=eq_true (by omega)
   have w3:IntKind.i64.wrap ((j:Int)+1)=((j+1:Nat):Int):=Yx (b:=1) (by omega)
   simp only [roI,Ze,Q9] at k1
   generalize hj1:j+1=j1 at *
   simp only [Qqg,Qhn,↓Zm,Zw,quiet,cF,↓pF,reduceCtorEq,Qb,Qq,Zj,Zd,Zg,Zc,Q8,Qf,Q0,Qe,Qz,Q6,Q5,↓Zo,↓Zl,↓Zq,↓Zt,↓Zr,↓Zs,cL,Qp,Qo,Qy,Qx,Qv,Ql,Qk,Qw,Qc,Q1,Q2,Qr,Qg,Qi,Qh,Qu,Qt,Qs,Qn,Qd,cJ,e1,k1,w3,hj1])
  (fun x hx=>by
   obtain ⟨s',H',rfl,h1,h2,h3⟩:=hx
   rw [Zk (by rw [Q4f]; decide)] at h1
   refine ⟨_,?_,s',H',rfl,h1,h2,h3⟩
   simp only [Qqg,Qhn,↓Zm,Zw,quiet,cF,↓pF,reduceCtorEq,Qb,Qq,Zj,Zd,Zg,Zc,Q8,Qf,Q0,Qe,Qz,Q6,Q5,↓Zo,↓Zl,↓Zq,↓Zt,↓Zr,↓Zs,cL,Qp,Qo,Qy,Qx,Qv,Ql,Qk,Qw,Qc,Q1,Q2,Qr,Qg,Qi,Qh,Qu,Qt,Qs,Qn,Qd,cJ])
 exact ⟨s',H',hb,h1,h2,h3⟩
theorem Qzg {bs:List Nat} (xb:∀ y∈bs,y<256):((⟨(bs.map UInt8.ofNat).toArray⟩:ByteArray).data.toList.map fun b=>Value.int .u8 b.toNat)=u8s bs:=by
 simp only [Qcr,u8s]
 refine List.map_congr_left fun y hy => ?_
 have:=xb y hy
 simp [Function.comp,Z5 this]
theorem Qxn {bs:List Nat} {id:Nat} (xb:∀ y∈bs,y<256) (hb:bs.length≤2^47):Q7s id (Ua bs)=some (.slice (some ⟨id,0,none⟩) bs.length bs.length,⟨u8s bs,true,true,false,1⟩):=by
 unfold Ua
 rw [Q2a,Qzg xb]
 have:(⟨(bs.map UInt8.ofNat).toArray⟩:ByteArray).size=bs.length:=by simp [ByteArray.size]
 rw [this,gate,if_pos hb]
theorem Zeq {G:List Ob} {bs:List Nat} (hb:bs.length<2^46) :
  Wk 1 1 (G++[⟨u8s bs,true,true,false,1⟩,⟨[.int .u8 128],true,true,true,1⟩]) (.slice (some ⟨G.length,0,none⟩) bs.length bs.length) (.slice (some ⟨G.length+1,0,none⟩) 1 1)=some (.slice (some ⟨G.length+2,0,none⟩) (bs.length+1) (bs.length+1),G++[Ob.dead,⟨[.int .u8 128],true,true,true,1⟩,Ob.grown 1 (u8s (bs++[128]))],none,[G.length]):=by
 have h1:liveAt (G++[⟨u8s bs,true,true,false,1⟩,⟨[.int .u8 128],true,true,true,1⟩]) (G.length+1)=some ⟨[.int .u8 128],true,true,true,1⟩:=Ut
 have h2:liveAt (G++[⟨u8s bs,true,true,false,1⟩,⟨[.int .u8 128],true,true,true,1⟩]) G.length=some ⟨u8s bs,true,true,false,1⟩:=Uf
 have h3:elemsOf (G++[⟨u8s bs,true,true,false,1⟩,⟨[.int .u8 128],true,true,true,1⟩]) 1 1 (.slice (some ⟨G.length+1,0,none⟩) 1 1)=some [.int .u8 128]:=by simp [elemsOf,h1]
 have h4:elemsOf (G++[⟨u8s bs,true,true,false,1⟩,⟨[.int .u8 128],true,true,true,1⟩]) 1 bs.length (.slice (some ⟨G.length,0,none⟩) bs.length bs.length)=some (u8s bs):=by
  have:Vt bs.length (u8s bs)=u8s bs:=Zk (by rw [Zv]; exact Zn _)
  simp [elemsOf,h2,Zv,this]
 have k1:Go.Ev.lenV (.slice (some ⟨G.length+1,0,none⟩) 1 1)=some 1:=rfl
 have e1:¬ ((1:Nat)=0):=by decide
 have e2:(bs.length+1)*1≤2^47∧0<1∧0<1:=⟨by omega,by decide,by decide⟩
 have e3:¬ (bs.length+1≤bs.length):=by omega
 have hap:u8s (bs++[128])=u8s bs++[.int .u8 128]:=by simp [u8s]
 simp only [Wk,k1,h2,h3,h4,Zb,if_neg e1,e2,and_self,not_true_eq_false,if_false,if_neg e3,hap]
 simp
theorem Grown.ob {k:IntKind} {B:Nat} {H:List Ob} {s:Value} {bs:List Nat} (h:Grown k B H s bs) (h0:0<bs.length):∃ id x,s=.slice (some ⟨id,0,none⟩) bs.length bs.length∧B≤id∧H[id]?=some ⟨ns k bs,true,true,x,1⟩:=by
 cases h with
 | nil=>exact absurd h0 (by decide)
 | @own id _ h1 h2 h3=>exact ⟨id,false,rfl,h1,h3⟩
 | @new id _ h1 h2 h3=>exact ⟨id,true,rfl,h1,h3⟩
theorem Grown.weak {k:IntKind} {B N:Nat} {H:List Ob} {s:Value} {bs:List Nat} (h:Grown k N H s bs) (hB:B≤N):Grown k B H s bs:=by
 cases h with
 | nil=>exact .nil
 | own h1 h2 h3=>exact .own (by omega) h2 h3
 | new h1 h2 h3=>exact .new (by omega) h2 h3
theorem Q8c {H:List Ob} {bs:List Nat} {hid:Nat} {xe:Bool} (xb:∀ y∈bs,y<256) (hb:bs.length<2^46) (hh:H[hid]?=some ⟨ns .u64 Rf,true,true,xe,1⟩) :
  ∃ s l,Yd T 86 [Ua bs,.agg (shC (.slice (some ⟨hid,0,none⟩) 8 8)).toArray] H=some (s,H++l,[])∧Grown .u8 H.length (H++l) s (sha bs):=by
 obtain ⟨sv,hsv⟩:∃ v,v=Value.slice (some ⟨hid,0,none⟩) 8 8:=⟨_,rfl⟩
 rw [←hsv]
 have hhl:=(Q7.1 hh).1
 have hok:Yj (.agg (shC sv).toArray)=true:=by rw [hsv]; rfl
 obtain ⟨G1,hG1⟩:∃ X,X=H++[(⟨shC sv,true,true,true,1⟩:Ob)]:=⟨_,rfl⟩
 have l1:G1.length=H.length+1:=by rw [hG1]; simp
 have gB:G1[H.length]?=some ⟨shC sv,true,true,true,1⟩:=by rw [hG1,Za (Zn _),Jw]; rfl
 have gh:G1[hid]?=some ⟨ns .u64 Rf,true,true,xe,1⟩:=by rw [hG1,Qm hhl]; exact hh
 have h2b:=Qxn (id:=G1.length) xb (by omega:bs.length≤2^47)
 have h80:=Zeq (G:=G1) hb
 obtain ⟨H3,hH3⟩:∃ X,X=G1++[Ob.dead,(⟨[.int .u8 128],true,true,true,1⟩:Ob),Ob.grown 1 (u8s (bs++[128]))]:=⟨_,rfl⟩
 rw [←hH3] at h80
 have hg3:Grown .u8 (H.length+1) H3 (.slice (some ⟨G1.length+2,0,none⟩) (bs.length+1) (bs.length+1)) (bs++[128]):=by
  have:=Grown.own (k := .u8) (B:=H.length+1) (H:=H3) (id:=G1.length+2) (bs:=bs++[128]) (by omega) (by simp) (by rw [hH3,Za (by omega),Jh]; rfl)
  rwa [Zh] at this
 have p3:∀ i,i<H.length+1→H3[i]?=G1[i]? := fun i hi=>by rw [hH3,Qm (by omega)]
 obtain ⟨s4,H4,h4,hg4,l4,p4⟩:=Q29 (B:=H.length) (N:=H.length+1) (x:=Ua bs) (by omega) gB hb hg3 (by rw [hH3]; simp; omega) p3
 have h7:=Q3u (B:=H.length) (n:=bs.length) (s:=s4) (Hm:=H4) (by omega) hb
 obtain ⟨H5,hH5⟩:∃ X,X=H4++[(⟨u8s ((We 16).map (Tx bs.length)),true,true,true,1⟩:Ob)]:=⟨_,rfl⟩
 have l5:H5.length=H4.length+1:=by rw [hH5]; simp
 have hg5:Grown .u8 (H.length+1) H5 s4 (bs++128::Qa (Da bs.length) 0):=by rw [hH5]; exact hg4.app
 have lc:((We 16).map (Tx bs.length)).length=16:=by simp
 have he5:elemsOf H5 1 ((We 16).map (Tx bs.length)).length (.slice (some ⟨H4.length,0,none⟩) 16 16)=some (ns .u8 ((We 16).map (Tx bs.length))):=by
  rw [lc,hH5]
  have:Vt 16 (u8s ((We 16).map (Tx bs.length)))=ns .u8 ((We 16).map (Tx bs.length)):=Zk (by rw [Zv,lc]; exact Zn _)
  simp [elemsOf,Uf,Zv,this]
 have hz:=Qgp bs.length
 obtain ⟨s6,H6,M6,ha6,hg6,hM6,l6,p6⟩:=hg5.append (bytes:=1) (x := .slice (some ⟨H4.length,0,none⟩) 16 16) (by omega) (by rw [lc]; rfl) he5 (by rw [lc]; simp; omega) (by decide)
 have hall:bs++128::Qa (Da bs.length) 0++(We 16).map (Tx bs.length)=bs++Qa6 bs.length:=by rw [Qx3,Je]
 rw [hall] at hg6
 have lall:(bs++Qa6 bs.length).length=bs.length+(17+Da bs.length):=by rw [Zh,Qgq]
 obtain ⟨tid,x4,rfl,htid,htx⟩:=Grown.ob hg6 (by omega)
 have q6:∀ i,i<H.length+1→H6[i]?=G1[i]? := fun i hi=>by rw [p6 i hi,hH5,Qm (by omega)]; exact p4 i hi
 have htb:=Qzm H6
 obtain ⟨H7,hH7⟩:∃ X,X=H6++[(⟨ns .u64 Dy,true,true,true,1⟩:Ob)]:=⟨_,rfl⟩
 have l7:H7.length=H6.length+1:=by rw [hH7]; simp
 have u7:∀ {i:Nat} {o:Ob},H6[i]?=some o→H7[i]?=some o:=fun {i o} h=>by rw [hH7,Qm (Q7.1 h).1]; exact h
 have k7:H7[H6.length]?=some ⟨ns .u64 Dy,true,true,true,1⟩:=by rw [hH7,Za (Zn _),Jw]; rfl
 have hap:=app8 (u7 ((q6 hid (by omega)).trans gh)) Qzj
 obtain ⟨H8,hH8⟩:∃ X,X=H7++[(⟨[],true,true,true,1⟩:Ob),Ob.grown 1 (ns .u64 Rf)]:=⟨_,rfl⟩
 have l8:H8.length=H7.length+2:=by rw [hH8]; simp
 have u8':∀ {i:Nat} {o:Ob},H7[i]?=some o→H8[i]?=some o:=fun {i o} h=>by rw [hH8,Qm (Q7.1 h).1]; exact h
 have k8:H8[H7.length+1]?=some ⟨ns .u64 Rf,true,true,false,1⟩:=by rw [hH8,Za (by omega),Jh]; rfl
 rw [←hH8] at hap
 obtain ⟨H9,hH9⟩:∃ X,X=H8++[(⟨tuC,true,true,true,1⟩:Ob)]:=⟨_,rfl⟩
 have l9:H9.length=H8.length+1:=by rw [hH9]; simp
 have u9:∀ {i:Nat} {o:Ob},H8[i]?=some o→H9[i]?=some o:=fun {i o} h=>by rw [hH9,Qm (Q7.1 h).1]; exact h
 have k9:H9[H8.length]?=some ⟨tuC,true,true,true,1⟩:=by rw [hH9,Za (Zn _),Jw]; rfl
 have htl:=(Q7.1 htx).1
 have xall:∀ y∈bs++Qa6 bs.length,y<256:=fun y hy=>(J8.1 hy).elim (xb y) (Qx2 _ y)
 have hm:(bs++Qa6 bs.length).length=128*((bs++Qa6 bs.length).length/128):=by
  have:=Qln bs.length
  rw [lall]; omega
 obtain ⟨H10,hre,hst,l10,p10⟩:=Q3r (B:=H.length) (tid:=tid) (kid:=H6.length) (sid:=H7.length+1) (u:=H8.length) (by omega) (by omega) (by omega) (by omega) (u9 (u8' (u7 ((q6 _ (by omega)).trans gB)))) k9 (u9 (u8' k7)) (u9 (u8' (u7 htx))) (u9 k8) (by omega) xall hm
 obtain ⟨s',H11,hro,hg11,l11,p11⟩:=Q3k (B:=H.length) (N:=H9.length) (by omega) (by omega) hst l10 (Qed _ _) (Qp8 _ _)
 have hsha:Qfb (stK ((bs++Qa6 bs.length).length/128) (bs++Qa6 bs.length))=sha bs:=rfl
 rw [hsha] at hg11
 have pH:∀ i,i<H.length→H11[i]?=H[i]? := fun i hi=>by
  rw [p11 i (by omega),p10 i (by omega) (by omega),hH9,Qm (by omega),hH8,Qm (by omega),hH7,Qm (by omega),q6 i (by omega),hG1,Qm hi]
 obtain ⟨l,rfl⟩:=B5 (H:=H) (by omega) pH
 refine ⟨s',l,?_,Grown.weak hg11 (by omega)⟩
 have F1:H++[(⟨shC sv,true,true,true,1⟩:Ob)]=G1:=hG1.symm
 have F7:H6++[(⟨ns .u64 Dy,true,true,true,1⟩:Ob)]=H7:=hH7.symm
 have F9:H8++[(⟨tuC,true,true,true,1⟩:Ob)]=H9:=hH9.symm
 have B7:∀ m:List Ob,(H7++m)[H.length]?=some ⟨shC sv,true,true,true,1⟩:=fun m=>by rw [Qm (by omega)]; exact u7 ((q6 _ (by omega)).trans gB)
 have B8:H8[H.length]?=some ⟨shC sv,true,true,true,1⟩:=u8' (u7 ((q6 _ (by omega)).trans gB))
 have c0:=shC_0 sv
 have c3:=shC_3 sv
 have lsh:=Qxt sv
 have htu:((shC sv).drop 4).take 12=tuC:=rfl
 have hz16:(Qa 16 [Value.int .u8 0]).flatten=u8s (Qa 16 0):=rfl
 have f128:fillL [Value.int .u8 0] [(0,1,.int .u8 128)]=some [.int .u8 128]:=rfl
 have f0:fillL ([]:List Value) []=some []:=rfl
 have hlen:=Qgd (bs:=bs)
 have w1:IntKind.u64.wrap (bs.length:Int)=(bs.length:Nat):=R2 (by omega)
 have im1:Jp H.length [] [G1.length]=[]:=Xu (by simp; omega)
 have im2:Jp H.length [] M6=[]:=Xu fun i hi=>by have:=hM6 i hi; omega
 have im3:Jp H.length [] [H8.length]=[]:=Xu (by simp; omega)
 have ltu:=Qxi
 rw [F7] at htb
 simp only [rzI,rcI,reI,Qqg,Ze,Q9,J6,←hH5] at h4 h7 hre hro
 rw [←hsv] at hap
 clear hG1 hH3 hH5 hH7 hH8 hH9 hg3 hg4 hg5 hg6 hg11 he5 p3 p4 p6 p10 p11 pH q6 u7 u8' u9 gh hh k7 k8 k9 htx hst hsha xall hm hall
 generalize shC sv=sc,tuC=tc,u8s (Qa 16 0)=Z16 at *
 generalize hbl:bs.length=n at *
 generalize (bs++Qa6 n).length=LL at *
 rw [Zz (fn:=Zfm) rfl]
 simp only [Zfm,↓Zm,Zw,quiet,cF,↓pF,reduceCtorEq,Qb,Qq,Zj,Zd,Zg,Zc,Q8,Qf,Q0,Qe,Qz,Q6,Q5,↓Zo,↓Zl,↓Zq,↓Zt,↓Zr,↓Zs,cL,Qp,Qo,Qy,Qx,Qv,Ql,Qk,Qw,Qc,Q1,Q2,Qr,Qg,Qi,Qh,Qu,Qt,Qs,Qn,Qd,cJ,hok,F1,gB,c0,c3,h2b,f128,h80,h4,hz16,hlen,w1,h7,ha6,htb,f0,hap,B7,B8,htu,lsh,ltu,F9,hre,hro,im1,im2,im3,Ji,Q4]
def rtI (tid:Nat) (Hm:List Ob) (X:List Nat) (i:Nat) (ex:Env):St:=⟨[(2,.pointer (some ⟨0,0,none⟩)),(4,.slice (some ⟨tid,0,none⟩) 64 64),(5,.pointer (some ⟨Hm.length,0,none⟩)),(6,.int .i64 i)]++ex,Hm++[⟨u8s X,true,true,true,1⟩],[]⟩
theorem Q3b {tid:Nat} {Hm:List Ob} {S:List Nat} {x:Bool} (ht:Hm[tid]?=some ⟨u8s S,true,true,x,1⟩) (lS:S.length=64) :
  Jl T 0 (.block 0 (.loop Qho)) (rtI tid Hm (Qa 64 0) 0 [])=some (.normal,rtI tid Hm S 64 [(17,.bool false)]):=by
 have h:=Wf (T:=T) (base:=0) (id:=0) (body:=Qho) (fun i=>rtI tid Hm (pf 64 S i) i []) (s':=rtI tid Hm S 64 [(17,.bool false)]) 64
  (fun i hi=>by
   obtain ⟨w,hw⟩:∃ w,S[i]?=some w:=⟨_,Q3 (by omega)⟩
   have hstep:=Gu lS hi hw
   have hset:=Ba (pf 64 S i) i w
   rw [hstep] at hset
   have hle:i+1≤(u8s (pf 64 S i)).length:=by rw [Zv,Df lS (by omega)]; omega
   have e1:((i:Int)<64)=True:=eq_true (by omega)
   have w3:IntKind.i64.wrap ((i:Int)+1)=((i+1:Nat):Int):=Yx (b:=1) (by omega)
   have gt:∀ m:List Ob,(Hm++m)[tid]?=some ⟨u8s S,true,true,x,1⟩:=fun m=>by rw [Qm (Q7.1 ht).1]; exact ht
   have gw:(u8s S)[i]?=some (.int .u8 (w:Nat)):=Wy hw
   have im:Jp 0 [] [Hm.length]=[]:=Xu (by simp)
   generalize pf 64 S i=O1,pf 64 S (i+1)=O2 at *
   generalize hi1:i+1=i1 at *
   simp only [rtI,Qho,↓Zm,Zw,quiet,cF,↓pF,reduceCtorEq,Qb,Qq,Zj,Zd,Zg,Zc,Q8,Qf,Q0,Qe,Qz,Q6,Q5,↓Zo,↓Zl,↓Zq,↓Zt,↓Zr,↓Zs,cL,Qp,Qo,Qy,Qx,Qv,Ql,Qk,Qw,Qc,Q1,Q2,Qr,Qg,Qi,Qh,Qu,Qt,Qs,Qn,Qd,cJ,e1,w3,gt,gw,hset,hle,im,hi1])
  (by
   rw [Dk lS]
   simp only [rtI,Qho,↓Zm,Zw,quiet,cF,↓pF,reduceCtorEq,Qb,Qq,Zj,Zd,Zg,Zc,Q8,Qf,Q0,Qe,Qz,Q6,Q5,↓Zo,↓Zl,↓Zq,↓Zt,↓Zr,↓Zs,cL,Qp,Qo,Qy,Qx,Qv,Ql,Qk,Qw,Qc,Q1,Q2,Qr,Qg,Qi,Qh,Qu,Qt,Qs,Qn,Qd,cJ])
 rw [Dj] at h
 exact h
theorem Qok {bs:List Nat} (xb:∀ y∈bs,y<256) (hb:bs.length<2^46):evVal T 116 [Ua bs]=some (.agg (u8s (sha bs)).toArray):=by
 have hz64:Qa 64 (Value.int .u8 0)=u8s (Qa 64 0):=rfl
 have lz64:(Qa 64 0).length=64:=Q4
 obtain ⟨G,hG⟩:∃ X,X=[(⟨u8s (Qa 64 0),true,true,true,1⟩:Ob),⟨shC (.slice (some ⟨2,0,none⟩) 8 8),true,true,true,1⟩,⟨ns .u64 Rf,true,true,true,1⟩]:=⟨_,rfl⟩
 obtain ⟨s,l,h1,hg⟩:=Q8c (H:=G) (hid:=2) (xe:=true) xb hb (by rw [hG]; rfl)
 have lS:=Mx bs
 obtain ⟨tid,x,rfl,h2,h3⟩:=Grown.ob hg (by omega)
 rw [lS] at h1
 have h4:=Q3b (tid:=tid) h3 lS
 obtain ⟨G2,hG2⟩:∃ X,X=G++l:=⟨_,rfl⟩
 have g0:∀ m:List Ob,(G2++m)[0]?=some ⟨u8s (Qa 64 0),true,true,true,1⟩:=fun m=>by rw [hG2,hG]; rfl
 have s1:∀ (m:List Ob) (o:Ob),(G2.set 0 o++m)[0]?=some o:=fun m o=>by rw [hG2,hG]; rfl
 have s0:∀ (m:List Ob) (o:Ob),(G2++m).set 0 o=(G2.set 0 o)++m:=fun m o=>by rw [hG2,hG]; rfl
 rw [←hG2] at h1 h4
 simp only [rtI,Ze,Q9,J6] at h4
 have fI:fillL (Qa 8 (Value.int .u64 0)) [(0,1,.int .u64 7640891576956012808),(1,1,.int .u64 13503953896175478587),(2,1,.int .u64 4354685564936845355),(3,1,.int .u64 11912009170470909681),(4,1,.int .u64 5840696475078001361),(5,1,.int .u64 11170449401992604703),(6,1,.int .u64 2270897969802886507),(7,1,.int .u64 6620516959819538809)]=some (ns .u64 Rf):=rfl
 rw [hG] at h1
 clear hg h3 hG hG2
 have fT:fillL [Value.int .i64 0,.int .i64 0,.int .i64 0,.slice none 0 0,.int .i64 0,.int .i64 0,.int .i64 0,.int .i64 0,.int .i64 0,.int .i64 0,.int .i64 0,.int .i64 0,.int .i64 0,.int .i64 0,.int .i64 0,.int .i64 0] [(0,1,.int .i64 64),(1,1,.int .i64 80),(2,1,.int .i64 128)]=some ([Value.int .i64 64,.int .i64 80,.int .i64 128,.slice none 0 0]++Qa 12 (.int .i64 0)):=rfl
 have f12:fillL (Qa 12 (Value.int .i64 0)) [(0,1,.int .i64 1),(1,1,.int .i64 8),(2,1,.int .i64 7),(3,1,.int .i64 19),(4,1,.int .i64 61),(5,1,.int .i64 6),(6,1,.int .i64 28),(7,1,.int .i64 34),(8,1,.int .i64 39),(9,1,.int .i64 14),(10,1,.int .i64 18),(11,1,.int .i64 41)]=some tuC:=rfl
 have hs3:([Value.int .i64 64,.int .i64 80,.int .i64 128,.slice none 0 0]++Qa 12 (Value.int .i64 0)).set 3 (Value.slice (some ⟨2,0,none⟩) 8 8)=[Value.int .i64 64,.int .i64 80,.int .i64 128,.slice (some ⟨2,0,none⟩) 8 8]++Qa 12 (Value.int .i64 0):=rfl
 have hs4:splice ([Value.int .i64 64,.int .i64 80,.int .i64 128,.slice (some ⟨2,0,none⟩) 8 8]++Qa 12 (Value.int .i64 0)) 4 tuC=shC (.slice (some ⟨2,0,none⟩) 8 8):=rfl
 have lc1:([Value.int .i64 64,.int .i64 80,.int .i64 128,.slice none 0 0]++Qa 12 (Value.int .i64 0)).length=16:=rfl
 have lc2:([Value.int .i64 64,.int .i64 80,.int .i64 128,.slice (some ⟨2,0,none⟩) 8 8]++Qa 12 (Value.int .i64 0)).length=16:=rfl
 have lsh:=Qxt (.slice (some ⟨2,0,none⟩) 8 8)
 have ltu:=Qxi
 have fz:fillL (u8s (Qa 64 0)) []=some (u8s (Qa 64 0)):=rfl
 generalize [Value.int .i64 64,.int .i64 80,.int .i64 128,.slice none 0 0]++Qa 12 (Value.int .i64 0)=C1 at *
 generalize [Value.int .i64 64,.int .i64 80,.int .i64 128,.slice (some ⟨2,0,none⟩) 8 8]++Qa 12 (Value.int .i64 0)=C2 at *
 generalize shC (.slice (some ⟨2,0,none⟩) 8 8)=C3 at *
 generalize tuC=TU,sha bs=S,Qa 64 0=Z64 at *
 apply Jx
 apply Zu
 rw [Zz (fn:=Zfn) rfl]
 simp only [Zfn,↓Zm,Zw,quiet,cF,↓pF,reduceCtorEq,Qb,Qq,Zj,Zd,Zg,Zc,Q8,Qf,Q0,Qe,Qz,Q6,Q5,↓Zo,↓Zl,↓Zq,↓Zt,↓Zr,↓Zs,cL,Qp,Qo,Qy,Qx,Qv,Ql,Qk,Qw,Qc,Q1,Q2,Qr,Qg,Qi,Qh,Qu,Qt,Qs,Qn,Qd,cJ,hz64,fz,fI,fT,f12,hs3,hs4,lc1,lc2,lsh,ltu,h1,h4,g0,s0,s1,Jf,Jt,Ku,Ju,Zv,lz64,lS,Ji,Q4,Ko]
 rfl
theorem Qlw {B:Nat} {a:List Nat} {m x:Nat} (h:a[m]?=some x):num B a=num B (a.take m)+x*B^m+B^(m+1)*num B (a.drop (m+1)):=by
 have hm:m<a.length:=(Q7.1 h).1
 conv=>lhs; rw [←Yn (m+1) a,Hx,Uh h]
 rw [Js,Vz (by omega)]
theorem Qgw {B:Nat} {a:List Nat} {m:Nat} (ha:∀ x∈a,x<B) (hm:m≤a.length):num B (a.take m)<B^m:=by
 have:=num_lt (B:=B) (l:=a.take m) fun x hx=>ha x (Ki hx)
 rwa [Js,Vz hm] at this
theorem Q49 {B:Nat} {a b:List Nat} {m x y:Nat} (hl:a.length=b.length) (ha:∀ x∈a,x<B) (hb:∀ x∈b,x<B) (hx:a[m]?=some x) (hy:b[m]?=some y) (hne:x≠y) (hd:a.drop (m+1)=b.drop (m+1)):(num B a<num B b)↔x<y:=by
 have hm:m<a.length:=(Q7.1 hx).1
 rw [Qlw hx,Qlw hy,hd]
 have h1:=Qgw (m:=m) ha (by omega)
 have h2:=Qgw (m:=m) hb (by omega)
 rcases Yp x y with h | h
 ·have:(x+1)*B^m≤y*B^m:=Yh _ h
  rw [Kw,Ul] at this
  constructor<;>intro<;>omega
 ·have:(y+1)*B^m≤x*B^m:=Yh _ (by omega)
  rw [Kw,Ul] at this
  constructor<;>intro<;>omega
def Qzq (a b:List Nat) (i:Int) (ex:Env):St:=⟨[(2,.pointer (some ⟨0,0,none⟩)),(3,.pointer (some ⟨1,0,none⟩)),(5,.int .i64 i)]++ex,[⟨ns .u64 a,true,true,true,1⟩,⟨ns .u64 b,true,true,true,1⟩],[]⟩
theorem Qk9 {a b:List Nat} (ha:Nm a) (hb:Nm b) :
  ∀ m,m≤16→a.drop m=b.drop m→Jl T 0 (.loop Qmq) (Qzq a b ((m:Int)-1) []) =
   if a=b then some (.exit 0,Qzq a b (-1) [(7,.bool false)]) else some (.ret,⟨[(4,.bool (decide (num 65536 a<num 65536 b)))],[⟨ns .u64 a,true,true,true,1⟩,⟨ns .u64 b,true,true,true,1⟩],[]⟩)
 | 0,_,hd=>by
  rw [Qz,Qz] at hd
  rw [if_pos hd,Wr]
  have e:((0:Int) ≤ -1)=False:=by decide
  simp only [Qzq,Qmq,Zw,quiet,cF,↓pF,reduceCtorEq,Qb,Qq,Zj,Zd,Zg,Zc,Q8,Qf,Q0,Qe,Qz,Q6,Q5,↓Zy,↓Zx,↓Z7,↓Jb,↓Z9,↓Ja,cL,Qp,Qo,Qy,Qx,Qv,Ql,Qk,Qw,Qc,Q1,Q2,Qr,Qg,Qi,Qh,Qu,Qt,Qs,Qn,Qd,Int.zero_sub,e]
 | m+1,hm,hd=>by
  obtain ⟨x,hx⟩:∃ x,a[m]?=some x:=⟨_,Q3 (by rw [ha.len]; omega)⟩
  obtain ⟨y,hy⟩:∃ y,b[m]?=some y:=⟨_,Q3 (by rw [hb.len]; omega)⟩
  have c1:=Yy (k := .u64) hx
  have c2:=Yy (k := .u64) hy
  have l1:=ha.len
  have l2:=hb.len
  have e0:(((m+1:Nat):Int)-1)=(m:Int):=by omega
  have e1:((0:Int)≤(m:Int))=True:=eq_true (by omega)
  have e2:((m:Int)<16)=True:=eq_true (by omega)
  have e3:IntKind.i64.wrap ((m:Int)-1)=(m:Int)-1:=Kn (by omega) (by omega)
  rw [e0,Wr]
  by_cases hxy:x=y
  ·subst hxy
   have hd':a.drop m=b.drop m:=by
    rw [Yf,hx,hd,←hy,←Yf]
   have ih:=Qk9 ha hb m (by omega) hd'
   rw [←ih]
   simp only [Qzq,Qmq,Zw,quiet,cF,↓pF,reduceCtorEq,Qb,Qq,Zj,Zd,Zg,Zc,Q8,Qf,Q0,Qe,Qz,Q6,Q5,↓Zy,↓Zx,↓Z7,↓Jb,↓Z9,↓Ja,cL,Qp,Qo,Qy,Qx,Qv,Ql,Qk,Qw,Qc,Q1,Q2,Qr,Qg,Qi,Qh,Qu,Qt,Qs,Qn,Qd,e1,e2,e3,c1,c2,l1,l2,J0]
  ·have hab:¬ a=b:=fun h=>by subst h; rw [hx] at hy; cases hy; exact hxy rfl
   rw [if_neg hab]
   have hne:((x:Int) != (y:Int))=true:=by simp; omega
   have hlt:=Q49 (by rw [l1,l2]) ha.lt hb.lt hx hy hxy hd
   have hdec:decide ((x:Int)<(y:Int))=decide (num 65536 a<num 65536 b):=by
    by_cases h:x<y
    ·rw [decide_eq_true (hlt.2 h),decide_eq_true (by omega)]
    ·rw [decide_eq_false (fun k=>h (hlt.1 k)),decide_eq_false (by omega)]
   simp only [Qzq,Qmq,Zw,quiet,cF,↓pF,reduceCtorEq,Qb,Qq,Zj,Zd,Zg,Zc,Q8,Qf,Q0,Qe,Qz,Q6,Q5,↓Zy,↓Zx,↓Z7,↓Jb,↓Z9,↓Ja,cL,Qp,Qo,Qy,Qx,Qv,Ql,Qk,Qw,Qc,Q1,Q2,Qr,Qg,Qi,Qh,Qu,Qt,Qs,Qn,Qd,e1,e2,e3,c1,c2,hne,hdec,l1,l2,J0]
theorem Qxv {a b:List Nat} (ha:Nm a) (hb:Nm b):evVal T 163 [eV a,eV b]=some (.bool (decide (num 65536 a<num 65536 b))):=by
 have hl:=Qk9 ha hb 16 (Zn _) (by rw [Vv (by rw [ha.len]; omega),Vv (by rw [hb.len]; omega)])
 have l1:=ha.len
 have l2:=hb.len
 have e0:(((16:Nat):Int)-1)=15:=by decide
 rw [e0] at hl
 simp only [Qzq,Ze,Q9] at hl
 by_cases hab:a=b
 ·rw [if_pos hab] at hl
  subst hab
  apply Jx
  apply Zu
  rw [Zz (fn:=a93) rfl]
  have hd:decide (num 65536 a<num 65536 a)=false:=by simp
  simp only [a93,↓Zm,Zw,quiet,cF,↓pF,reduceCtorEq,Qb,Qq,Zj,Zd,Zg,Zc,Q8,Qf,Q0,Qe,Qz,Q6,Q5,↓Zo,↓Zl,↓Zq,↓Zt,↓Zr,↓Zs,cL,Qp,Qo,Qy,Qx,Qv,Ql,Qk,Qw,Qc,Q1,Q2,Qr,Qg,Qi,Qh,Qu,Qt,Qs,Qn,Qd,cJ,J1,hl,hd,Q4,Ji,Jf,Jt,Ku,Ju,J0,l1,l2,Ko]
  rfl
 ·rw [if_neg hab] at hl
  apply Jx
  apply Zu
  rw [Zz (fn:=a93) rfl]
  simp only [a93,↓Zm,Zw,quiet,cF,↓pF,reduceCtorEq,Qb,Qq,Zj,Zd,Zg,Zc,Q8,Qf,Q0,Qe,Qz,Q6,Q5,↓Zo,↓Zl,↓Zq,↓Zt,↓Zr,↓Zs,cL,Qp,Qo,Qy,Qx,Qv,Ql,Qk,Qw,Qc,Q1,Q2,Qr,Qg,Qi,Qh,Qu,Qt,Qs,Qn,Qd,cJ,J1,hl,Q4,Ji,Jf,Jt,Ku,Ju,J0,l1,l2,Ko]
  rfl
def Qzu (a:List Nat) (ex:Env):St:=⟨[(1,.pointer (some ⟨0,0,none⟩)),(2,.pointer (some ⟨1,0,none⟩))]++ex,[⟨ns .u64 a,true,true,true,1⟩,⟨ns .u64 Wi,true,true,true,1⟩],[]⟩
theorem Tt {a:List Nat} (ha:Nm a):evVal T 151 [eV a]=some (eV (dig 65536 16 (num 65536 a%Go.Fp.P))):=by
 have hp:=Qde
 have hP:=Mo
 have hPn:=Tu
 have hlt:=ha.num_lt
 obtain ⟨V,hV⟩:∃ V,V=num 65536 a:=⟨_,rfl⟩
 rw [←hV] at hlt ⊢
 have haV:a=dig 65536 16 V:=by rw [hV]; exact ha.eq
 have hdm:=Ya V Go.Fp.P
 have lP:=hP.len
 obtain ⟨st,hl,rfl⟩:=Vi (T:=T) (base:=0) (id:=0) (body:=Qrg)
  (fun i st=>st=Qzu (dig 65536 16 (V-i*Go.Fp.P)) [])
  (Q:=fun st=>st=Qzu (dig 65536 16 (V%Go.Fp.P)) [(6,.bool false)])
  (V/Go.Fp.P) (s:=Qzu a []) (by rw [Xv,Xw,←haV])
  (fun i st hi hs=>by
   subst hs
   have h1:(i+1)*Go.Fp.P≤V:=Uz (Yh _ hi) (Nat.div_mul_le_self V Go.Fp.P)
   rw [Kw,Ul] at h1
   have hN:=Nm.dig (V-i*Go.Fp.P)
   have hn:=D9 (v:=V-i*Go.Fp.P) (by omega)
   have g1:=Qxv hN hP
   have g2:=Qk8 hN hP (by rw [hn,hPn]; omega)
   rw [hn,hPn,decide_eq_false (by omega)] at g1
   rw [hn,hPn,show V-i*Go.Fp.P-Go.Fp.P=V-(i+1)*Go.Fp.P by rw [Kw,Ul]; omega] at g2
   have l1:=hN.len
   have l2:=Km 65536 16 (V-(i+1)*Go.Fp.P)
   generalize dig 65536 16 (V-i*Go.Fp.P)=A at *
   generalize dig 65536 16 (V-(i+1)*Go.Fp.P)=A' at *
   generalize Hn=PL at *
   refine ⟨_,?_,rfl⟩
   simp only [Qzu,Qrg,Zw,quiet,cF,↓pF,reduceCtorEq,Qb,Qq,Zj,Zd,Zg,Zc,Q8,Qf,Q0,Qe,Qz,Q6,Q5,↓Zy,↓Zx,↓Z7,↓Jb,↓Z9,↓Ja,cL,Qp,Qo,Qy,Qx,Qv,Ql,Qk,Qw,Qc,Q1,Q2,Qr,Qg,Qi,Qh,Qu,Qt,Qs,Qn,Qd,cJ,hp,g1,g2,Jf,Jt,Ku,Ju,J0,l1,l2,lP,Ji,Ko])
  (fun st hs=>by
   subst hs
   have e:V-V/Go.Fp.P*Go.Fp.P=V%Go.Fp.P:=by rw [Ve]; omega
   rw [e]
   have hm:=Jo V (by decide:0<Go.Fp.P)
   have hN:=Nm.dig (V%Go.Fp.P)
   have hn:=D9 (v:=V%Go.Fp.P) (Xr hm (by decide))
   have g1:=Qxv hN hP
   rw [hn,hPn,decide_eq_true hm] at g1
   have l1:=hN.len
   generalize dig 65536 16 (V%Go.Fp.P)=A,Hn=PL at *
   refine ⟨_,?_,rfl⟩
   simp only [Qzu,Qrg,Zw,quiet,cF,↓pF,reduceCtorEq,Qb,Qq,Zj,Zd,Zg,Zc,Q8,Qf,Q0,Qe,Qz,Q6,Q5,↓Zy,↓Zx,↓Z7,↓Jb,↓Z9,↓Ja,cL,Qp,Qo,Qy,Qx,Qv,Ql,Qk,Qw,Qc,Q1,Q2,Qr,Qg,Qi,Qh,Qu,Qt,Qs,Qn,Qd,cJ,hp,g1,Jf,Jt,Ku,Ju,J0,l1,lP,Ji,Ko])
 have hz:=De
 have lz:=Gt
 have l1:=ha.len
 have l2:=Km 65536 16 (V%Go.Fp.P)
 simp only [Qzu,Ze,Q9] at hl
 generalize Wi=Z,dig 65536 16 (V%Go.Fp.P)=R at *
 apply Jx
 apply Zu
 rw [Zz (fn:=a85) rfl]
 simp only [a85,↓Zm,Zw,quiet,cF,↓pF,reduceCtorEq,Qb,Qq,Zj,Zd,Zg,Zc,Q8,Qf,Q0,Qe,Qz,Q6,Q5,↓Zo,↓Zl,↓Zq,↓Zt,↓Zr,↓Zs,cL,Qp,Qo,Qy,Qx,Qv,Ql,Qk,Qw,Qc,Q1,Q2,Qr,Qg,Qi,Qh,Qu,Qt,Qs,Qn,Qd,cJ,hz,hl,Q4,Ji,Jf,Jt,Ku,Ju,J0,l1,l2,lz,Ko]
 rfl
end Go.Ev.YtpgphpkjlpkcbaaGreat

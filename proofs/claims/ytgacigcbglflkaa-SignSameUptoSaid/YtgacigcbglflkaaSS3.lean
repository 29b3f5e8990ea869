/- What the law leans on, part 3. -/
import Derived.Test.YtgacigcbglflkaaSS2
import Derived.Test.YtgacigcbglflkaaChecked
import Derived.KernelRfl
import Derived.Laws.Externs
import Derived.Deep.Matrix
set_option linter.unusedSimpArgs false
set_option linter.unusedVariables false
open And renaming intro → Qk
open Array renaming getElem?_eq_some_iff → Up
open Bool renaming and_eq_true → Vh, and_self → J1, and_true → J8, false_and → Qb9, false_eq_true → Zd, not_false → Jb, not_true → J6, true_and → J0
open Exists renaming intro → J4
open Int renaming cast_ofNat_Int → Gj, fdiv → Mo, fdiv_eq_ediv_of_nonneg → Yj, le_of_lt → Qvo, le_refl → Xn, natCast_add → Ga, natCast_mul → B9, natCast_nonneg → Zo, natCast_one → Qlf, natCast_zero → V9, pow_pos → Qyi, reduceAdd → Q1, reduceBEq → Zl, reduceBNe → Zk, reduceEq → Qp, reduceGE → Q6, reduceGT → Q5, reduceLE → Qo, reduceLT → Qn, reduceMul → Q0, reduceNeg → Qz, reducePow → Qy, reduceSub → Qx, reduceTDiv → Qs, reduceTMod → Qr, reduceToNat → Qd, toNat → Mi, toNat_natCast → Zu
open List renaming all_cons → Jm, all_nil → Xm, append_assoc → X1, append_nil → Kw, cons_append → Q3, drop → B1, drop_append_of_le_length → Wk, drop_drop → Mn, drop_eq_getElem?_toList_append → B5, drop_eq_getElem_cons → Us, drop_of_length_le → Wc, drop_succ_cons → Q4, drop_zero → Zc, eq_nil_of_length_eq_zero → Vk, ext_getElem? → Yu, flatten_append → V2, flatten_cons → Ki, flatten_nil → Ys, foldl_cons → Wp, foldl_nil → Bt, getD_eq_getElem?_getD → Jp, getElem?_append_left → Qe, getElem?_cons_succ → Q9, getElem?_cons_zero → Za, getElem?_drop → Yc, getElem?_eq_getElem → Qq, getElem?_eq_none → Xl, getElem?_eq_some_iff → Qt, getElem?_map → Wj, getElem?_set_ne → Xc, getElem?_set_self → Km, getElem?_take → Kt, length_append → Zn, length_cons → Zg, length_map → D0, length_nil → Zp, length_range → Ry, length_replicate → Zi, length_set → X3, length_take → Ks, map_append → Uu, map_cons → Yf, map_nil → Wo, mem_append → Kf, mem_cons → Wm, mem_map → Wu, mem_of_getElem? → Zt, mem_of_mem_take → Vd, mem_range'_1 → Qg5, mem_singleton → Gi, nil_append → Q2, not_mem_nil → Ws, range → Yi, range' → Bd, replicate → Qb, replicate_succ' → Qb6, take → Wz, take_add_one → Y6, take_append_drop → Wl, take_append_of_le_length → Yv, take_of_length_le → Zq, take_succ_cons → Q7, take_zero → Zf
open List.cons renaming injEq → Qld
open Nat renaming Coprime → Qyh, add_assoc → Kk, add_comm → Gt, add_mod → Qyg, add_mul → Kr, add_mul_div_right → Hi, add_mul_mod_self_right → Br, add_zero → Z1, and_lt_two_pow → Gh, div_add_mod → Vn, div_div_eq_div_mul → V5, div_eq_of_lt → Wy, div_le_self → Dz, div_lt_iff_lt_mul → Qbm, div_one → Uz, dvd_mul_left → Qjj, dvd_of_mod_eq_zero → Gs, eq_zero_or_pos → Yb, gcd → Qcl, le_of_dvd → U1, le_of_lt → W2, le_refl → Q8, le_trans → Un, lt_irrefl → Jz, lt_of_le_of_lt → Bg, lt_of_lt_of_le → Xo, lt_or_ge → Vr, lt_trans → Uy, min_eq_left → Vx, mod_eq_of_lt → Z6, mod_eq_zero_of_dvd → Qar, mod_lt → Jn, mod_mod → Rx, mod_mod_of_dvd → Gg, mod_mul_mod → Qlc, mod_mul_right_div_self → Ml, mod_one → Qyf, mul_add → Rw, mul_assoc → V4, mul_comm → K9, mul_le_mul → Yr, mul_le_mul_left → U4, mul_le_mul_right → Wa, mul_left_comm → Yg, mul_mod → Df, mul_one → Xb, mul_zero → Qg3, not_lt_zero → Z9, one_mul → Wr, or_lt_two_pow → Qg2, pow_add → Y4, pow_add_one' → Qji, pow_le_pow_right → Kx, pow_mod → Qye, pow_mul → Ye, pow_pos → Y9, pow_succ → K8, pow_zero → Wn, reduceAdd → Qj, reduceDiv → Qw, reduceEqDiff → Qc, reduceLT → Qm, reduceLeDiff → Ql, reduceMod → Qv, reduceMul → Qi, reducePow → Qu, reduceSub → Qh, sub_mod_eq_zero_of_mod_eq → De, sub_self → V8, sub_zero → Xj, two_pow_add_eq_or_of_lt → Bl, zero_add → Zh, zero_mul → J7
open Option renaming bind_eq_some_iff → Qa, bind_some → Qf, getD_some → Y3, isNone_none → Zj, isSome_none → Zm, map_eq_some_iff → Zs
open Option.some renaming inj → Dw, injEq → Qg
set_option linter.unusedSimpArgs false
set_option linter.unusedVariables false
namespace Go.Ev.Ytgacigcbglflkaa
open Go Go.Ev
attribute [local congr] Gf
set_option maxRecDepth 100000
structure RInv (V:Nat) (r nx:List Nat):Prop where
 len:r.length = 8
 lt:∀ x ∈ r,x < 4294967296
 len2:nx.length = 8
 lt2:∀ x ∈ nx,x < 4294967296
 eq:num 4294967296 r = V % ell
theorem Qud:2 * ell + 1 < 4294967296 ^ 8:=by decide
theorem Hu:0 < ell:=by decide
theorem RInv.step {V c c' b:Nat} {r nx r' nx':List Nat} (h:RInv V r nx) (hc:c ≤ 1) (h1:ShInv 8 c r r' c') (h2:SbInv 8 r' nx' b):(b = 0 → RInv (2 * V + c) nx' r') ∧ (b ≠ 0 → RInv (2 * V + c) r' nx'):=by
 have e1:=h1.eq
 have e2:=h2.eq
 have l1:=h.len
 have l2:=h1.len
 have l3:=h2.len
 rw [Zq (by omega)] at e1
 rw [Zq (by omega),Zq (show orderW.length ≤ 8 from Q8 _),Zq (by omega),Ql6] at e2
 have b1:=num_lt h1.lt
 have b2:=num_lt h2.lt
 rw [l2] at b1
 rw [l3] at b2
 have hp:=Qud
 have hr:num 4294967296 r < ell:=by rw [h.eq]; exact Jn _ Hu
 have hV:(2 * V + c) % ell = (2 * num 4294967296 r + c) % ell:=by
  rw [h.eq,Qyg,Df,Qyg (2 * (V % ell)),Df 2 (V % ell),Rx]
 have hle:=h1.cle
 have hbe:=h2.ble
 generalize 4294967296 ^ 8 = W at *
 have hc0:c' = 0:=by
  rcases Vr 0 c' with hh | hh
  ·have:c' = 1:=by omega
   subst this
   omega
  ·omega
 subst hc0
 generalize num 4294967296 r = x at *
 generalize hyy:num 4294967296 r' = y at *
 generalize hz:num 4294967296 nx' = z at *
 have hy:y = 2 * x + c:=by omega
 subst hy
 refine ⟨fun h0 => ⟨l3,h2.lt,l2,h1.lt,?_⟩,fun h0 => ⟨l2,h1.lt,l3,h2.lt,?_⟩⟩
 ·subst h0
  rw [hV,show 2 * x + c = z + ell by omega,Nat.add_mod_right,Z6 (by omega)]
  exact hz
 ·have:b = 1:=by omega
  subst this
  have hlt:2 * x + c < ell:=by omega
  rw [hV,Z6 hlt]
  exact hyy
theorem Qkq {H:List Ob} {id off n cap i w V:Nat} {ws r nx:List Nat} (hr:Row .u32 H id off ws) (hn:ws.length = n) (hN:n < 2 ^ 40) (hi:i < 32 * n) (hw:ws[i / 32]? = some w) (hw':w < 4294967296) (h:RInv V r nx) :
  ∃ r' nx',RInv (2 * V + w / 2 ^ (i % 32) % 2) r' nx' ∧ (Xa T H.length Bo (⟨[(0,(.slice (some ⟨id,off,none⟩) n cap)),(3,(.slice (some ⟨H.length,0,none⟩) 8 8)),(4,(.slice (some ⟨H.length + 1,0,none⟩) 8 8)),(5,(.slice (some ⟨(H.length + 2),0,none⟩) 8 8)),(6,.int .i64 ((i:Nat)))],H ++ [⟨J9 (r),true,true,true,1⟩,⟨J9 orderW,true,true,true,1⟩,⟨J9 (nx),true,true,true,1⟩],[]⟩:St) = some (.normal,(⟨[(0,(.slice (some ⟨id,off,none⟩) n cap)),(3,(.slice (some ⟨H.length,0,none⟩) 8 8)),(4,(.slice (some ⟨H.length + 1,0,none⟩) 8 8)),(5,(.slice (some ⟨(H.length + 2),0,none⟩) 8 8)),(6,.int .i64 ((i:Int) - 1))],H ++ [⟨J9 (r'),true,true,true,1⟩,⟨J9 orderW,true,true,true,1⟩,⟨J9 (nx'),true,true,true,1⟩],[]⟩:St)) ∨ Xa T H.length Bo (⟨[(0,(.slice (some ⟨id,off,none⟩) n cap)),(3,(.slice (some ⟨H.length,0,none⟩) 8 8)),(4,(.slice (some ⟨H.length + 1,0,none⟩) 8 8)),(5,(.slice (some ⟨(H.length + 2),0,none⟩) 8 8)),(6,.int .i64 ((i:Nat)))],H ++ [⟨J9 (r),true,true,true,1⟩,⟨J9 orderW,true,true,true,1⟩,⟨J9 (nx),true,true,true,1⟩],[]⟩:St) = some (.normal,(⟨[(0,(.slice (some ⟨id,off,none⟩) n cap)),(3,(.slice (some ⟨(H.length + 2),0,none⟩) 8 8)),(4,(.slice (some ⟨H.length + 1,0,none⟩) 8 8)),(5,(.slice (some ⟨H.length,0,none⟩) 8 8)),(6,.int .i64 ((i:Int) - 1))],H ++ [⟨J9 (nx'),true,true,true,1⟩,⟨J9 orderW,true,true,true,1⟩,⟨J9 (r'),true,true,true,1⟩],[]⟩:St))):=by
 have hc:w / 2 ^ (i % 32) % 2 ≤ 1:=by omega
 obtain ⟨r1,c1,hb1,i1⟩:=Qo3 (H:=H) (s:=(.slice (some ⟨id,off,none⟩) n cap)) (v := .int .i64 (i:Nat)) (nx:=nx) h.len h.lt hc
 obtain ⟨nx1,b,hb2,i2⟩:=Qo9 (H:=H) (s:=(.slice (some ⟨id,off,none⟩) n cap)) (v := .int .i64 (i:Nat)) (r:=r1) (nx:=nx) i1.len i1.lt h.len2 h.lt2
 obtain ⟨o,ho,hcell⟩:=hr
 have ho':=Uv (l:=[⟨J9 (r),true,true,true,1⟩,⟨J9 orderW,true,true,true,1⟩,⟨J9 (nx),true,true,true,1⟩]) ho
 have hwc:=hcell (i / 32) w hw
 have h1:((i:Int) ≥ 0):=by omega
 have h2:((i / 32:Nat):Int) < (n:Int):=by omega
 have h4:¬ (((i % 32:Nat):Int) < 0):=by omega
 have e1:IntKind.i64.wrap ((i:Int).tdiv 32) = ((i / 32:Nat):Int):=Vt (n:=i / 32) (by omega)
 have e2:((i:Int).tmod 32) = ((i % 32:Nat):Int):=rfl
 have e3:Mo (w:Int) (2 ^ min (i % 32) IntKind.u32.bits) = ((w / 2 ^ (i % 32):Nat):Int):=by
  rw [Vx (by show _ ≤ 32; omega),Yj _ (Qvo (Qyi (by decide)))]; simp
 have e4:Vj .and .u32 ((w / 2 ^ (i % 32):Nat):Int) 1 = ((w / 2 ^ (i % 32) % 2:Nat):Int):=by
  rw [show (1:Int) = ((1:Nat):Int) from rfl,Dv (k := .u32) (a:=w / 2 ^ (i % 32)) (b:=1) rfl (Bg (Dz _ _) hw') (by decide),Nat.and_one_is_mod]
 have e5:IntKind.i64.wrap ((i:Int) - 1) = (i:Int) - 1:=Ya (by omega) (by omega)
 have e8:((8:Nat):Int) = 8:=rfl
 have hst:=h.step hc i1 i2
 generalize w / 2 ^ (i % 32) % 2 = c at *
 by_cases hb0:b = 0
 ·subst hb0
  have e6:(((0:Nat):Int) == 0) = true:=rfl
  refine ⟨nx1,r1,hst.1 rfl,.inr ?_⟩
  simp only [Bo,J2,Xp,Xx,Kb,Jq,Xy,Z7,Kc,Xz,Kj,guardOf,Zb,opd,Yo,Kz,Kh,Env.get,Env.put,Vo,Qf,Q2,Q3,Xk,Va,Xm,Jm,St.after,Env.keep,if_true,if_false,ite_true,ite_false,Yh,Vi,unV,Ve,Kg,packed,reduceCtorEq,Zj,Zm,Zd,Qj,Qc,Qi,Zh,Zg,Zp,beq_self_eq_true,J6,Jb,Xs,Xr,Xi,X8,Xt,Xd,X9,X7,Xe,Ko,Xv,Jj,X5,Ka,Xg,Xf,Z5,Xh,Zr,Zx,Zw,Jh,Z3,Jf,Z2,Zv,Ji,Jg,Jw,Z4,Xq,Jy,Xu,X6,Jx,Xw,Jk,Ob.fresh,Ym,Yy,Yx,Zo,and_self,true_and,and_true,Zu,Xb,Kq,Vv,Kp,Jl,Vu,Jo,Jz,false_and,decide_true,decide_false,Z1,Qp,Qn,Qo,Qd,Qm,Qh,Yd,Jv,Vp,J8,J0,J1,Za,Q9,Ub,Ua,W9,W8,Q8,Xn,Z9,Xj,J7,Kl,Jc,h1,h2,h4,ho',hwc,e1,e2,e3,e4,e5,e6,e8,hb1,hb2]
 ·have hb1':b = 1:=by have:=i2.ble; omega
  subst hb1'
  have e6:(((1:Nat):Int) == 0) = false:=rfl
  refine ⟨r1,nx1,hst.2 (by decide),.inl ?_⟩
  simp only [Bo,J2,Xp,Xx,Kb,Jq,Xy,Z7,Kc,Xz,Kj,guardOf,Zb,opd,Yo,Kz,Kh,Env.get,Env.put,Vo,Qf,Q2,Q3,Xk,Va,Xm,Jm,St.after,Env.keep,if_true,if_false,ite_true,ite_false,Yh,Vi,unV,Ve,Kg,packed,reduceCtorEq,Zj,Zm,Zd,Qj,Qc,Qi,Zh,Zg,Zp,beq_self_eq_true,J6,Jb,Xs,Xr,Xi,X8,Xt,Xd,X9,X7,Xe,Ko,Xv,Jj,X5,Ka,Xg,Xf,Z5,Xh,Zr,Zx,Zw,Jh,Z3,Jf,Z2,Zv,Ji,Jg,Jw,Z4,Xq,Jy,Xu,X6,Jx,Xw,Jk,Ob.fresh,Ym,Yy,Yx,Zo,and_self,true_and,and_true,Zu,Xb,Kq,Vv,Kp,Jl,Vu,Jo,Jz,false_and,decide_true,decide_false,Z1,Qp,Qn,Qo,Qd,Qm,Qh,Yd,Jv,Vp,J8,J0,J1,Za,Q9,Ub,Ua,W9,W8,Q8,Xn,Z9,Xj,J7,Kl,Jc,h1,h2,h4,ho',hwc,e1,e2,e3,e4,e5,e6,e8,hb1,hb2]
theorem Qkp {H:List Ob} {id off n cap i w V:Nat} {ws r nx:List Nat} (hr:Row .u32 H id off ws) (hn:ws.length = n) (hN:n < 2 ^ 40) (hi:i < 32 * n) (hw:ws[i / 32]? = some w) (hw':w < 4294967296) (h:RInv V r nx) :
  ∃ r' nx',RInv (2 * V + w / 2 ^ (i % 32) % 2) r' nx' ∧ (Xa T H.length Bo (⟨[(0,(.slice (some ⟨id,off,none⟩) n cap)),(3,(.slice (some ⟨(H.length + 2),0,none⟩) 8 8)),(4,(.slice (some ⟨H.length + 1,0,none⟩) 8 8)),(5,(.slice (some ⟨H.length,0,none⟩) 8 8)),(6,.int .i64 ((i:Nat)))],H ++ [⟨J9 (nx),true,true,true,1⟩,⟨J9 orderW,true,true,true,1⟩,⟨J9 (r),true,true,true,1⟩],[]⟩:St) = some (.normal,(⟨[(0,(.slice (some ⟨id,off,none⟩) n cap)),(3,(.slice (some ⟨(H.length + 2),0,none⟩) 8 8)),(4,(.slice (some ⟨H.length + 1,0,none⟩) 8 8)),(5,(.slice (some ⟨H.length,0,none⟩) 8 8)),(6,.int .i64 ((i:Int) - 1))],H ++ [⟨J9 (nx'),true,true,true,1⟩,⟨J9 orderW,true,true,true,1⟩,⟨J9 (r'),true,true,true,1⟩],[]⟩:St)) ∨ Xa T H.length Bo (⟨[(0,(.slice (some ⟨id,off,none⟩) n cap)),(3,(.slice (some ⟨(H.length + 2),0,none⟩) 8 8)),(4,(.slice (some ⟨H.length + 1,0,none⟩) 8 8)),(5,(.slice (some ⟨H.length,0,none⟩) 8 8)),(6,.int .i64 ((i:Nat)))],H ++ [⟨J9 (nx),true,true,true,1⟩,⟨J9 orderW,true,true,true,1⟩,⟨J9 (r),true,true,true,1⟩],[]⟩:St) = some (.normal,(⟨[(0,(.slice (some ⟨id,off,none⟩) n cap)),(3,(.slice (some ⟨H.length,0,none⟩) 8 8)),(4,(.slice (some ⟨H.length + 1,0,none⟩) 8 8)),(5,(.slice (some ⟨(H.length + 2),0,none⟩) 8 8)),(6,.int .i64 ((i:Int) - 1))],H ++ [⟨J9 (r'),true,true,true,1⟩,⟨J9 orderW,true,true,true,1⟩,⟨J9 (nx'),true,true,true,1⟩],[]⟩:St))):=by
 have hc:w / 2 ^ (i % 32) % 2 ≤ 1:=by omega
 obtain ⟨r1,c1,hb1,i1⟩:=Qo2 (H:=H) (s:=(.slice (some ⟨id,off,none⟩) n cap)) (v := .int .i64 (i:Nat)) (nx:=nx) h.len h.lt hc
 obtain ⟨nx1,b,hb2,i2⟩:=Qo8 (H:=H) (s:=(.slice (some ⟨id,off,none⟩) n cap)) (v := .int .i64 (i:Nat)) (r:=r1) (nx:=nx) i1.len i1.lt h.len2 h.lt2
 obtain ⟨o,ho,hcell⟩:=hr
 have ho':=Uv (l:=[⟨J9 (nx),true,true,true,1⟩,⟨J9 orderW,true,true,true,1⟩,⟨J9 (r),true,true,true,1⟩]) ho
 have hwc:=hcell (i / 32) w hw
 have h1:((i:Int) ≥ 0):=by omega
 have h2:((i / 32:Nat):Int) < (n:Int):=by omega
 have h4:¬ (((i % 32:Nat):Int) < 0):=by omega
 have e1:IntKind.i64.wrap ((i:Int).tdiv 32) = ((i / 32:Nat):Int):=Vt (n:=i / 32) (by omega)
 have e2:((i:Int).tmod 32) = ((i % 32:Nat):Int):=rfl
 have e3:Mo (w:Int) (2 ^ min (i % 32) IntKind.u32.bits) = ((w / 2 ^ (i % 32):Nat):Int):=by
  rw [Vx (by show _ ≤ 32; omega),Yj _ (Qvo (Qyi (by decide)))]; simp
 have e4:Vj .and .u32 ((w / 2 ^ (i % 32):Nat):Int) 1 = ((w / 2 ^ (i % 32) % 2:Nat):Int):=by
  rw [show (1:Int) = ((1:Nat):Int) from rfl,Dv (k := .u32) (a:=w / 2 ^ (i % 32)) (b:=1) rfl (Bg (Dz _ _) hw') (by decide),Nat.and_one_is_mod]
 have e5:IntKind.i64.wrap ((i:Int) - 1) = (i:Int) - 1:=Ya (by omega) (by omega)
 have e8:((8:Nat):Int) = 8:=rfl
 have hst:=h.step hc i1 i2
 generalize w / 2 ^ (i % 32) % 2 = c at *
 by_cases hb0:b = 0
 ·subst hb0
  have e6:(((0:Nat):Int) == 0) = true:=rfl
  refine ⟨nx1,r1,hst.1 rfl,.inr ?_⟩
  simp only [Bo,J2,Xp,Xx,Kb,Jq,Xy,Z7,Kc,Xz,Kj,guardOf,Zb,opd,Yo,Kz,Kh,Env.get,Env.put,Vo,Qf,Q2,Q3,Xk,Va,Xm,Jm,St.after,Env.keep,if_true,if_false,ite_true,ite_false,Yh,Vi,unV,Ve,Kg,packed,reduceCtorEq,Zj,Zm,Zd,Qj,Qc,Qi,Zh,Zg,Zp,beq_self_eq_true,J6,Jb,Xs,Xr,Xi,X8,Xt,Xd,X9,X7,Xe,Ko,Xv,Jj,X5,Ka,Xg,Xf,Z5,Xh,Zr,Zx,Zw,Jh,Z3,Jf,Z2,Zv,Ji,Jg,Jw,Z4,Xq,Jy,Xu,X6,Jx,Xw,Jk,Ob.fresh,Ym,Yy,Yx,Zo,and_self,true_and,and_true,Zu,Xb,Kq,Vv,Kp,Jl,Vu,Jo,Jz,false_and,decide_true,decide_false,Z1,Qp,Qn,Qo,Qd,Qm,Qh,Yd,Jv,Vp,J8,J0,J1,Za,Q9,Ub,Ua,W9,W8,Q8,Xn,Z9,Xj,J7,Kl,Jc,h1,h2,h4,ho',hwc,e1,e2,e3,e4,e5,e6,e8,hb1,hb2]
 ·have hb1':b = 1:=by have:=i2.ble; omega
  subst hb1'
  have e6:(((1:Nat):Int) == 0) = false:=rfl
  refine ⟨r1,nx1,hst.2 (by decide),.inl ?_⟩
  simp only [Bo,J2,Xp,Xx,Kb,Jq,Xy,Z7,Kc,Xz,Kj,guardOf,Zb,opd,Yo,Kz,Kh,Env.get,Env.put,Vo,Qf,Q2,Q3,Xk,Va,Xm,Jm,St.after,Env.keep,if_true,if_false,ite_true,ite_false,Yh,Vi,unV,Ve,Kg,packed,reduceCtorEq,Zj,Zm,Zd,Qj,Qc,Qi,Zh,Zg,Zp,beq_self_eq_true,J6,Jb,Xs,Xr,Xi,X8,Xt,Xd,X9,X7,Xe,Ko,Xv,Jj,X5,Ka,Xg,Xf,Z5,Xh,Zr,Zx,Zw,Jh,Z3,Jf,Z2,Zv,Ji,Jg,Jw,Z4,Xq,Jy,Xu,X6,Jx,Xw,Jk,Ob.fresh,Ym,Yy,Yx,Zo,and_self,true_and,and_true,Zu,Xb,Kq,Vv,Kp,Jl,Vu,Jo,Jz,false_and,decide_true,decide_false,Z1,Qp,Qn,Qo,Qd,Qm,Qh,Yd,Jv,Vp,J8,J0,J1,Za,Q9,Ub,Ua,W9,W8,Q8,Xn,Z9,Xj,J7,Kl,Jc,h1,h2,h4,ho',hwc,e1,e2,e3,e4,e5,e6,e8,hb1,hb2]
def Qdd (H:List Ob) (s:Value) (p:Bool) (v:Int) (r nx:List Nat):St:=match p with
 | false => (⟨[(0,s),(3,(.slice (some ⟨H.length,0,none⟩) 8 8)),(4,(.slice (some ⟨H.length + 1,0,none⟩) 8 8)),(5,(.slice (some ⟨(H.length + 2),0,none⟩) 8 8)),(6,.int .i64 (v))],H ++ [⟨J9 (r),true,true,true,1⟩,⟨J9 orderW,true,true,true,1⟩,⟨J9 (nx),true,true,true,1⟩],[]⟩:St)
 | true => (⟨[(0,s),(3,(.slice (some ⟨(H.length + 2),0,none⟩) 8 8)),(4,(.slice (some ⟨H.length + 1,0,none⟩) 8 8)),(5,(.slice (some ⟨H.length,0,none⟩) 8 8)),(6,.int .i64 (v))],H ++ [⟨J9 (nx),true,true,true,1⟩,⟨J9 orderW,true,true,true,1⟩,⟨J9 (r),true,true,true,1⟩],[]⟩:St)
def Qde (H:List Ob) (s:Value) (p:Bool) (r nx:List Nat):St:=match p with
 | false => (⟨[(0,s),(3,(.slice (some ⟨H.length,0,none⟩) 8 8)),(4,(.slice (some ⟨H.length + 1,0,none⟩) 8 8)),(5,(.slice (some ⟨(H.length + 2),0,none⟩) 8 8)),(6,.int .i64 (-1)),(19,.bool false)],H ++ [⟨J9 (r),true,true,true,1⟩,⟨J9 orderW,true,true,true,1⟩,⟨J9 (nx),true,true,true,1⟩],[]⟩:St)
 | true => (⟨[(0,s),(3,(.slice (some ⟨(H.length + 2),0,none⟩) 8 8)),(4,(.slice (some ⟨H.length + 1,0,none⟩) 8 8)),(5,(.slice (some ⟨H.length,0,none⟩) 8 8)),(6,.int .i64 (-1)),(19,.bool false)],H ++ [⟨J9 (nx),true,true,true,1⟩,⟨J9 orderW,true,true,true,1⟩,⟨J9 (r),true,true,true,1⟩],[]⟩:St)
theorem Qm9 {H:List Ob} {id off n cap i w V:Nat} {ws r nx:List Nat} (p:Bool) (hr:Row .u32 H id off ws) (hn:ws.length = n) (hN:n < 2 ^ 40) (hi:i < 32 * n) (hw:ws[i / 32]? = some w) (hw':w < 4294967296) (h:RInv V r nx) :
  ∃ q r' nx',RInv (2 * V + w / 2 ^ (i % 32) % 2) r' nx' ∧ Xa T H.length Bo (Qdd H (.slice (some ⟨id,off,none⟩) n cap) p (i:Nat) r nx) = some (.normal,Qdd H (.slice (some ⟨id,off,none⟩) n cap) q ((i:Int) - 1) r' nx'):=by
 cases p with
 | false =>
  obtain ⟨r',nx',h1,h2⟩:=Qkq (cap:=cap) hr hn hN hi hw hw' h
  rcases h2 with h2 | h2
  ·exact ⟨false,r',nx',h1,h2⟩
  ·exact ⟨true,r',nx',h1,h2⟩
 | true =>
  obtain ⟨r',nx',h1,h2⟩:=Qkp (cap:=cap) hr hn hN hi hw hw' h
  rcases h2 with h2 | h2
  ·exact ⟨true,r',nx',h1,h2⟩
  ·exact ⟨false,r',nx',h1,h2⟩
theorem Qya {ws:List Nat} {i w:Nat} (hws:∀ x ∈ ws,x < 4294967296) (hw:ws[i / 32]? = some w):2 * (num 4294967296 ws / 2 ^ (i + 1)) + w / 2 ^ (i % 32) % 2 = num 4294967296 ws / 2 ^ i:=by
 have h1:=Gr (B:=4294967296) (by decide) hws hw
 generalize num 4294967296 ws = v at *
 have h2:w / 2 ^ (i % 32) % 2 = v / 2 ^ i % 2:=by
  have e1:(4294967296:Nat) ^ (i / 32) = 2 ^ (32 * (i / 32)):=by rw [show (4294967296:Nat) = 2 ^ 32 from rfl,← Ye]
  rw [← h1,e1]
  have e2:(2:Nat) ^ i = 2 ^ (32 * (i / 32)) * 2 ^ (i % 32):=by rw [← Y4]; congr 1; omega
  rw [e2,← V5]
  generalize v / 2 ^ (32 * (i / 32)) = u
  have e3:(4294967296:Nat) = 2 ^ (i % 32) * 2 ^ (32 - i % 32):=by rw [← Y4]; rw [show i % 32 + (32 - i % 32) = 32 by omega]
  rw [e3,Ml,Gg]
  exact ⟨2 ^ (31 - i % 32),by rw [← Qji]; congr 1; omega⟩
 rw [h2,K8,← V5]
 omega
theorem Qkr {H:List Ob} {id off n cap:Nat} {ws:List Nat} (hr:Row .u32 H id off ws) (hn:ws.length = n) (hn0:0 < n) (hN:n < 2 ^ 40) (hws:∀ x ∈ ws,x < 4294967296) :
  ∃ k l,Vl T 41 [.slice (some ⟨id,off,none⟩) n cap] H = some (.slice (some ⟨k,0,none⟩) 8 8,H ++ l,[]) ∧ Row .u32 (H ++ l) k 0 (dig 4294967296 8 (num 4294967296 ws % ell)):=by
 have h0:RInv (num 4294967296 ws / 2 ^ (32 * n)) (dig 4294967296 8 0) (dig 4294967296 8 0):=by
  refine ⟨Ku _ _ _,fun x hx => Bi (by decide) hx,Ku _ _ _,fun x hx => Bi (by decide) hx,?_⟩
  have h1:=num_lt hws
  rw [hn,show (4294967296:Nat) = 2 ^ 32 from rfl,← Ye] at h1
  rw [Uk (by decide),show (4294967296:Nat) = 2 ^ 32 from rfl,Wy h1]
  simp
 obtain ⟨s',hb,q,r,nx,rfl,hinv⟩:=Yn (T:=T) (base:=H.length) (id:=0) (body:=Bo)
  (fun j s => ∃ p r nx,s = Qdd H (.slice (some ⟨id,off,none⟩) n cap) p (((32 * n - j:Nat):Int) - 1) r nx ∧ RInv (num 4294967296 ws / 2 ^ (32 * n - j)) r nx)
  (Q:=fun s => ∃ p r nx,s = Qde H (.slice (some ⟨id,off,none⟩) n cap) p r nx ∧ RInv (num 4294967296 ws) r nx)
  (32 * n) (s:=Qdd H (.slice (some ⟨id,off,none⟩) n cap) false (((32 * n - 0:Nat):Int) - 1) (dig 4294967296 8 0) (dig 4294967296 8 0)) ⟨false,_,_,rfl,h0⟩
  (fun j s hj hs => by
   obtain ⟨p,r,nx,rfl,hI⟩:=hs
   obtain ⟨i,hi⟩:∃ i,32 * n - j = i + 1:=⟨32 * n - j - 1,by omega⟩
   obtain ⟨w,hw⟩:∃ w,ws[i / 32]? = some w:=⟨_,Qq (by omega)⟩
   rw [hi] at hI
   obtain ⟨q,r',nx',g1,g2⟩:=Qm9 (cap:=cap) p hr hn hN (by omega) hw (hws w (Zt hw)) hI
   rw [Qya hws hw] at g1
   refine ⟨_,?_,q,r',nx',rfl,by rw [show 32 * n - (j + 1) = i by omega]; exact g1⟩
   rw [hi,show 32 * n - (j + 1) = i by omega,show (((i + 1:Nat):Int) - 1) = (i:Nat) by omega]
   exact g2)
  (fun s hs => by
   obtain ⟨p,r,nx,rfl,hI⟩:=hs
   rw [V8,Wn,Uz] at hI
   refine ⟨_,?_,p,r,nx,rfl,hI⟩
   rw [V8]
   have h1:¬ ((-1:Int) ≥ 0):=by decide
   cases p with
   | false =>
    rw [show Qdd H (.slice (some ⟨id,off,none⟩) n cap) false (((0:Nat):Int) - 1) r nx = (⟨[(0,.slice (some ⟨id,off,none⟩) n cap),(3,(.slice (some ⟨H.length,0,none⟩) 8 8)),(4,(.slice (some ⟨H.length + 1,0,none⟩) 8 8)),(5,(.slice (some ⟨(H.length + 2),0,none⟩) 8 8)),(6,.int .i64 (-1))],H ++ [⟨J9 (r),true,true,true,1⟩,⟨J9 orderW,true,true,true,1⟩,⟨J9 (nx),true,true,true,1⟩],[]⟩:St) from rfl]
    simp only [Bo,J2,Xp,Xx,Kb,Jq,Xy,Z7,Kc,Xz,Kj,guardOf,Zb,opd,Yo,Kz,Kh,Env.get,Env.put,Vo,Qf,Q2,Q3,Xk,Va,Xm,Jm,St.after,Env.keep,if_true,if_false,ite_true,ite_false,Yh,Vi,unV,Ve,Kg,packed,reduceCtorEq,Zj,Zm,Zd,Qj,Qc,Qi,Zh,Zg,Zp,beq_self_eq_true,J6,Jb,Xs,Xr,Xi,X8,Xt,Xd,X9,X7,Xe,Ko,Xv,Jj,X5,Ka,Xg,Xf,Z5,Xh,Zr,Zx,Zw,Jh,Z3,Jf,Z2,Zv,Ji,Jg,Jw,Z4,Xq,Jy,Xu,X6,Jx,Xw,Jk,Ob.fresh,Ym,Yy,Yx,Zo,and_self,true_and,and_true,Zu,Xb,Kq,Vv,Kp,Jl,Vu,Jo,Jz,false_and,decide_true,decide_false,Z1,Qp,Qn,Qo,Qd,Qm,Qh,Yd,Jv,Vp,J8,J0,J1,Za,Q9,Ub,Ua,W9,W8,Q8,Xn,Z9,Xj,J7,Kl,Jc,h1,Qde]
   | true =>
    rw [show Qdd H (.slice (some ⟨id,off,none⟩) n cap) true (((0:Nat):Int) - 1) r nx = (⟨[(0,.slice (some ⟨id,off,none⟩) n cap),(3,(.slice (some ⟨(H.length + 2),0,none⟩) 8 8)),(4,(.slice (some ⟨H.length + 1,0,none⟩) 8 8)),(5,(.slice (some ⟨H.length,0,none⟩) 8 8)),(6,.int .i64 (-1))],H ++ [⟨J9 (nx),true,true,true,1⟩,⟨J9 orderW,true,true,true,1⟩,⟨J9 (r),true,true,true,1⟩],[]⟩:St) from rfl]
    simp only [Bo,J2,Xp,Xx,Kb,Jq,Xy,Z7,Kc,Xz,Kj,guardOf,Zb,opd,Yo,Kz,Kh,Env.get,Env.put,Vo,Qf,Q2,Q3,Xk,Va,Xm,Jm,St.after,Env.keep,if_true,if_false,ite_true,ite_false,Yh,Vi,unV,Ve,Kg,packed,reduceCtorEq,Zj,Zm,Zd,Qj,Qc,Qi,Zh,Zg,Zp,beq_self_eq_true,J6,Jb,Xs,Xr,Xi,X8,Xt,Xd,X9,X7,Xe,Ko,Xv,Jj,X5,Ka,Xg,Xf,Z5,Xh,Zr,Zx,Zw,Jh,Z3,Jf,Z2,Zv,Ji,Jg,Jw,Z4,Xq,Jy,Xu,X6,Jx,Xw,Jk,Ob.fresh,Ym,Yy,Yx,Zo,and_self,true_and,and_true,Zu,Xb,Kq,Vv,Kp,Jl,Vu,Jo,Jz,false_and,decide_true,decide_false,Z1,Qp,Qn,Qo,Qd,Qm,Qh,Yd,Jv,Vp,J8,J0,J1,Za,Q9,Ub,Ua,W9,W8,Q8,Xn,Z9,Xj,J7,Kl,Jc,h1,Qde])
 obtain ⟨m,hm⟩:∃ m:Int,m = ((32 * n - 0:Nat):Int) - 1:=⟨_,rfl⟩
 rw [← hm,show Qdd H (.slice (some ⟨id,off,none⟩) n cap) false m (dig 4294967296 8 0) (dig 4294967296 8 0) = (⟨[(0,.slice (some ⟨id,off,none⟩) n cap),(3,(.slice (some ⟨H.length,0,none⟩) 8 8)),(4,(.slice (some ⟨H.length + 1,0,none⟩) 8 8)),(5,(.slice (some ⟨(H.length + 2),0,none⟩) 8 8)),(6,.int .i64 (m))],H ++ [⟨J9 (dig 4294967296 8 0),true,true,true,1⟩,⟨J9 orderW,true,true,true,1⟩,⟨J9 (dig 4294967296 8 0),true,true,true,1⟩],[]⟩:St) from rfl] at hb
 have e1:IntKind.i64.wrap (IntKind.i64.wrap (32 * (n:Int)) - 1) = m:=by rw [Ya (x:=32 * (n:Int)) (by omega) (by omega),Ya (by omega) (by omega)]; omega
 have h1:((8:Int) * ((4:Nat):Int) ≤ 2 ^ 47):=by decide
 have h2:(0:Nat) < 4:=by decide
 have h3:((0:Int) ≤ 8):=by decide
 have hz:Qb 8 (Value.int .u32 0) = J9 (dig 4294967296 8 0):=rfl
 have horder:=Qc8 (H ++ [⟨J9 (dig 4294967296 8 0),true,true,true,1⟩])
 simp only [Zn,Zg,Zp,Zh,X1,Q3,Q2,Ob.fresh] at horder
 have hdig:r = dig 4294967296 8 (num 4294967296 ws % ell):=by rw [← hinv.eq,← hinv.len,Mc (by decide) hinv.lt]
 cases q with
 | false =>
  refine ⟨H.length,[⟨J9 r,true,true,true,1⟩,⟨J9 orderW,true,true,true,1⟩,⟨J9 nx,true,true,true,1⟩],?_,?_⟩
  ·rw [J3 (fn:=a41) rfl]
   simp only [a41,J2,Xp,Xx,Kb,Jq,Xy,Z7,Kc,Xz,Kj,guardOf,Zb,opd,Yo,Kz,Kh,Env.get,Env.put,Vo,Qf,Q2,Q3,Xk,Va,Xm,Jm,St.after,Env.keep,if_true,if_false,ite_true,ite_false,Yh,Vi,unV,Ve,Kg,packed,reduceCtorEq,Zj,Zm,Zd,Qj,Qc,Qi,Zh,Zg,Zp,beq_self_eq_true,J6,Jb,Xs,Xr,Xi,X8,Xt,Xd,X9,X7,Xe,Ko,Xv,Jj,X5,Ka,Xg,Xf,Z5,Xh,Zr,Zx,Zw,Jh,Z3,Jf,Z2,Zv,Ji,Jg,Jw,Z4,Xq,Jy,Xu,X6,Jx,Xw,Jk,Ob.fresh,Ym,Yy,Yx,Zo,and_self,true_and,and_true,Zu,Xb,Kq,Vv,Kp,Jl,Vu,Jo,Jz,false_and,decide_true,decide_false,Z1,Qp,Qn,Qo,Qd,Qm,Qh,Yd,Jv,Vp,J8,J0,J1,Za,Q9,Ub,Ua,W9,W8,Q8,Xn,Z9,Xj,J7,Kl,Jc,e1,h1,h2,h3,Xn,Dr,hz,horder,Zn,X1,hb,Qde]
  ·exact ⟨_,Ym,fun i x hx => by rw [Zh]; exact W7 (by rw [hdig]; exact hx)⟩
 | true =>
  refine ⟨H.length + 2,[⟨J9 nx,true,true,true,1⟩,⟨J9 orderW,true,true,true,1⟩,⟨J9 r,true,true,true,1⟩],?_,?_⟩
  ·rw [J3 (fn:=a41) rfl]
   simp only [a41,J2,Xp,Xx,Kb,Jq,Xy,Z7,Kc,Xz,Kj,guardOf,Zb,opd,Yo,Kz,Kh,Env.get,Env.put,Vo,Qf,Q2,Q3,Xk,Va,Xm,Jm,St.after,Env.keep,if_true,if_false,ite_true,ite_false,Yh,Vi,unV,Ve,Kg,packed,reduceCtorEq,Zj,Zm,Zd,Qj,Qc,Qi,Zh,Zg,Zp,beq_self_eq_true,J6,Jb,Xs,Xr,Xi,X8,Xt,Xd,X9,X7,Xe,Ko,Xv,Jj,X5,Ka,Xg,Xf,Z5,Xh,Zr,Zx,Zw,Jh,Z3,Jf,Z2,Zv,Ji,Jg,Jw,Z4,Xq,Jy,Xu,X6,Jx,Xw,Jk,Ob.fresh,Ym,Yy,Yx,Zo,and_self,true_and,and_true,Zu,Xb,Kq,Vv,Kp,Jl,Vu,Jo,Jz,false_and,decide_true,decide_false,Z1,Qp,Qn,Qo,Qd,Qm,Qh,Yd,Jv,Vp,J8,J0,J1,Za,Q9,Ub,Ua,W9,W8,Q8,Xn,Z9,Xj,J7,Kl,Jc,e1,h1,h2,h3,Xn,Dr,hz,horder,Zn,X1,hb,Qde]
  ·exact ⟨_,Yx,fun i x hx => by rw [Zh]; exact W7 (by rw [hdig]; exact hx)⟩
theorem D3 {cs v:List Value} (h:v.length = cs.length):splice cs 0 v = v:=by
 rw [Gy _ _ _ (by omega),Zf,Q2,Zh,h,List.drop_length,Kw]
theorem Qug {v w i:Nat} (hw:v / 4294967296 ^ (i / 4) % 4294967296 = w):w / 2 ^ (8 * (i % 4)) % 256 = v / 256 ^ i % 256:=by
 subst hw
 have e1:(4294967296:Nat) ^ (i / 4) = 2 ^ (32 * (i / 4)):=by rw [show (4294967296:Nat) = 2 ^ 32 from rfl,← Ye]
 have e2:(256:Nat) ^ i = 2 ^ (32 * (i / 4)) * 2 ^ (8 * (i % 4)):=by
  rw [show (256:Nat) = 2 ^ 8 from rfl,← Ye,← Y4]; congr 1; omega
 rw [e1,e2,← V5]
 generalize v / 2 ^ (32 * (i / 4)) = u
 have e3:(4294967296:Nat) = 2 ^ (8 * (i % 4)) * 2 ^ (32 - 8 * (i % 4)):=by rw [← Y4]; rw [show 8 * (i % 4) + (32 - 8 * (i % 4)) = 32 by omega]
 rw [e3,Ml,Gg]
 exact ⟨2 ^ (24 - 8 * (i % 4)),by rw [show (256:Nat) = 2 ^ 8 from rfl,← Y4]; congr 1; omega⟩
def byI (H:List Ob) (s:Value) (i:Int) (k:List Nat) (ex:Env):St :=
 ⟨[(0,s),(2,.pointer (some ⟨H.length,0,none⟩)),(3,.pointer (some ⟨H.length + 1,0,none⟩)),(5,.int .i64 i)] ++ ex,H ++ [⟨u8s (dig 256 32 0),true,true,true,1⟩,⟨u8s k,true,true,true,1⟩],[]⟩
theorem Quh {H:List Ob} {id off cap i w:Nat} {ws k:List Nat} (hr:Row .u32 H id off ws) (hn:ws.length = 8) (hi:i < 32) (hw:ws[i / 4]? = some w) (hl:k.length = 32) :
  Xa T H.length Qeb (byI H (.slice (some ⟨id,off,none⟩) 8 cap) (i:Nat) k []) = some (.normal,byI H (.slice (some ⟨id,off,none⟩) 8 cap) ((i + 1:Nat):Int) (k.set i (w / 2 ^ (8 * (i % 4)) % 256)) []):=by
 obtain ⟨o,ho,hcell⟩:=hr
 have ho':=Uv (l:=[⟨u8s (dig 256 32 0),true,true,true,1⟩,⟨u8s k,true,true,true,1⟩]) ho
 have hwc:=hcell (i / 4) w hw
 have h1:((i:Int) < 32):=by omega
 have h1':((i:Int) < ((32:Nat):Int)):=by omega
 have h2:((i / 4:Nat):Int) < ((8:Nat):Int):=by omega
 have h2':((i / 4:Nat):Int) < (8:Int):=by omega
 have h4:¬ (((8 * (i % 4):Nat):Int) < 0):=by omega
 have e1:IntKind.i64.wrap ((i:Int).tdiv 4) = ((i / 4:Nat):Int):=Vt (n:=i / 4) (by omega)
 have e2:((i:Int).tmod 4) = ((i % 4:Nat):Int):=rfl
 have e3:IntKind.i64.wrap (8 * ((i % 4:Nat):Int)) = ((8 * (i % 4):Nat):Int):=Vt (n:=8 * (i % 4)) (by omega)
 have e4:Mo (w:Int) (2 ^ min (8 * (i % 4)) IntKind.u32.bits) = ((w / 2 ^ (8 * (i % 4)):Nat):Int):=by
  rw [Vx (by show _ ≤ 32; omega),Yj _ (Qvo (Qyi (by decide)))]; simp
 have e5:IntKind.u8.wrap ((w / 2 ^ (8 * (i % 4)):Nat):Int) = ((w / 2 ^ (8 * (i % 4)) % 256:Nat):Int):=by rw [wrap_u8]; rfl
 have e6:IntKind.i64.wrap ((i:Int) + 1) = ((i + 1:Nat):Int):=Vt (n:=i + 1) (by omega)
 have h5:i + 1 ≤ (u8s k).length:=by rw [Ky,hl]; omega
 simp only [byI,Qeb,J2,Xp,Xx,Kb,Jq,Xy,Z7,Kc,Xz,Kj,guardOf,Zb,opd,Yo,Kz,Kh,Env.get,Env.put,Vo,Qf,Q2,Q3,Xk,Va,Xm,Jm,St.after,Env.keep,if_true,if_false,ite_true,ite_false,Yh,Vi,unV,Ve,Kg,packed,reduceCtorEq,Zj,Zm,Zd,Qj,Qc,Qi,Zh,Zg,Zp,beq_self_eq_true,J6,Jb,Xs,Xr,Xi,X8,Xt,Xd,X9,X7,Xe,Ko,Xv,Jj,X5,Ka,Xg,Xf,Z5,Xh,Zr,Zx,Zw,Jh,Z3,Jf,Z2,Zv,Ji,Jg,Jw,Z4,Xq,Jy,Xu,X6,Jx,Xw,Jk,Ob.fresh,Ym,Yy,Yx,Zo,and_self,true_and,and_true,Zu,Xb,Kq,Vv,Kp,Jl,Vu,Jo,Jz,false_and,decide_true,decide_false,Z1,Qp,Qn,Qo,Qd,Qm,Qh,Yd,Jv,Vp,J8,J0,J1,Za,Q9,Ub,Ua,W9,W8,Q8,Xn,Z9,Xj,J7,Kl,Jc,h1,h1',h2,h2',h4,ho',hwc,e1,e2,e3,e4,e5,e6,h5,Qhm,Gp]
theorem Qag {H:List Ob} {id off cap v:Nat} (hr:Row .u32 H id off (dig 4294967296 8 v)) :
  ∃ l,Vl T 42 [.slice (some ⟨id,off,none⟩) 8 cap] H = some (.agg (u8s (dig 256 32 v)).toArray,H ++ l,[]):=by
 obtain ⟨s',hb,k,rfl,hlen,hk⟩:=Yn (T:=T) (base:=H.length) (id:=0) (body:=Qeb)
  (fun i s => ∃ k,s = byI H (.slice (some ⟨id,off,none⟩) 8 cap) (i:Nat) k [] ∧ k.length = 32 ∧ ∀ t,t < i → k[t]? = some (v / 256 ^ t % 256))
  (Q:=fun s => ∃ k,s = byI H (.slice (some ⟨id,off,none⟩) 8 cap) 32 k [(6,.bool false)] ∧ k.length = 32 ∧ ∀ t,t < 32 → k[t]? = some (v / 256 ^ t % 256))
  32 (s:=byI H (.slice (some ⟨id,off,none⟩) 8 cap) ((0:Nat):Int) (dig 256 32 0) []) ⟨_,rfl,Ku _ _ _,fun t ht => by omega⟩
  (fun i s hi hs => by
   obtain ⟨k,rfl,hl,hk⟩:=hs
   refine ⟨_,Quh hr (Ku _ _ _) hi (Bz (by omega)) hl,_,rfl,by rw [X3]; exact hl,fun t ht => ?_⟩
   by_cases h:t = i
   ·subst h
    rw [Km (by omega),Qug rfl]
   ·rw [Xc (by omega)]
    exact hk t (by omega))
  (fun s hs => by
   obtain ⟨k,rfl,hl,hk⟩:=hs
   have h1:¬ (((32:Nat):Int) < (32:Int)):=by omega
   refine ⟨_,?_,k,rfl,hl,hk⟩
   simp only [byI,Qeb,J2,Xp,Xx,Kb,Jq,Xy,Z7,Kc,Xz,Kj,guardOf,Zb,opd,Yo,Kz,Kh,Env.get,Env.put,Vo,Qf,Q2,Q3,Xk,Va,Xm,Jm,St.after,Env.keep,if_true,if_false,ite_true,ite_false,Yh,Vi,unV,Ve,Kg,packed,reduceCtorEq,Zj,Zm,Zd,Qj,Qc,Qi,Zh,Zg,Zp,beq_self_eq_true,J6,Jb,Xs,Xr,Xi,X8,Xt,Xd,X9,X7,Xe,Ko,Xv,Jj,X5,Ka,Xg,Xf,Z5,Xh,Zr,Zx,Zw,Jh,Z3,Jf,Z2,Zv,Ji,Jg,Jw,Z4,Xq,Jy,Xu,X6,Jx,Xw,Jk,Ob.fresh,Ym,Yy,Yx,Zo,and_self,true_and,and_true,Zu,Xb,Kq,Vv,Kp,Jl,Vu,Jo,Jz,false_and,decide_true,decide_false,Z1,Qp,Qn,Qo,Qd,Qm,Qh,Yd,Jv,Vp,J8,J0,J1,Za,Q9,Ub,Ua,W9,W8,Q8,Xn,Z9,Xj,J7,Kl,Jc,h1]
   rfl)
 have hkk:k = dig 256 32 v:=Rp hlen fun i hi => hk i hi
 subst hkk
 have hz:Qb 32 (Value.int .u8 0) = u8s (dig 256 32 0):=rfl
 have h1:0 + 32 ≤ (u8s (dig 256 32 v)).length:=by rw [Ky,Ku]; omega
 have h1':32 ≤ (u8s (dig 256 32 v)).length:=by rw [Ky,Ku]; omega
 have h2:((u8s (dig 256 32 v)).drop 0).take 32 = u8s (dig 256 32 v):=by rw [Zc,Zq (by rw [Ky,Ku]; omega)]
 have h3:(u8s (dig 256 32 v)).length = 32:=by rw [Ky,Ku]
 have h4:0 + (u8s (dig 256 32 v)).length ≤ (u8s (dig 256 32 0)).length:=by rw [Ky,Ky,Ku,Ku]; omega
 have h5:splice (u8s (dig 256 32 0)) 0 (u8s (dig 256 32 v)) = u8s (dig 256 32 v):=D3 (by rw [Ky,Ky,Ku,Ku])
 have h6:=Ur (H:=H) (r:=[⟨u8s (dig 256 32 v),true,true,true,1⟩]) (e:=true) (s:=1) h4
 rw [h5] at h6
 refine ⟨[⟨u8s (dig 256 32 v),true,true,true,1⟩,⟨u8s (dig 256 32 v),true,true,true,1⟩],?_⟩
 rw [show byI H (.slice (some ⟨id,off,none⟩) 8 cap) ((0:Nat):Int) (dig 256 32 0) [] = ⟨[(0,.slice (some ⟨id,off,none⟩) 8 cap),(2,.pointer (some ⟨H.length,0,none⟩)),(3,.pointer (some ⟨H.length + 1,0,none⟩)),(5,.int .i64 0)],H ++ [⟨u8s (dig 256 32 0),true,true,true,1⟩,⟨u8s (dig 256 32 0),true,true,true,1⟩],[]⟩ from rfl] at hb
 rw [J3 (fn:=a42) rfl]
 simp only [a42,J2,Xp,Xx,Kb,Jq,Xy,Z7,Kc,Xz,Kj,guardOf,Zb,opd,Yo,Kz,Kh,Env.get,Env.put,Vo,Qf,Q2,Q3,Xk,Va,Xm,Jm,St.after,Env.keep,if_true,if_false,ite_true,ite_false,Yh,Vi,unV,Ve,Kg,packed,reduceCtorEq,Zj,Zm,Zd,Qj,Qc,Qi,Zh,Zg,Zp,beq_self_eq_true,J6,Jb,Xs,Xr,Xi,X8,Xt,Xd,X9,X7,Xe,Ko,Xv,Jj,X5,Ka,Xg,Xf,Z5,Xh,Zr,Zx,Zw,Jh,Z3,Jf,Z2,Zv,Ji,Jg,Jw,Z4,Xq,Jy,Xu,X6,Jx,Xw,Jk,Ob.fresh,Ym,Yy,Yx,Zo,and_self,true_and,and_true,Zu,Xb,Kq,Vv,Kp,Jl,Vu,Jo,Jz,false_and,decide_true,decide_false,Z1,Qp,Qn,Qo,Qd,Qm,Qh,Yd,Jv,Vp,J8,J0,J1,Za,Q9,Ub,Ua,W9,W8,Q8,Xn,Z9,Xj,J7,Kl,Jc,hz,hb,byI,h1,h1',h2,Kl,Jc,h3,h6,Zn,X1]
theorem Hp {H:List Ob} {ws:List Nat}:Row .u32 (H ++ [Ob.fresh (J9 ws)]) H.length 0 ws:=⟨_,Ym,fun i x hx => by rw [Zh]; exact W7 hx⟩
theorem Qpg {H:List Ob} {ws:List Nat} {o:Ob}:Row .u32 (H ++ [⟨J9 ws,true,true,true,1⟩,o]) H.length 0 ws:=⟨_,Ym,fun i x hx => by rw [Zh]; exact W7 hx⟩
def Qnf (l:List Nat):Value := .agg (u8s l).toArray
theorem Qv2:Wi 32 32 none none none = some (0,32,32):=rfl
theorem Hw {n v:Nat}:∀ x ∈ dig 4294967296 n v,x < 4294967296:=fun x hx => Bi (by decide) hx
theorem Qch {l:List Nat} (hl:l.length = 32) (h:∀ x ∈ l,x < 256):num 256 l < 4294967296 ^ 8:=by
 have:=num_lt h
 rw [hl] at this
 rw [show (4294967296:Nat) ^ 8 = 256 ^ 32 from by decide]; exact this
theorem Qko {H:List Ob} {a b c:List Nat} (ha:Row .u8 H 0 0 a) (hb:Row .u8 H 1 0 b) (hc:Row .u8 H 2 0 c) (la:a.length = 32) (lb:b.length = 32) (lc:c.length = 32)
    (xa:∀ x ∈ a,x < 256) (xb:∀ x ∈ b,x < 256) (xc:∀ x ∈ c,x < 256) :
    ∃ k l l2,Vl T 38 [.slice (some ⟨0,0,none⟩) 32 32] H = some (.slice (some ⟨H.length,0,none⟩) 8 8,H ++ [Ob.fresh (J9 (dig 4294967296 8 (num 256 a)))],[]) ∧
      (let H5:=H ++ [Ob.fresh (J9 (dig 4294967296 8 (num 256 a)))]
       let H6:=H5 ++ [Ob.fresh (J9 (dig 4294967296 8 (num 256 b)))]
       let H7:=H6 ++ [Ob.fresh (J9 (dig 4294967296 16 (num 256 a * num 256 b)))]
       let H8:=H7 ++ [Ob.fresh (J9 (dig 4294967296 8 (num 256 c)))]
       let H10:=H8 ++ [⟨J9 (dig 4294967296 17 (num 256 a * num 256 b + num 256 c)),true,true,true,1⟩,⟨[.int .u32 0],true,true,true,1⟩]
       Vl T 38 [.slice (some ⟨1,0,none⟩) 32 32] H5 = some (.slice (some ⟨H5.length,0,none⟩) 8 8,H6,[]) ∧
       Vl T 39 [.slice (some ⟨H.length,0,none⟩) 8 8,.slice (some ⟨H5.length,0,none⟩) 8 8] H6 = some (.slice (some ⟨H6.length,0,none⟩) 16 16,H7,[]) ∧
       Vl T 38 [.slice (some ⟨2,0,none⟩) 32 32] H7 = some (.slice (some ⟨H7.length,0,none⟩) 8 8,H8,[]) ∧
       Vl T 40 [.slice (some ⟨H6.length,0,none⟩) 16 16,.slice (some ⟨H7.length,0,none⟩) 8 8] H8 = some (.slice (some ⟨H8.length,0,none⟩) 17 17,H10,[]) ∧
       Vl T 41 [.slice (some ⟨H8.length,0,none⟩) 17 17] H10 = some (.slice (some ⟨k,0,none⟩) 8 8,H10 ++ l,[]) ∧
       Vl T 42 [.slice (some ⟨k,0,none⟩) 8 8] (H10 ++ l) = some (Qnf (dig 256 32 ((num 256 a * num 256 b + num 256 c) % ell)),H10 ++ l ++ l2,[])):=by
  have na:=Qch la xa
  have nb:=Qch lb xb
  have nc:=Qch lc xc
  have h1:=Qfh (c:=32) ha la (by decide) xa
  have h2:=Qfh (c:=32) (hb.app (l:=[Ob.fresh (J9 (dig 4294967296 8 (num 256 a)))])) lb (by decide) xb
  have r1:=(Hp (H:=H) (ws:=dig 4294967296 8 (num 256 a))).app (l:=[Ob.fresh (J9 (dig 4294967296 8 (num 256 b)))])
  have r2:=Hp (H:=H ++ [Ob.fresh (J9 (dig 4294967296 8 (num 256 a)))]) (ws:=dig 4294967296 8 (num 256 b))
  have h3:=Qox (c1:=8) (c2:=8) r1 r2 (Ku _ _ _) (Ku _ _ _) (by decide) Hw Hw
  rw [Uk (by decide),Uk (by decide),Z6 na,Z6 nb] at h3
  have h4:=Qfh (c:=32) (((hc.app (l:=[Ob.fresh (J9 (dig 4294967296 8 (num 256 a)))])).app (l:=[Ob.fresh (J9 (dig 4294967296 8 (num 256 b)))])).app (l:=[Ob.fresh (J9 (dig 4294967296 16 (num 256 a * num 256 b)))])) lc (by decide) xc
  have r3:=(Hp (H:=H ++ [Ob.fresh (J9 (dig 4294967296 8 (num 256 a)))] ++ [Ob.fresh (J9 (dig 4294967296 8 (num 256 b)))]) (ws:=dig 4294967296 16 (num 256 a * num 256 b))).app (l:=[Ob.fresh (J9 (dig 4294967296 8 (num 256 c)))])
  have r4:=Hp (H:=H ++ [Ob.fresh (J9 (dig 4294967296 8 (num 256 a)))] ++ [Ob.fresh (J9 (dig 4294967296 8 (num 256 b)))] ++ [Ob.fresh (J9 (dig 4294967296 16 (num 256 a * num 256 b)))]) (ws:=dig 4294967296 8 (num 256 c))
  have h5:=Qsu (c1:=16) (c2:=8) r3 r4 (Ku _ _ _) (Ku _ _ _) (by decide) (by decide) (by decide) Hw Hw
  have nab:num 256 a * num 256 b < 4294967296 ^ 16:=by
    rw [show (4294967296:Nat) ^ 16 = 4294967296 ^ 8 * 4294967296 ^ 8 from by decide]
    exact Nat.mul_lt_mul'' na nb
  rw [Uk (by decide),Uk (by decide),Z6 nab,Z6 nc] at h5
  have r5:=Qpg (H:=H ++ [Ob.fresh (J9 (dig 4294967296 8 (num 256 a)))] ++ [Ob.fresh (J9 (dig 4294967296 8 (num 256 b)))] ++ [Ob.fresh (J9 (dig 4294967296 16 (num 256 a * num 256 b)))] ++ [Ob.fresh (J9 (dig 4294967296 8 (num 256 c)))]) (ws:=dig 4294967296 17 (num 256 a * num 256 b + num 256 c)) (o:=⟨[.int .u32 0],true,true,true,1⟩)
  obtain ⟨k,l,h6,r6⟩:=Qkr (cap:=17) r5 (Ku _ _ _) (by decide) (by decide) Hw
  have nabc:num 256 a * num 256 b + num 256 c < 4294967296 ^ 17:=by
    have:(4294967296:Nat) ^ 16 + 4294967296 ^ 8 ≤ 4294967296 ^ 17:=by decide
    omega
  rw [Uk (by decide),Z6 nabc] at r6
  obtain ⟨l2,h7⟩:=Qag (cap:=8) r6
  exact ⟨k,l,l2,h1,h2,h3,h4,h5,h6,h7⟩
theorem Qm8 {a b c:List Nat} (la:a.length = 32) (lb:b.length = 32) (lc:c.length = 32) (xa:∀ x ∈ a,x < 256) (xb:∀ x ∈ b,x < 256) (xc:∀ x ∈ c,x < 256) :
  ∃ l,Vl T 18 [Qnf a,Qnf b,Qnf c] [] = some (Qnf (dig 256 32 ((num 256 a * num 256 b + num 256 c) % ell)),l,[]):=by
 have hz:Qb 32 (Value.int .u8 0) = u8s (dig 256 32 0):=rfl
 obtain ⟨H,hH⟩:∃ H:List Ob,H = [⟨u8s a,true,true,true,1⟩,⟨u8s b,true,true,true,1⟩,⟨u8s c,true,true,true,1⟩,⟨u8s (dig 256 32 0),true,true,true,1⟩]:=⟨_,rfl⟩
 have ra:Row .u8 H 0 0 a:=by subst hH; exact ⟨_,rfl,fun i x hx => by rw [Zh]; exact Ud hx⟩
 have rb:Row .u8 H 1 0 b:=by subst hH; exact ⟨_,rfl,fun i x hx => by rw [Zh]; exact Ud hx⟩
 have rc:Row .u8 H 2 0 c:=by subst hH; exact ⟨_,rfl,fun i x hx => by rw [Zh]; exact Ud hx⟩
 obtain ⟨k,l,l2,h1,h2,h3,h4,h5,h6,h7⟩:=Qko ra rb rc la lb lc xa xb xc
 generalize hR:dig 256 32 ((num 256 a * num 256 b + num 256 c) % ell) = R at *
 have lR:(u8s R).length = 32:=by rw [Ky,← hR,Ku]
 generalize hH5:H ++ [Ob.fresh (J9 (dig 4294967296 8 (num 256 a)))] = H5 at h1 h2 h3 h4 h5 h6 h7
 generalize hH6:H5 ++ [Ob.fresh (J9 (dig 4294967296 8 (num 256 b)))] = H6 at h2 h3 h4 h5 h6 h7
 generalize hH7:H6 ++ [Ob.fresh (J9 (dig 4294967296 16 (num 256 a * num 256 b)))] = H7 at h3 h4 h5 h6 h7
 generalize hH8:H7 ++ [Ob.fresh (J9 (dig 4294967296 8 (num 256 c)))] = H8 at h4 h5 h6 h7
 generalize hH10:H8 ++ [⟨J9 (dig 4294967296 17 (num 256 a * num 256 b + num 256 c)),true,true,true,1⟩,⟨[.int .u32 0],true,true,true,1⟩] = H10 at h5 h6 h7
 generalize hH11:H10 ++ l = H11 at h6 h7
 generalize hG:H11 ++ l2 = G at h7
 obtain ⟨t,hGt⟩:∃ t,G = ⟨u8s a,true,true,true,1⟩ :: ⟨u8s b,true,true,true,1⟩ :: ⟨u8s c,true,true,true,1⟩ :: ⟨u8s (dig 256 32 0),true,true,true,1⟩ :: t:=by
  rw [← hG,← hH11,← hH10,← hH8,← hH7,← hH6,← hH5,hH]; exact ⟨_,rfl⟩
 have hst:storeAt G ⟨3,0,none⟩ (u8s R) = some (⟨u8s a,true,true,true,1⟩ :: ⟨u8s b,true,true,true,1⟩ :: ⟨u8s c,true,true,true,1⟩ :: ⟨u8s R,true,true,true,1⟩ :: t):=by
  rw [hGt]
  have h8:=Ur (H:=[⟨u8s a,true,true,true,1⟩,⟨u8s b,true,true,true,1⟩,⟨u8s c,true,true,true,1⟩]) (r:=t) (cs:=u8s (dig 256 32 0)) (e:=true) (s:=1) (off:=0) (v:=u8s R) (by rw [lR,Ky,Ku]; omega)
  rw [D3 (by rw [lR,Ky,Ku])] at h8
  exact h8
 have hlv:liveAt (⟨u8s a,true,true,true,1⟩ :: ⟨u8s b,true,true,true,1⟩ :: ⟨u8s c,true,true,true,1⟩ :: ⟨u8s R,true,true,true,1⟩ :: t) 3 = some ⟨u8s R,true,true,true,1⟩:=rfl
 have h9:((u8s R).drop 0).take 32 = u8s R:=by rw [Zc,Zq (by omega)]
 refine ⟨⟨u8s a,true,true,true,1⟩ :: ⟨u8s b,true,true,true,1⟩ :: ⟨u8s c,true,true,true,1⟩ :: ⟨u8s R,true,true,true,1⟩ :: t,?_⟩
 rw [J3 (fn:=a19) rfl]
 simp only [Qnf] at h7 ⊢
 simp only [a19,J2,Xp,Xx,Kb,Jq,Xy,Z7,Kc,Xz,Kj,guardOf,Zb,opd,Yo,Kz,Kh,Env.get,Env.put,Vo,Qf,Q2,Q3,Xk,Va,Xm,Jm,St.after,Env.keep,if_true,if_false,ite_true,ite_false,Yh,Vi,unV,Ve,Kg,packed,reduceCtorEq,Zj,Zm,Zd,Qj,Qc,Qi,Zh,Zg,Zp,beq_self_eq_true,J6,Jb,Xs,Xr,Xi,X8,Xt,Xd,X9,X7,Xe,Ko,Xv,Jj,X5,Ka,Xg,Xf,Z5,Xh,Zr,Zx,Zw,Jh,Z3,Jf,Z2,Zv,Ji,Jg,Jw,Z4,Xq,Jy,Xu,X6,Jx,Xw,Jk,Ob.fresh,Ym,Yy,Yx,Zo,and_self,true_and,and_true,Zu,Xb,Kq,Vv,Kp,Jl,Vu,Jo,Jz,false_and,decide_true,decide_false,Z1,Qp,Qn,Qo,Qd,Qm,Qh,Yd,Jv,Vp,J8,J0,J1,Za,Q9,Ub,Ua,W9,W8,Q8,Xn,Z9,Xj,J7,Kl,Jc,hz,← hH,Qv2,h1,h2,h3,h4,h5,h6,h7,lR,hst,hlv,h9]
def k1 (n:Nat):List Nat:=n :: Qb 31 0
def U2 (a:List Nat) (x y:Nat):List Nat:=(a.set 0 (x &&& 248)).set 31 ((y &&& 127) ||| 64)
theorem Qu3 {a b:Nat} (h:a < 256):a &&& b < 256:=Bg Nat.and_le_left h
theorem Qrh {a:List Nat} {x y:Nat} (la:a.length = 32) (hx:a[0]? = some x) (hy:a[31]? = some y) (hx':x < 256) (hy':y < 256) :
  ∃ l,Vl T 26 [.agg (u8s a).toArray] [] = some (.agg (u8s (U2 a x y)).toArray,l,[]):=by
 have hz:Qb 32 (Value.int .u8 0) = u8s (dig 256 32 0):=rfl
 have hxc:=Ud hx
 have hyc:=Ud (l:=a.set 0 (x &&& 248)) (i:=31) (x:=y) (by rw [Xc (by decide)]; exact hy)
 have e1:Vj .and .u8 (x:Int) 248 = ((x &&& 248:Nat):Int):=Dv (k := .u8) (a:=x) (b:=248) rfl hx' (by decide)
 have e2:Vj .and .u8 (y:Int) 127 = ((y &&& 127:Nat):Int):=Dv (k := .u8) (a:=y) (b:=127) rfl hy' (by decide)
 have e3:Vj .or .u8 ((y &&& 127:Nat):Int) 64 = (((y &&& 127) ||| 64:Nat):Int):=B0 (k := .u8) (a:=y &&& 127) (b:=64) rfl (Qu3 hy') (by decide)
 have l1:(u8s a).length = 32:=by rw [Ky,la]
 have l2:(u8s (a.set 0 (x &&& 248))).length = 32:=by rw [Ky,X3,la]
 have l3:(u8s (U2 a x y)).length = 32:=by rw [Ky,U2,X3,X3,la]
 have s1:=Ur (H:=[]) (r:=[⟨u8s (dig 256 32 0),true,true,true,1⟩]) (cs:=u8s a) (e:=true) (s:=1) (off:=0) (v:=[.int .u8 ((x &&& 248:Nat):Int)]) (by rw [l1]; simp)
 rw [Jo,Gp] at s1
 have s2:=Ur (H:=[]) (r:=[⟨u8s (dig 256 32 0),true,true,true,1⟩]) (cs:=u8s (a.set 0 (x &&& 248))) (e:=true) (s:=1) (off:=31) (v:=[.int .u8 (((y &&& 127) ||| 64:Nat):Int)]) (by rw [l2]; simp)
 rw [Jo,Gp] at s2
 have s3:=Qhm (H:=[]) (a:=⟨u8s (U2 a x y),true,true,true,1⟩) (r:=[]) (cs:=u8s (dig 256 32 0)) (e:=true) (s:=1) (off:=0) (v:=u8s (U2 a x y)) (by rw [l3,Ky,Ku]; decide)
 rw [D3 (by rw [l3,Ky,Ku])] at s3
 have t3:((u8s (U2 a x y)).drop 0).take 32 = u8s (U2 a x y):=by rw [Zc,Zq (by omega)]
 have v0:∀ (p q:List Value),liveAt [⟨p,true,true,true,1⟩,⟨q,true,true,true,1⟩] 0 = some ⟨p,true,true,true,1⟩:=fun _ _ => rfl
 have v1:∀ (p q:List Value),liveAt [⟨p,true,true,true,1⟩,⟨q,true,true,true,1⟩] 1 = some ⟨q,true,true,true,1⟩:=fun _ _ => rfl
 have i0:((0:Int) < ((32:Nat):Int)):=by decide
 have i31:((31:Int) < ((32:Nat):Int)):=by decide
 simp only [Q2,Zp] at s1 s2 s3
 rw [show (a.set 0 (x &&& 248)).set 31 ((y &&& 127) ||| 64) = U2 a x y from rfl] at s2
 simp only [Zh] at s3
 refine ⟨[⟨u8s (U2 a x y),true,true,true,1⟩,⟨u8s (U2 a x y),true,true,true,1⟩],?_⟩
 rw [J3 (fn:=a16) rfl]
 simp only [a16,J2,Xp,Xx,Kb,Jq,Xy,Z7,Kc,Xz,Kj,guardOf,Zb,opd,Yo,Kz,Kh,Env.get,Env.put,Vo,Qf,Q2,Q3,Xk,Va,Xm,Jm,St.after,Env.keep,if_true,if_false,ite_true,ite_false,Yh,Vi,unV,Ve,Kg,packed,reduceCtorEq,Zj,Zm,Zd,Qj,Qc,Qi,Zh,Zg,Zp,beq_self_eq_true,J6,Jb,Xs,Xr,Xi,X8,Xt,Xd,X9,X7,Xe,Ko,Xv,Jj,X5,Ka,Xg,Xf,Z5,Xh,Zr,Zx,Zw,Jh,Z3,Jf,Z2,Zv,Ji,Jg,Jw,Z4,Xq,Jy,Xu,X6,Jx,Xw,Jk,Ob.fresh,Ym,Yy,Yx,Zo,and_self,true_and,and_true,Zu,Xb,Kq,Vv,Kp,Jl,Vu,Jo,Jz,false_and,decide_true,decide_false,Z1,Qp,Qn,Qo,Qd,Qm,Qh,Yd,Jv,Vp,J8,J0,J1,Za,Q9,Ub,Ua,W9,W8,Q8,Xn,Z9,Xj,J7,Kl,Jc,hz,hxc,hyc,e1,e2,e3,i0,i31,v0,v1,s1,s2,l3,t3,s3]
theorem Qln (b:Bool):rf (.bool b) = true:=rfl
theorem v0 (p q:List Value):liveAt [⟨p,true,true,true,1⟩,⟨q,true,true,true,1⟩] 0 = some ⟨p,true,true,true,1⟩:=rfl
theorem v1 (p q:List Value):liveAt [⟨p,true,true,true,1⟩,⟨q,true,true,true,1⟩] 1 = some ⟨q,true,true,true,1⟩:=rfl
end Go.Ev.Ytgacigcbglflkaa
namespace Go.Ev.Ytgacigcbglflkaa
open Go Go.Ev
attribute [local congr] Gf
set_option maxRecDepth 100000
structure LessInv (k:Nat) (ws os:List Nat) (b:Nat):Prop where
 ble:b ≤ 1
 eq:∃ z,z < 4294967296 ^ k ∧ num 4294967296 (ws.take k) + b * 4294967296 ^ k = num 4294967296 (os.take k) + z
theorem LessInv.step {k b x y:Nat} {ws os:List Nat} (h:LessInv k ws os b) (hx:ws[k]? = some x) (hy:os[k]? = some y) (hx':x < 4294967296) (hy':y < 4294967296):LessInv (k + 1) ws os (R1 x y b):=by
 have hb:=h.ble
 have hd:R0 x y b < 4294967296 ∧ x + 4294967296 * R1 x y b = y + b + R0 x y b ∧ R1 x y b ≤ 1:=by
  unfold R0 R1; split <;> omega
 refine ⟨hd.2.2,?_⟩
 obtain ⟨z,hz,h2⟩:=h.eq
 rw [Wx hx,Wx hy]
 have h3:=hd.2.1
 have h4:=hd.1
 generalize R0 x y b = d at *
 generalize R1 x y b = q at *
 refine ⟨z + d * 4294967296 ^ k,?_,?_⟩
 ·have:(d + 1) * 4294967296 ^ k ≤ 4294967296 * 4294967296 ^ k:=Wa _ h4
  rw [Kr,Wr] at this
  rw [K8,K9 (4294967296 ^ k)]
  omega
 ·have e2:q * 4294967296 ^ (k + 1) = 4294967296 * q * 4294967296 ^ k:=by
   rw [K8]; simp only [V4,Yg,K9]
  have e3:(x + 4294967296 * q) * 4294967296 ^ k = (y + b + d) * 4294967296 ^ k:=by rw [h3]
  rw [Kr,Kr,Kr] at e3
  rw [e2]
  omega
def T5 (H:List Ob) (s1 s2:Value) (n b k:Nat) (ex:Env):St:=⟨[(0,s1),(1,s2),(5,.int .u32 b),(8,.int .i64 n),(9,.int .i64 k)] ++ ex,H,[]⟩
theorem Qne {H:List Ob} {id1 off1 c1 id2 off2 c2 n b k x y:Nat} {ws os:List Nat} (hr1:Row .u32 H id1 off1 ws) (hr2:Row .u32 H id2 off2 os) (hN:n < 2 ^ 40) (hk:k < n) (hx:ws[k]? = some x) (hy:os[k]? = some y) (hx':x < 4294967296) (hy':y < 4294967296) (hb:b ≤ 1) :
  Xa T H.length Qd8 (T5 H (.slice (some ⟨id1,off1,none⟩) n c1) (.slice (some ⟨id2,off2,none⟩) n c2) n b k []) = some (.normal,T5 H (.slice (some ⟨id1,off1,none⟩) n c1) (.slice (some ⟨id2,off2,none⟩) n c2) n (R1 x y b) (k + 1) []):=by
 obtain ⟨o1,ho1,hc1⟩:=hr1
 obtain ⟨o2,ho2,hc2⟩:=hr2
 have hxc:=hc1 k x hx
 have hyc:=hc2 k y hy
 have h1:((k:Int) < (n:Int)):=by omega
 have hsub:=Qcv hx' hy' hb
 have e10:IntKind.i64.wrap ((k:Int) + 1) = ((k + 1:Nat):Int):=Vt (n:=k + 1) (by omega)
 simp only [T5,Qd8,J2,Xp,Xx,Kb,Jq,Xy,Z7,Kc,Xz,Kj,guardOf,Zb,opd,Yo,Kz,Kh,Env.get,Env.put,Vo,Qf,Q2,Q3,Xk,Va,Xm,Jm,St.after,Env.keep,if_true,if_false,ite_true,ite_false,Yh,Vi,unV,Ve,Kg,packed,reduceCtorEq,Zj,Zm,Zd,Qj,Qc,Qi,Zh,Zg,Zp,beq_self_eq_true,J6,Jb,Xs,Xr,Xi,X8,Xt,Xd,X9,X7,Xe,Ko,Xv,Jj,X5,Ka,Xg,Xf,Z5,Xh,Zr,Zx,Zw,Jh,Z3,Jf,Z2,Zv,Ji,Jg,Jw,Z4,Xq,Jy,Xu,X6,Jx,Xw,Jk,Ob.fresh,Ym,Yy,Yx,Zo,and_self,true_and,and_true,Zu,Xb,Kq,Vv,Kp,Jl,Vu,Jo,Jz,false_and,decide_true,decide_false,Z1,Qp,Qn,Qo,Qd,Qm,Qh,Yd,Jv,Vp,J8,J0,J1,Za,Q9,Ub,Ua,W9,W8,Q8,Xn,Z9,Xj,J7,Kl,Jc,h1,ho1,ho2,hxc,hyc,hsub,e10]
theorem Qtp {H:List Ob} {id1 off1 c1 id2 off2 c2 n:Nat} {ws os:List Nat} (hr1:Row .u32 H id1 off1 ws) (hr2:Row .u32 H id2 off2 os) (hn:ws.length = n) (hm:os.length = n) (hN:n < 2 ^ 40) (hws:∀ x ∈ ws,x < 4294967296) (hos:∀ x ∈ os,x < 4294967296) :
  Vl T 50 [.slice (some ⟨id1,off1,none⟩) n c1,.slice (some ⟨id2,off2,none⟩) n c2] H = some (.bool (decide (num 4294967296 ws < num 4294967296 os)),H,[]):=by
 obtain ⟨s',hb,b,rfl,hinv⟩:=Yn (T:=T) (base:=H.length) (id:=0) (body:=Qd8)
  (fun k s => ∃ b,s = T5 H (.slice (some ⟨id1,off1,none⟩) n c1) (.slice (some ⟨id2,off2,none⟩) n c2) n b k [] ∧ LessInv k ws os b)
  (Q:=fun s => ∃ b,s = T5 H (.slice (some ⟨id1,off1,none⟩) n c1) (.slice (some ⟨id2,off2,none⟩) n c2) n b n [(10,.bool false)] ∧ LessInv n ws os b)
  n (s:=T5 H (.slice (some ⟨id1,off1,none⟩) n c1) (.slice (some ⟨id2,off2,none⟩) n c2) n 0 0 []) ⟨_,rfl,⟨by decide,0,by decide,by simp [num]⟩⟩
  (fun k s hk hs => by
   obtain ⟨b,rfl,hI⟩:=hs
   obtain ⟨x,hx⟩:∃ x,ws[k]? = some x:=⟨_,Qq (by omega)⟩
   obtain ⟨y,hy⟩:∃ y,os[k]? = some y:=⟨_,Qq (by omega)⟩
   have hx':=hws x (Zt hx)
   have hy':=hos y (Zt hy)
   exact ⟨_,Qne hr1 hr2 hN hk hx hy hx' hy' hI.ble,_,rfl,hI.step hx hy hx' hy'⟩)
  (fun s hs => by
   obtain ⟨b,rfl,hI⟩:=hs
   have h1:¬ ((n:Int) < (n:Int)):=by omega
   refine ⟨_,?_,b,rfl,hI⟩
   simp only [T5,Qd8,J2,Xp,Xx,Kb,Jq,Xy,Z7,Kc,Xz,Kj,guardOf,Zb,opd,Yo,Kz,Kh,Env.get,Env.put,Vo,Qf,Q2,Q3,Xk,Va,Xm,Jm,St.after,Env.keep,if_true,if_false,ite_true,ite_false,Yh,Vi,unV,Ve,Kg,packed,reduceCtorEq,Zj,Zm,Zd,Qj,Qc,Qi,Zh,Zg,Zp,beq_self_eq_true,J6,Jb,Xs,Xr,Xi,X8,Xt,Xd,X9,X7,Xe,Ko,Xv,Jj,X5,Ka,Xg,Xf,Z5,Xh,Zr,Zx,Zw,Jh,Z3,Jf,Z2,Zv,Ji,Jg,Jw,Z4,Xq,Jy,Xu,X6,Jx,Xw,Jk,Ob.fresh,Ym,Yy,Yx,Zo,and_self,true_and,and_true,Zu,Xb,Kq,Vv,Kp,Jl,Vu,Jo,Jz,false_and,decide_true,decide_false,Z1,Qp,Qn,Qo,Qd,Qm,Qh,Yd,Jv,Vp,J8,J0,J1,Za,Q9,Ub,Ua,W9,W8,Q8,Xn,Z9,Xj,J7,Kl,Jc,h1])
 rw [show T5 H (.slice (some ⟨id1,off1,none⟩) n c1) (.slice (some ⟨id2,off2,none⟩) n c2) n 0 0 [] = ⟨[(0,.slice (some ⟨id1,off1,none⟩) n c1),(1,.slice (some ⟨id2,off2,none⟩) n c2),(5,.int .u32 0),(8,.int .i64 n),(9,.int .i64 0)],H,[]⟩ from rfl] at hb
 obtain ⟨z,hz,h2⟩:=hinv.eq
 rw [Zq (by omega),Zq (by omega)] at h2
 have h3:=num_lt hws
 rw [hn] at h3
 have hble:=hinv.ble
 have hres:(((b:Nat):Int) == 1) = decide (num 4294967296 ws < num 4294967296 os):=by
  rcases Vr 0 b with h | h
  ·have hb1:b = 1:=by omega
   subst hb1
   have:num 4294967296 ws < num 4294967296 os:=by omega
   simp [this]
  ·have hb0:b = 0:=by omega
   subst hb0
   have:¬ num 4294967296 ws < num 4294967296 os:=by omega
   simp [this]
 rw [J3 (fn:=a46) rfl]
 simp only [a46,J2,Xp,Xx,Kb,Jq,Xy,Z7,Kc,Xz,Kj,guardOf,Zb,opd,Yo,Kz,Kh,Env.get,Env.put,Vo,Qf,Q2,Q3,Xk,Va,Xm,Jm,St.after,Env.keep,if_true,if_false,ite_true,ite_false,Yh,Vi,unV,Ve,Kg,packed,reduceCtorEq,Zj,Zm,Zd,Qj,Qc,Qi,Zh,Zg,Zp,beq_self_eq_true,J6,Jb,Xs,Xr,Xi,X8,Xt,Xd,X9,X7,Xe,Ko,Xv,Jj,X5,Ka,Xg,Xf,Z5,Xh,Zr,Zx,Zw,Jh,Z3,Jf,Z2,Zv,Ji,Jg,Jw,Z4,Xq,Jy,Xu,X6,Jx,Xw,Jk,Ob.fresh,Ym,Yy,Yx,Zo,and_self,true_and,and_true,Zu,Xb,Kq,Vv,Kp,Jl,Vu,Jo,Jz,false_and,decide_true,decide_false,Z1,Qp,Qn,Qo,Qd,Qm,Qh,Yd,Jv,Vp,J8,J0,J1,Za,Q9,Ub,Ua,W9,W8,Q8,Xn,Z9,Xj,J7,Kl,Jc,hb,T5,hres]
end Go.Ev.Ytgacigcbglflkaa
set_option linter.unusedSimpArgs false
set_option linter.unusedVariables false
namespace Go.Ev.Ytgacigcbglflkaa
open Go Go.Ev
attribute [local congr] Gf
set_option maxRecDepth 100000
theorem Qgy {a:List Nat} (la:a.length = 32) (xa:∀ x ∈ a,x < 256):∃ l,Vl T 21 [.agg (u8s a).toArray] [] = some (.bool (decide (num 256 a < ell)),l,[]):=by
 obtain ⟨H,hH⟩:∃ H:List Ob,H = [⟨u8s a,true,true,true,1⟩]:=⟨_,rfl⟩
 have ra:Row .u8 H 0 0 a:=by subst hH; exact ⟨_,rfl,fun i x hx => by rw [Zh]; exact Ud hx⟩
 have h1:=Qfh (c:=32) ra la (by decide) xa
 have r1:=(Hp (H:=H) (ws:=dig 4294967296 8 (num 256 a))).app (l:=[Ob.fresh (J9 orderW)])
 have h2:=Qc8 (H ++ [Ob.fresh (J9 (dig 4294967296 8 (num 256 a)))])
 have r2:=Hp (H:=H ++ [Ob.fresh (J9 (dig 4294967296 8 (num 256 a)))]) (ws:=orderW)
 have h3:=Qtp (c1:=8) (c2:=8) r1 r2 (Ku _ _ _) rfl (by decide) Hw T1
 rw [Uk (by decide),Z6 (Qch la xa),Ql6] at h3
 change Vl T 38 _ H = some (.slice (some ⟨H.length,0,none⟩) 8 8,H ++ [Ob.fresh (J9 (dig 4294967296 8 (num 256 a)))],[]) at h1
 generalize hH5:H ++ [Ob.fresh (J9 (dig 4294967296 8 (num 256 a)))] = H5 at h1 h2 h3
 generalize hH6:H5 ++ [Ob.fresh (J9 orderW)] = H6 at h2 h3
 refine ⟨H6,?_⟩
 rw [J3 (fn:=a21) rfl]
 simp only [a21,J2,Xp,Xx,Kb,Jq,Xy,Z7,Kc,Xz,Kj,guardOf,Zb,opd,Yo,Kz,Kh,Env.get,Env.put,Vo,Qf,Q2,Q3,Xk,Va,Xm,Jm,St.after,Env.keep,if_true,if_false,ite_true,ite_false,Yh,Vi,unV,Ve,Kg,packed,reduceCtorEq,Zj,Zm,Zd,Qj,Qc,Qi,Zh,Zg,Zp,beq_self_eq_true,J6,Jb,Xs,Xr,Xi,X8,Xt,Xd,X9,X7,Xe,Ko,Xv,Jj,X5,Ka,Xg,Xf,Z5,Xh,Zr,Zx,Zw,Jh,Z3,Jf,Z2,Zv,Ji,Jg,Jw,Z4,Xq,Jy,Xu,X6,Jx,Xw,Jk,Ob.fresh,Ym,Yy,Yx,Zo,and_self,true_and,and_true,Zu,Xb,Kq,Vv,Kp,Jl,Vu,Jo,Jz,false_and,decide_true,decide_false,Z1,Qp,Qn,Qo,Qd,Qm,Qh,Yd,Jv,Vp,J8,J0,J1,Za,Q9,Ub,Ua,W9,W8,Q8,Xn,Z9,Xj,J7,Kl,Jc,← hH,Qv2,h1,h2,h3]
def Qrx (k:IntKind) (H:List Ob) (id off:Nat) (ps:List (List Nat)):Prop :=
 ∃ o,liveAt H id = some o ∧ ∀ (i:Nat) (p:List Nat),ps[i]? = some p → ∃ v,o.cells[off + i]? = some v ∧ Sl k H v p
def Qf5 (R s pv:Value) (n i:Nat) (H:List Ob) (ex:Env):St:=⟨[(2,R),(3,s),(6,pv),(7,.int .i64 n),(8,.int .i64 i)] ++ ex,H,[]⟩
theorem Qfp {ps:List (List Nat)} {i:Nat} {p:List Nat} (h:ps[i]? = some p):(ps.take (i + 1)).flatten = (ps.take i).flatten ++ p:=by
 rw [Y6,h]; simp
theorem Qq4 {ps:List (List Nat)} {i:Nat} {p:List Nat} (h:ps[i]? = some p):(ps.take i).flatten.length + p.length ≤ ps.flatten.length:=by
 have h1:=congrArg List.length (Qfp h)
 rw [Zn] at h1
 rw [← h1]
 conv => rhs; rw [← Wl (i + 1) ps,V2,Zn]
 omega
theorem Qpk {H Hc:List Ob} {R s:Value} {id off c n i:Nat} {ps:List (List Nat)} {p:List Nat} (hp:Qrx .u8 H id off ps) (hi:i < n) (hN:n < 2 ^ 40) (hpi:ps[i]? = some p) (hS:ps.flatten.length ≤ 2 ^ 40)
  (hB:H.length + 1 ≤ Hc.length) (hc:∀ j,j < H.length → Hc[j]? = H[j]?) (hg:Grown .u8 (H.length + 1) Hc s ((ps.take i).flatten)) :
  ∃ s' H',Xa T H.length Qee (Qf5 R s (.slice (some ⟨id,off,none⟩) n c) n i Hc []) = some (.normal,Qf5 R s' (.slice (some ⟨id,off,none⟩) n c) n (i + 1) H' []) ∧
   H.length + 1 ≤ H'.length ∧ (∀ j,j < H.length + 1 → H'[j]? = Hc[j]?) ∧ Grown .u8 (H.length + 1) H' s' ((ps.take (i + 1)).flatten):=by
 obtain ⟨o,ho,hps⟩:=hp
 obtain ⟨v,hv,hsl⟩:=hps i p hpi
 have ho':liveAt Hc id = some o:=by rw [T4 (hc _ (Qfk ho))]; exact ho
 have hsl':=hsl.congr hc
 have hlen:=Qq4 hpi
 obtain ⟨s',H',M,ha,hg',hM,hL,hK⟩:=hg.append (bytes:=1) hB hsl'.lenV hsl'.elems (by omega) (by decide)
 have h1:((i:Int) < (n:Int)):=by omega
 have e10:IntKind.i64.wrap ((i:Int) + 1) = ((i + 1:Nat):Int):=Vt (n:=i + 1) (by omega)
 have hm:Xk H.length [] M = []:=Y2 fun j hj => by have:=hM j hj; omega
 refine ⟨s',H',?_,by omega,hK,by rw [Qfp hpi]; exact hg'⟩
 simp only [Qf5,Qee,J2,Xp,Xx,Kb,Jq,Xy,Z7,Kc,Xz,Kj,guardOf,Zb,opd,Yo,Kz,Kh,Env.get,Env.put,Vo,Qf,Q2,Q3,Xk,Va,Xm,Jm,St.after,Env.keep,if_true,if_false,ite_true,ite_false,Yh,Vi,unV,Ve,Kg,packed,reduceCtorEq,Zj,Zm,Zd,Qj,Qc,Qi,Zh,Zg,Zp,beq_self_eq_true,J6,Jb,Xs,Xr,Xi,X8,Xt,Xd,X9,X7,Xe,Ko,Xv,Jj,X5,Ka,Xg,Xf,Z5,Xh,Zr,Zx,Zw,Jh,Z3,Jf,Z2,Zv,Ji,Jg,Jw,Z4,Xq,Jy,Xu,X6,Jx,Xw,Jk,Ob.fresh,Ym,Yy,Yx,Zo,and_self,true_and,and_true,Zu,Xb,Kq,Vv,Kp,Jl,Vu,Jo,Jz,false_and,decide_true,decide_false,Z1,Qp,Qn,Qo,Qd,Qm,Qh,Yd,Jv,Vp,J8,J0,J1,Za,Q9,Ub,Ua,W9,W8,Q8,Xn,Z9,Xj,J7,Kl,Jc,h1,ho',hv,e10,ha,hm]
theorem of_nil (H:List Ob):Vl T 38 [.slice none 0 0] H = some (.slice (some ⟨H.length,0,none⟩) 0 0,H ++ [Ob.fresh []],[]):=by
 have hl:Xa T H.length (.loop Tq) ⟨[(3,.slice (some ⟨H.length,0,none⟩) 0 0),(11,.slice none 0 0),(12,.int .i64 0),(13,.int .i64 0)],H ++ [⟨[],true,true,true,1⟩],[]⟩ = some (.exit 0,⟨[(3,.slice (some ⟨H.length,0,none⟩) 0 0),(11,.slice none 0 0),(12,.int .i64 0),(13,.int .i64 0),(14,.bool false)],H ++ [⟨[],true,true,true,1⟩],[]⟩):=by
  rw [Y8]
  simp only [Tq,J2,Xp,Xx,Kb,Jq,Xy,Z7,Kc,Xz,Kj,guardOf,Zb,opd,Yo,Kz,Kh,Env.get,Env.put,Vo,Qf,Q2,Q3,Xk,Va,Xm,Jm,St.after,Env.keep,if_true,if_false,ite_true,ite_false,Yh,Vi,unV,Ve,Kg,packed,reduceCtorEq,Zj,Zm,Zd,Qj,Qc,Qi,Zh,Zg,Zp,beq_self_eq_true,J6,Jb,Xs,Xr,Xi,X8,Xt,Xd,X9,X7,Xe,Ko,Xv,Jj,X5,Ka,Xg,Xf,Z5,Xh,Zr,Zx,Zw,Jh,Z3,Jf,Z2,Zv,Ji,Jg,Jw,Z4,Xq,Jy,Xu,X6,Jx,Xw,Jk,Ob.fresh,Ym,Yy,Yx,Zo,and_self,true_and,and_true,Zu,Xb,Kq,Vv,Kp,Jl,Vu,Jo,Jz,false_and,decide_true,decide_false,Z1,Qp,Qn,Qo,Qd,Qm,Qh,Yd,Jv,Vp,J8,J0,J1,Za,Q9,Ub,Ua,W9,W8,Q8,Xn,Z9,Xj,J7,Kl,Jc,cL,Qo,Qn,Q1,Q0,Qx,Qs,Qr,Qz,Qd,Q5,Q6,Qy,Qj,Qi,Qh,Qw,Qv,Qu,Qm,Ql]
 rw [J3 (fn:=a40) rfl]
 simp only [a40,J2,Xp,Xx,Kb,Jq,Xy,Z7,Kc,Xz,Kj,guardOf,Zb,opd,Yo,Kz,Kh,Env.get,Env.put,Vo,Qf,Q2,Q3,Xk,Va,Xm,Jm,St.after,Env.keep,if_true,if_false,ite_true,ite_false,Yh,Vi,unV,Ve,Kg,packed,reduceCtorEq,Zj,Zm,Zd,Qj,Qc,Qi,Zh,Zg,Zp,beq_self_eq_true,J6,Jb,Xs,Xr,Xi,X8,Xt,Xd,X9,X7,Xe,Ko,Xv,Jj,X5,Ka,Xg,Xf,Z5,Xh,Zr,Zx,Zw,Jh,Z3,Jf,Z2,Zv,Ji,Jg,Jw,Z4,Xq,Jy,Xu,X6,Jx,Xw,Jk,Ob.fresh,Ym,Yy,Yx,Zo,and_self,true_and,and_true,Zu,Xb,Kq,Vv,Kp,Jl,Vu,Jo,Jz,false_and,decide_true,decide_false,Z1,Qp,Qn,Qo,Qd,Qm,Qh,Yd,Jv,Vp,J8,J0,J1,Za,Q9,Ub,Ua,W9,W8,Q8,Xn,Z9,Xj,J7,Kl,Jc,cL,Qo,Qn,Q1,Q0,Qx,Qs,Qr,Qz,Qd,Q5,Q6,Qy,Qj,Qi,Qh,Qw,Qv,Qu,Qm,Ql,List.replicate_zero,Ys,hl]
theorem Qto (H:List Ob) (id:Nat):Vl T 41 [.slice (some ⟨id,0,none⟩) 0 0] H = some (.slice (some ⟨H.length,0,none⟩) 8 8,H ++ [⟨J9 (dig 4294967296 8 0),true,true,true,1⟩,⟨J9 orderW,true,true,true,1⟩,⟨J9 (dig 4294967296 8 0),true,true,true,1⟩],[]):=by
 have hz:(Qb 8 [Value.int .u32 0]).flatten = J9 (dig 4294967296 8 0):=rfl
 have ho:=Qc8 (H ++ [⟨J9 (dig 4294967296 8 0),true,true,true,1⟩])
 have hl:Xa T H.length (.loop Bo) ⟨[(0,.slice (some ⟨id,0,none⟩) 0 0),(3,.slice (some ⟨H.length,0,none⟩) 8 8),(4,.slice (some ⟨H.length + 1,0,none⟩) 8 8),(5,.slice (some ⟨H.length + 2,0,none⟩) 8 8),(6,.int .i64 (-1))],H ++ [⟨J9 (dig 4294967296 8 0),true,true,true,1⟩,⟨J9 orderW,true,true,true,1⟩,⟨J9 (dig 4294967296 8 0),true,true,true,1⟩],[]⟩ = some (.exit 0,⟨[(0,.slice (some ⟨id,0,none⟩) 0 0),(3,.slice (some ⟨H.length,0,none⟩) 8 8),(4,.slice (some ⟨H.length + 1,0,none⟩) 8 8),(5,.slice (some ⟨H.length + 2,0,none⟩) 8 8),(6,.int .i64 (-1)),(19,.bool false)],H ++ [⟨J9 (dig 4294967296 8 0),true,true,true,1⟩,⟨J9 orderW,true,true,true,1⟩,⟨J9 (dig 4294967296 8 0),true,true,true,1⟩],[]⟩):=by
  rw [Y8]
  have e:((0:Int) ≤ -1) = False:=by decide
  simp only [Bo,J2,Xp,Xx,Kb,Jq,Xy,Z7,Kc,Xz,Kj,guardOf,Zb,opd,Yo,Kz,Kh,Env.get,Env.put,Vo,Qf,Q2,Q3,Xk,Va,Xm,Jm,St.after,Env.keep,if_true,if_false,ite_true,ite_false,Yh,Vi,unV,Ve,Kg,packed,reduceCtorEq,Zj,Zm,Zd,Qj,Qc,Qi,Zh,Zg,Zp,beq_self_eq_true,J6,Jb,Xs,Xr,Xi,X8,Xt,Xd,X9,X7,Xe,Ko,Xv,Jj,X5,Ka,Xg,Xf,Z5,Xh,Zr,Zx,Zw,Jh,Z3,Jf,Z2,Zv,Ji,Jg,Jw,Z4,Xq,Jy,Xu,X6,Jx,Xw,Jk,Ob.fresh,Ym,Yy,Yx,Zo,and_self,true_and,and_true,Zu,Xb,Kq,Vv,Kp,Jl,Vu,Jo,Jz,false_and,decide_true,decide_false,Z1,Qp,Qn,Qo,Qd,Qm,Qh,Yd,Jv,Vp,J8,J0,J1,Za,Q9,Ub,Ua,W9,W8,Q8,Xn,Z9,Xj,J7,Kl,Jc,cL,Qo,Qn,Q1,Q0,Qx,Qs,Qr,Qz,Qd,Q5,Q6,Qy,Qj,Qi,Qh,Qw,Qv,Qu,Qm,Ql,e]
 rw [J3 (fn:=a41) rfl]
 simp only [a41,J2,Xp,Xx,Kb,Jq,Xy,Z7,Kc,Xz,Kj,guardOf,Zb,opd,Yo,Kz,Kh,Env.get,Env.put,Vo,Qf,Q2,Q3,Xk,Va,Xm,Jm,St.after,Env.keep,if_true,if_false,ite_true,ite_false,Yh,Vi,unV,Ve,Kg,packed,reduceCtorEq,Zj,Zm,Zd,Qj,Qc,Qi,Zh,Zg,Zp,beq_self_eq_true,J6,Jb,Xs,Xr,Xi,X8,Xt,Xd,X9,X7,Xe,Ko,Xv,Jj,X5,Ka,Xg,Xf,Z5,Xh,Zr,Zx,Zw,Jh,Z3,Jf,Z2,Zv,Ji,Jg,Jw,Z4,Xq,Jy,Xu,X6,Jx,Xw,Jk,Ob.fresh,Ym,Yy,Yx,Zo,and_self,true_and,and_true,Zu,Xb,Kq,Vv,Kp,Jl,Vu,Jo,Jz,false_and,decide_true,decide_false,Z1,Qp,Qn,Qo,Qd,Qm,Qh,Yd,Jv,Vp,J8,J0,J1,Za,Q9,Ub,Ua,W9,W8,Q8,Xn,Z9,Xj,J7,Kl,Jc,cL,Qo,Qn,Q1,Q0,Qx,Qs,Qr,Qz,Qd,Q5,Q6,Qy,Qj,Qi,Qh,Qw,Qv,Qu,Qm,Ql,hz,ho,hl,Zn,X1,Kk,Ob.fresh]
theorem Qmo {H:List Ob} {id:Nat} {bs:List Nat} (h:H[id]? = some (Ob.fresh (ns .u8 bs))):Row .u8 H id 0 bs :=
 ⟨_,V0 h rfl,fun i x hx => by rw [Zh]; exact U8 hx⟩
theorem Qmn {H:List Ob} {id:Nat} {bs:List Nat} (h:H[id]? = some (Ob.grown 1 (ns .u8 bs))):Row .u8 H id 0 bs :=
 ⟨_,V0 h rfl,fun i x hx => by rw [Zh]; exact U8 hx⟩
theorem Qpj {B:Nat} {H:List Ob} {s:Value} {bs:List Nat} (hg:Grown .u8 B H s bs) (hb:∀ x ∈ bs,x < 256) (hN:bs.length < 2 ^ 40) :
  ∃ v1 v2 l1 l2 l3,Vl T 38 [s] H = some (v1,H ++ l1,[]) ∧ Vl T 41 [v1] (H ++ l1) = some (v2,H ++ l1 ++ l2,[]) ∧ Vl T 42 [v2] (H ++ l1 ++ l2) = some (.agg (u8s (dig 256 32 (num 256 bs % ell))).toArray,H ++ l1 ++ l2 ++ l3,[]):=by
 cases hg with
 | nil =>
  have h1:=of_nil H
  have h2:=Qto (H ++ [Ob.fresh []]) H.length
  have r:Row .u32 (H ++ [Ob.fresh []] ++ [⟨J9 (dig 4294967296 8 0),true,true,true,1⟩,⟨J9 orderW,true,true,true,1⟩,⟨J9 (dig 4294967296 8 0),true,true,true,1⟩]) (H ++ [Ob.fresh []]).length 0 (dig 4294967296 8 0) :=
   ⟨_,Ym,fun i x hx => by rw [Zh]; exact W7 hx⟩
  obtain ⟨l3,h3⟩:=Qag (cap:=8) r
  exact ⟨_,_,_,_,l3,h1,h2,h3⟩
 | @own id _ g1 g2 g3 =>
  have h1:=Qfh (c:=bs.length) (Qmn g3) rfl hN hb
  have hlt:num 256 bs < 4294967296 ^ ((bs.length + 3) / 4):=by
   refine Xo (num_lt hb) ?_
   rw [show (4294967296:Nat) = 256 ^ 4 from by decide,← Ye]
   exact Kx (by decide) (by omega)
  obtain ⟨k,l2,h2,r2⟩:=Qkr (cap:=(bs.length + 3) / 4) (Hp (H:=H) (ws:=dig 4294967296 ((bs.length + 3) / 4) (num 256 bs))) (Ku _ _ _) (by omega) (by omega) Hw
  rw [Uk (by decide),Z6 hlt] at r2
  obtain ⟨l3,h3⟩:=Qag (cap:=8) r2
  exact ⟨_,_,_,l2,l3,h1,h2,h3⟩
 | @new id _ g1 g2 g3 =>
  have h1:=Qfh (c:=bs.length) (Qmo g3) rfl hN hb
  have hlt:num 256 bs < 4294967296 ^ ((bs.length + 3) / 4):=by
   refine Xo (num_lt hb) ?_
   rw [show (4294967296:Nat) = 256 ^ 4 from by decide,← Ye]
   exact Kx (by decide) (by omega)
  obtain ⟨k,l2,h2,r2⟩:=Qkr (cap:=(bs.length + 3) / 4) (Hp (H:=H) (ws:=dig 4294967296 ((bs.length + 3) / 4) (num 256 bs))) (Ku _ _ _) (by omega) (by omega) Hw
  rw [Uk (by decide),Z6 hlt] at r2
  obtain ⟨l3,h3⟩:=Qag (cap:=8) r2
  exact ⟨_,_,_,l2,l3,h1,h2,h3⟩
theorem Qmq {H:List Ob} {id off c n:Nat} {ps:List (List Nat)} (hp:Qrx .u8 H id off ps) (hn:ps.length = n) (hN:n < 2 ^ 40) (hS:ps.flatten.length < 2 ^ 40) (hb:∀ x ∈ ps.flatten,x < 256) :
  ∃ l,Vl T 37 [.slice (some ⟨id,off,none⟩) n c] H = some (.agg (u8s (dig 256 32 (num 256 ps.flatten % ell))).toArray,H ++ l,[]):=by
 have hz:Qb 32 (Value.int .u8 0) = u8s (dig 256 32 0):=rfl
 obtain ⟨s',hb1,s,Hc,rfl,hL,hK,hg⟩:=Yn (T:=T) (base:=H.length) (id:=0) (body:=Qee)
  (fun i st => ∃ s Hc,st = Qf5 (.pointer (some ⟨H.length,0,none⟩)) s (.slice (some ⟨id,off,none⟩) n c) n i Hc [] ∧ H.length + 1 ≤ Hc.length ∧ (∀ j,j < H.length + 1 → Hc[j]? = (H ++ [⟨u8s (dig 256 32 0),true,true,true,1⟩])[j]?) ∧ Grown .u8 (H.length + 1) Hc s ((ps.take i).flatten))
  (Q:=fun st => ∃ s Hc,st = Qf5 (.pointer (some ⟨H.length,0,none⟩)) s (.slice (some ⟨id,off,none⟩) n c) n n Hc [(9,.bool false)] ∧ H.length + 1 ≤ Hc.length ∧ (∀ j,j < H.length + 1 → Hc[j]? = (H ++ [⟨u8s (dig 256 32 0),true,true,true,1⟩])[j]?) ∧ Grown .u8 (H.length + 1) Hc s ps.flatten)
  n (s:=Qf5 (.pointer (some ⟨H.length,0,none⟩)) (.slice none 0 0) (.slice (some ⟨id,off,none⟩) n c) n 0 (H ++ [⟨u8s (dig 256 32 0),true,true,true,1⟩]) []) ⟨_,_,rfl,by simp,fun _ _ => rfl,.nil⟩
  (fun i st hi hs => by
   obtain ⟨s,Hc,rfl,hL,hK,hg⟩:=hs
   obtain ⟨p,hpi⟩:∃ p,ps[i]? = some p:=⟨_,Qq (by omega)⟩
   obtain ⟨s2,H2,h1,h2,h3,h4⟩:=Qpk (R := .pointer (some ⟨H.length,0,none⟩)) (c:=c) hp hi hN hpi (by omega) hL (fun j hj => by rw [hK j (by omega),Qe hj]) hg
   exact ⟨_,h1,s2,H2,rfl,h2,fun j hj => by rw [h3 j hj,hK j hj],h4⟩)
  (fun st hs => by
   obtain ⟨s,Hc,rfl,hL,hK,hg⟩:=hs
   have h1:¬ ((n:Int) < (n:Int)):=by omega
   rw [Zq (by omega)] at hg
   refine ⟨_,?_,s,Hc,rfl,hL,hK,hg⟩
   simp only [Qf5,Qee,J2,Xp,Xx,Kb,Jq,Xy,Z7,Kc,Xz,Kj,guardOf,Zb,opd,Yo,Kz,Kh,Env.get,Env.put,Vo,Qf,Q2,Q3,Xk,Va,Xm,Jm,St.after,Env.keep,if_true,if_false,ite_true,ite_false,Yh,Vi,unV,Ve,Kg,packed,reduceCtorEq,Zj,Zm,Zd,Qj,Qc,Qi,Zh,Zg,Zp,beq_self_eq_true,J6,Jb,Xs,Xr,Xi,X8,Xt,Xd,X9,X7,Xe,Ko,Xv,Jj,X5,Ka,Xg,Xf,Z5,Xh,Zr,Zx,Zw,Jh,Z3,Jf,Z2,Zv,Ji,Jg,Jw,Z4,Xq,Jy,Xu,X6,Jx,Xw,Jk,Ob.fresh,Ym,Yy,Yx,Zo,and_self,true_and,and_true,Zu,Xb,Kq,Vv,Kp,Jl,Vu,Jo,Jz,false_and,decide_true,decide_false,Z1,Qp,Qn,Qo,Qd,Qm,Qh,Yd,Jv,Vp,J8,J0,J1,Za,Q9,Ub,Ua,W9,W8,Q8,Xn,Z9,Xj,J7,Kl,Jc,h1])
 obtain ⟨l0,hl0⟩:=Ma (H:=H ++ [⟨u8s (dig 256 32 0),true,true,true,1⟩]) (H':=Hc) (by simpa using hL) (fun i hi => hK i (by simpa using hi))
 obtain ⟨v1,v2,l1,l2,l3,h1,h2,h3⟩:=Qpj hg hb hS
 generalize hR:dig 256 32 (num 256 ps.flatten % ell) = R at *
 have lR:(u8s R).length = 32:=by rw [Ky,← hR,Ku]
 have hst:storeAt (Hc ++ l1 ++ l2 ++ l3) ⟨H.length,0,none⟩ (u8s R) = some (H ++ ⟨u8s R,true,true,true,1⟩ :: (l0 ++ l1 ++ l2 ++ l3)):=by
  have h8:=Ur (H:=H) (r:=l0 ++ l1 ++ l2 ++ l3) (cs:=u8s (dig 256 32 0)) (e:=true) (s:=1) (off:=0) (v:=u8s R) (by rw [lR,Ky,Ku]; omega)
  rw [D3 (by rw [lR,Ky,Ku])] at h8
  rw [hl0]
  simpa using h8
 generalize hH1:Hc ++ l1 = H1 at h1 h2 h3 hst
 generalize hH2:H1 ++ l2 = H2 at h2 h3 hst
 generalize hH3:H2 ++ l3 = H3 at h3 hst
 have h9:((u8s R).drop 0).take 32 = u8s R:=by rw [Zc,Zq (by omega)]
 refine ⟨⟨u8s R,true,true,true,1⟩ :: (l0 ++ l1 ++ l2 ++ l3),?_⟩
 rw [show Qf5 (.pointer (some ⟨H.length,0,none⟩)) (.slice none 0 0) (.slice (some ⟨id,off,none⟩) n c) n 0 (H ++ [⟨u8s (dig 256 32 0),true,true,true,1⟩]) [] = ⟨[(2,.pointer (some ⟨H.length,0,none⟩)),(3,.slice none 0 0),(6,.slice (some ⟨id,off,none⟩) n c),(7,.int .i64 n),(8,.int .i64 0)],H ++ [⟨u8s (dig 256 32 0),true,true,true,1⟩],[]⟩ from rfl] at hb1
 rw [J3 (fn:=a17) rfl]
 simp only [a17,J2,Xp,Xx,Kb,Jq,Xy,Z7,Kc,Xz,Kj,guardOf,Zb,opd,Yo,Kz,Kh,Env.get,Env.put,Vo,Qf,Q2,Q3,Xk,Va,Xm,Jm,St.after,Env.keep,if_true,if_false,ite_true,ite_false,Yh,Vi,unV,Ve,Kg,packed,reduceCtorEq,Zj,Zm,Zd,Qj,Qc,Qi,Zh,Zg,Zp,beq_self_eq_true,J6,Jb,Xs,Xr,Xi,X8,Xt,Xd,X9,X7,Xe,Ko,Xv,Jj,X5,Ka,Xg,Xf,Z5,Xh,Zr,Zx,Zw,Jh,Z3,Jf,Z2,Zv,Ji,Jg,Jw,Z4,Xq,Jy,Xu,X6,Jx,Xw,Jk,Ob.fresh,Ym,Yy,Yx,Zo,and_self,true_and,and_true,Zu,Xb,Kq,Vv,Kp,Jl,Vu,Jo,Jz,false_and,decide_true,decide_false,Z1,Qp,Qn,Qo,Qd,Qm,Qh,Yd,Jv,Vp,J8,J0,J1,Za,Q9,Ub,Ua,W9,W8,Q8,Xn,Z9,Xj,J7,Kl,Jc,cL,Qo,Qn,Q1,Q0,Qx,Qs,Qr,Qz,Qd,Q5,Q6,Qy,Qj,Qi,Qh,Qw,Qv,Qu,Qm,Ql,hz,hb1,Qf5,h1,h2,h3,lR,hst,Ym,h9]
end Go.Ev.Ytgacigcbglflkaa
set_option linter.unusedSimpArgs false
set_option linter.unusedVariables false
namespace Go.Ev.Ytgacigcbglflkaa
open Go Go.Ev
attribute [local congr] Um Uw Uj Ux W1
set_option maxRecDepth 100000
def mA (x y z:List Nat):List Nat:=dig 256 32 ((num 256 x * num 256 y + num 256 z) % ell)
def rd (x:List Nat):List Nat:=dig 256 32 (num 256 x % ell)
theorem Qxt {x y z:List Nat}:(mA x y z).length = 32:=Ku _ _ _
theorem Qw6 {x:List Nat}:(rd x).length = 32:=Ku _ _ _
theorem mA_lt {x y z:List Nat}:∀ t ∈ mA x y z,t < 256:=fun _ h => Bi (by decide) h
theorem rd_lt {x:List Nat}:∀ t ∈ rd x,t < 256:=fun _ h => Bi (by decide) h
theorem Qx6:ell ≤ 256 ^ 32:=by decide
theorem Qig (v:Nat):num 256 (dig 256 32 (v % ell)) = v % ell:=by
 rw [Uk (by decide),Z6 (Xo (Jn _ Hu) Qx6)]
theorem Qkn (x y z:List Nat):num 256 (mA x y z) = (num 256 x * num 256 y + num 256 z) % ell:=Qig _
theorem Qm7 {a b c:List Nat} (la:a.length = 32) (lb:b.length = 32) (lc:c.length = 32) (xa:∀ x ∈ a,x < 256) (xb:∀ x ∈ b,x < 256) (xc:∀ x ∈ c,x < 256) :
  ∃ l,Vl T 18 [.agg (u8s a).toArray,.agg (u8s b).toArray,.agg (u8s c).toArray] [] = some (.agg (u8s (mA a b c)).toArray,l,[]):=Qm8 la lb lc xa xb xc
def R6:List Nat:=[237,211,245,92,26,99,18,88,214,156,247,162,222,249,222,20]
def ordL:List Nat:=dig 256 32 ell
theorem Qs1:ordL = R6 ++ Qb 15 0 ++ [16]:=by decide +kernel
theorem Qpw:ordL.length = 32:=Ku _ _ _
theorem Qlv:∀ x ∈ ordL,x < 256:=fun _ h => Bi (by decide) h
theorem Qpv:num 256 ordL = ell:=by decide +kernel
theorem T7 {k:IntKind} {B bytes:Nat} {H:List Ob} {s:Value} {bs:List Nat} {x:Nat} (h:Grown k B H s bs) (hB:B ≤ H.length) (hb:(bs.length + 1) * bytes ≤ 2 ^ 47) (hb0:0 < bytes) :
  ∃ s' H' M,Yp 1 bytes (H ++ [⟨[.int k (x:Nat)],true,true,true,1⟩]) s (.slice (some ⟨H.length,0,none⟩) 1 1) = some (s',H',none,M) ∧ Grown k B H' s' (bs ++ [x]) ∧ (∀ i ∈ M,B ≤ i) ∧ B ≤ H'.length ∧ ∀ i,i < B → H'[i]? = H[i]? := by
 obtain ⟨s',H',M,h1,h2,h3,h4,h5⟩:=(h.app (l':=[⟨[.int k (x:Nat)],true,true,true,1⟩])).append (bytes:=bytes) (x := .slice (some ⟨H.length,0,none⟩) 1 1) (new:=[x]) (by simp; omega) rfl (by simp [elemsOf,liveAt,ns]) hb hb0
 refine ⟨s',H',M,h1,h2,h3,?_,fun i hi => by rw [h5 i hi,Qe (by omega)]⟩
 simp at h4
 omega
def oI (s:Value) (H:List Ob) (ex:Env):St:=⟨[(1,s)] ++ ex,H,[]⟩
theorem Qkc (H:List Ob):∃ s l,Vl T 11 [] H = some (s,H ++ l,[]) ∧ Grown .i64 H.length (H ++ l) s ordL:=by
 have hf:fillL (Qb 16 (Value.int .i64 0)) [(0,1,.int .i64 237),(1,1,.int .i64 211),(2,1,.int .i64 245),(3,1,.int .i64 92),(4,1,.int .i64 26),(5,1,.int .i64 99),(6,1,.int .i64 18),(7,1,.int .i64 88),(8,1,.int .i64 214),(9,1,.int .i64 156),(10,1,.int .i64 247),(11,1,.int .i64 162),(12,1,.int .i64 222),(13,1,.int .i64 249),(14,1,.int .i64 222),(15,1,.int .i64 20)] = some (ns .i64 R6):=rfl
 have f0:fillL [Value.int .i64 0] [(0,1,.int .i64 0)] = some [.int .i64 0]:=rfl
 have f16:fillL [Value.int .i64 0] [(0,1,.int .i64 16)] = some [.int .i64 16]:=rfl
 obtain ⟨st,hb,s,Hc,rfl,hg,hL,hK⟩:=Yn (T:=T) (base:=H.length) (id:=0) (body:=Qg1)
  (fun j st => ∃ s Hc,st = oI s Hc [] ∧ Grown .i64 H.length Hc s (R6 ++ Qb j 0) ∧ H.length ≤ Hc.length ∧ ∀ i,i < H.length → Hc[i]? = H[i]?)
  (Q:=fun st => ∃ s Hc,st = oI s Hc [(5,.bool false)] ∧ Grown .i64 H.length Hc s (R6 ++ Qb 15 0) ∧ H.length ≤ Hc.length ∧ ∀ i,i < H.length → Hc[i]? = H[i]?)
  15 (s:=oI (.slice (some ⟨H.length,0,none⟩) 16 16) (H ++ [⟨ns .i64 R6,true,true,true,1⟩]) []) ⟨_,_,rfl,Grown.new (id:=H.length) (bs:=R6) (Q8 _) (by decide) (by simp [Ob.fresh]),by simp,fun i hi => Qe hi⟩
  (fun j st hj hs => by
   obtain ⟨s,Hc,rfl,hg,hL,hK⟩:=hs
   have hl:=hg.len
   have e16:(R6 ++ Qb j 0).length = 16 + j:=by simp [R6]; omega
   rw [e16] at hl
   have h31:(((16 + j:Nat):Int) < 31):=by omega
   obtain ⟨s',H',M,h1,h2,h3,h4,h5⟩:=T7 (x:=0) (bytes:=8) hg hL (by simp [R6]; omega) (by decide)
   have hm:Xk H.length [] M = []:=Y2 h3
   refine ⟨oI s' H' [],?_,s',H',rfl,by rw [Qb6,← X1]; exact h2,h4,fun i hi => by rw [h5 i hi,hK i hi]⟩
   simp only [oI,Qg1,J2,quiet,cF,↓pF,reduceCtorEq,Qc,Qp,Wf,X4,↓Z0,↓Zz,↓Jr,↓Ju,↓Js,↓Jt,cL,Qo,Qn,Q1,Q0,Qx,Qs,Qr,Qz,Qd,Q5,Q6,Qy,Qj,Qi,Qh,Qw,Qv,Qu,Qm,Ql,cJ,Kk,hl,h31,f0]
   simp only [V9] at h1
   simp only [h1,hm,J2,quiet,cF,↓pF,reduceCtorEq,Qc,Qp,Wf,X4,↓Z0,↓Zz,↓Jr,↓Ju,↓Js,↓Jt,cL,Qo,Qn,Q1,Q0,Qx,Qs,Qr,Qz,Qd,Q5,Q6,Qy,Qj,Qi,Qh,Qw,Qv,Qu,Qm,Ql])
  (fun st hs => by
   obtain ⟨s,Hc,rfl,hg,hL,hK⟩:=hs
   have hl:=hg.len
   refine ⟨_,?_,s,Hc,rfl,hg,hL,hK⟩
   have e16:(R6 ++ Qb 15 0).length = 31:=rfl
   rw [e16] at hl
   simp only [oI,Qg1,J2,quiet,cF,↓pF,reduceCtorEq,Qc,Qp,Wf,X4,↓Z0,↓Zz,↓Jr,↓Ju,↓Js,↓Jt,cL,Qo,Qn,Q1,Q0,Qx,Qs,Qr,Qz,Qd,Q5,Q6,Qy,Qj,Qi,Qh,Qw,Qv,Qu,Qm,Ql,cJ,Kk,hl])
 obtain ⟨s',H',M,h1,h2,h3,h4,h5⟩:=T7 (x:=16) (bytes:=8) hg hL (by decide) (by decide)
 have hm:Xk H.length [] M = []:=Y2 h3
 obtain ⟨l,rfl⟩:=Ma h4 (fun i hi => by rw [h5 i hi,hK i hi])
 refine ⟨s',l,?_,by rw [Qs1]; exact h2⟩
 rw [J3 (fn:=a23) rfl]
 simp only [oI,Q3,Q2] at hb
 simp only [Gj] at h1
 simp only [a23,J2,quiet,cF,↓pF,reduceCtorEq,Qc,Qp,Wf,X4,↓Z0,↓Zz,↓Jr,↓Ju,↓Js,↓Jt,cL,Qo,Qn,Q1,Q0,Qx,Qs,Qr,Qz,Qd,Q5,Q6,Qy,Qj,Qi,Qh,Qw,Qv,Qu,Qm,Ql,cJ,Kk,hf,hb,oI,f16,h1,hm]
theorem Qfi {a:List Nat} {m x:Nat} (h:a[m]? = some x):num 256 a = num 256 (a.take m) + x * 256 ^ m + 256 ^ (m + 1) * num 256 (a.drop (m + 1)):=by
 have hm:m < a.length:=(Qt.1 h).1
 conv => lhs; rw [← Wl (m + 1) a,G8,Wx h]
 rw [Ks,Vx (by omega)]
theorem Qbu {a:List Nat} {m:Nat} (ha:∀ x ∈ a,x < 256) (hm:m ≤ a.length):num 256 (a.take m) < 256 ^ m:=by
 have:=num_lt (B:=256) (l:=a.take m) fun x hx => ha x (Vd hx)
 rwa [Ks,Vx hm] at this
theorem Qtq {a b:List Nat} {m x y:Nat} (hl:a.length = b.length) (ha:∀ x ∈ a,x < 256) (hb:∀ x ∈ b,x < 256) (hx:a[m]? = some x) (hy:b[m]? = some y) (hne:x ≠ y) (hd:a.drop (m + 1) = b.drop (m + 1)):(num 256 a < num 256 b) ↔ x < y:=by
 have hm:m < a.length:=(Qt.1 hx).1
 rw [Qfi hx,Qfi hy,hd]
 have h1:=Qbu (m:=m) ha (by omega)
 have h2:=Qbu (m:=m) hb (by omega)
 rcases Vr x y with h | h
 ·have:(x + 1) * 256 ^ m ≤ y * 256 ^ m:=Wa _ h
  rw [Kr,Wr] at this
  constructor <;> intro <;> omega
 ·have:(y + 1) * 256 ^ m ≤ x * 256 ^ m:=Wa _ (by omega)
  rw [Kr,Wr] at this
  constructor <;> intro <;> omega
def rlI (sa sb:Value) (H:List Ob) (i:Int) (ex:Env):St:=⟨[(0,sa),(1,sb),(5,.int .i64 i)] ++ ex,H,[]⟩
theorem Tz {H:List Ob} {base:Nat} {ia oa ca ib ob cb n:Nat} {a b:List Nat} (hra:Row .i64 H ia oa a) (hrb:Row .i64 H ib ob b) (la:a.length = n) (lb:b.length = n) (hN:n < 2 ^ 40) (ha:∀ x ∈ a,x < 256) (hb:∀ x ∈ b,x < 256) :
  ∀ m,m ≤ n → a.drop m = b.drop m → Xa T base (.loop Qd7) (rlI (.slice (some ⟨ia,oa,none⟩) n ca) (.slice (some ⟨ib,ob,none⟩) n cb) H ((m:Int) - 1) []) =
   if a = b then some (.exit 0,rlI (.slice (some ⟨ia,oa,none⟩) n ca) (.slice (some ⟨ib,ob,none⟩) n cb) H (-1) [(10,.bool false)]) else some (.ret,⟨[(4,.bool (decide (num 256 a < num 256 b)))],H,[]⟩)
 | 0,_,hd => by
  rw [Zc,Zc] at hd
  rw [if_pos hd,Y8]
  have e:((0:Int) ≤ -1) = False:=by decide
  simp only [rlI,Qd7,J2,quiet,cF,↓pF,reduceCtorEq,Qc,Qp,Wf,X4,↓Z0,↓Zz,↓Jr,↓Ju,↓Js,↓Jt,cL,Qo,Qn,Q1,Q0,Qx,Qs,Qr,Qz,Qd,Q5,Q6,Qy,Qj,Qi,Qh,Qw,Qv,Qu,Qm,Ql,Int.zero_sub,e]
 | m + 1,hm,hd => by
  obtain ⟨x,hx⟩:∃ x,a[m]? = some x:=⟨_,Qq (by omega)⟩
  obtain ⟨y,hy⟩:∃ y,b[m]? = some y:=⟨_,Qq (by omega)⟩
  obtain ⟨o1,ho1,hc1⟩:=hra
  obtain ⟨o2,ho2,hc2⟩:=hrb
  have c1:=hc1 m x hx
  have c2:=hc2 m y hy
  have e0:(((m + 1:Nat):Int) - 1) = (m:Int):=by omega
  have e1:((0:Int) ≤ (m:Int)) = True:=eq_true (by omega)
  have e2:((m:Int) < (n:Int)) = True:=eq_true (by omega)
  have e3:IntKind.i64.wrap ((m:Int) - 1) = (m:Int) - 1:=Ya (by omega) (by omega)
  rw [e0,Y8]
  obtain ⟨g1,v1⟩:(H[ia]? = some o1) ∧ o1.live = true:=by
   simp only [liveAt,Qa] at ho1
   obtain ⟨o',g1,g2⟩:=ho1
   split at g2
   ·cases g2; exact ⟨g1,by assumption⟩
   ·cases g2
  obtain ⟨g2,v2⟩:(H[ib]? = some o2) ∧ o2.live = true:=by
   simp only [liveAt,Qa] at ho2
   obtain ⟨o',g1,g2⟩:=ho2
   split at g2
   ·cases g2; exact ⟨g1,by assumption⟩
   ·cases g2
  by_cases hxy:x = y
  ·subst hxy
   have hd':a.drop m = b.drop m:=by
    rw [B5,hx,hd,← hy,← B5]
   have ih:=Tz (base:=base) (ca:=ca) (cb:=cb) ⟨o1,ho1,hc1⟩ ⟨o2,ho2,hc2⟩ la lb hN ha hb m (by omega) hd'
   rw [← ih]
   simp only [rlI,Qd7,J2,quiet,cF,↓pF,reduceCtorEq,Qc,Qp,Wf,X4,↓Z0,↓Zz,↓Jr,↓Ju,↓Js,↓Jt,cL,Qo,Qn,Q1,Q0,Qx,Qs,Qr,Qz,Qd,Q5,Q6,Qy,Qj,Qi,Qh,Qw,Qv,Qu,Qm,Ql,e1,e2,e3,g1,g2,v1,v2,c1,c2]
  ·have hab:¬ a = b:=fun h => by subst h; rw [hx] at hy; cases hy; exact hxy rfl
   rw [if_neg hab]
   have hne:((x:Int) != (y:Int)) = true:=by simp; omega
   have hlt:=Qtq (by omega) ha hb hx hy hxy hd
   have hdec:decide ((x:Int) < (y:Int)) = decide (num 256 a < num 256 b):=by
    by_cases h:x < y
    ·rw [decide_eq_true (hlt.2 h),decide_eq_true (by omega)]
    ·rw [decide_eq_false (fun k => h (hlt.1 k)),decide_eq_false (by omega)]
   simp only [rlI,Qd7,J2,quiet,cF,↓pF,reduceCtorEq,Qc,Qp,Wf,X4,↓Z0,↓Zz,↓Jr,↓Ju,↓Js,↓Jt,cL,Qo,Qn,Q1,Q0,Qx,Qs,Qr,Qz,Qd,Q5,Q6,Qy,Qj,Qi,Qh,Qw,Qv,Qu,Qm,Ql,e1,e2,e3,g1,g2,v1,v2,c1,c2,hne,hdec]
theorem Qj0 {H:List Ob} {sa sb:Value} {n:Nat} {a b:List Nat} (hra:Sl .i64 H sa a) (hrb:Sl .i64 H sb b) (la:a.length = n) (lb:b.length = n) (hn:0 < n) (hN:n < 2 ^ 40) (ha:∀ x ∈ a,x < 256) (hb:∀ x ∈ b,x < 256) :
  Vl T 24 [sa,sb] H = some (.bool (decide (num 256 a < num 256 b)),H,[]):=by
 obtain ⟨ia,oa,ca,rfl,ra⟩:=hra.row (by omega)
 obtain ⟨ib,ob,cb,rfl,rb⟩:=hrb.row (by omega)
 rw [la,lb]
 have hl:=Tz (base:=H.length) (ca:=ca) (cb:=cb) ra rb la lb hN ha hb n (Q8 n) (by rw [Wc (by omega),Wc (by omega)])
 have e3:IntKind.i64.wrap ((n:Int) - 1) = (n:Int) - 1:=Ya (by omega) (by omega)
 rw [J3 (fn:=a48) rfl]
 simp only [rlI,Q3,Q2] at hl
 by_cases hab:a = b
 ·rw [if_pos hab] at hl
  subst hab
  have:decide (num 256 a < num 256 a) = false:=by simp
  simp only [a48,J2,quiet,cF,↓pF,reduceCtorEq,Qc,Qp,Wf,X4,↓Z0,↓Zz,↓Jr,↓Ju,↓Js,↓Jt,cL,Qo,Qn,Q1,Q0,Qx,Qs,Qr,Qz,Qd,Q5,Q6,Qy,Qj,Qi,Qh,Qw,Qv,Qu,Qm,Ql,e3,Z7,hl,this]
 ·rw [if_neg hab] at hl
  simp only [a48,J2,quiet,cF,↓pF,reduceCtorEq,Qc,Qp,Wf,X4,↓Z0,↓Zz,↓Jr,↓Ju,↓Js,↓Jt,cL,Qo,Qn,Q1,Q0,Qx,Qs,Qr,Qz,Qd,Q5,Q6,Qy,Qj,Qi,Qh,Qw,Qv,Qu,Qm,Ql,e3,Z7,hl]
def ord33:List Nat:=ordL ++ [0]
theorem Qpx:∀ x ∈ ord33,x < 256:=by
 intro x hx
 simp only [ord33,Kf,Gi] at hx
 rcases hx with h | h
 ·exact Qlv x h
 ·omega
structure SubInv (k q:Nat) (r0 r:List Nat) (b:Nat):Prop where
 len:r.length = 33
 lt:∀ x ∈ r,x < 256
 ble:b ≤ q + 1
 eq:num 256 (r0.take k) + b * 256 ^ k = num 256 (r.take k) + q * num 256 (ord33.take k)
 rest:r.drop k = r0.drop k
def nx (y q l b:Nat):Nat:=((y:Int) - q * l - b).toNat
def nb (y q l b:Nat):Nat:=(q * l + b - y + 255) / 256
theorem SubInv.step {k q b y l:Nat} {r0 r:List Nat} (h:SubInv k q r0 r b) (hk:k < 33) (hy:r[k]? = some y) (hl:ord33[k]? = some l):SubInv (k + 1) q r0 (r.set k (y + 256 * nb y q l b - (q * l + b))) (nb y q l b) ∧ y + 256 * nb y q l b - (q * l + b) < 256 ∧ q * l + b ≤ y + 256 * nb y q l b:=by
 have hy':=h.lt y (Zt hy)
 have hl':=Qpx l (Zt hl)
 have hb:=h.ble
 have hlen:=h.len
 have hnb:y + 256 * nb y q l b - (q * l + b) < 256 ∧ q * l + b ≤ y + 256 * nb y q l b:=by unfold nb; omega
 have hql:q * l ≤ q * 255:=U4 q (by omega)
 have hnb2:nb y q l b ≤ q + 1:=by unfold nb; omega
 have hy0:r0[k]? = some y:=by
  have h1:(r.drop k)[0]? = (r0.drop k)[0]? := by rw [h.rest]
  rwa [Yc,Yc,Z1,hy,eq_comm] at h1
 refine ⟨⟨by rw [X3]; exact hlen,D4 h.lt hnb.1,hnb2,?_,?_⟩,hnb⟩
 ·generalize nb y q l b = c at *
  obtain ⟨d,hd⟩:∃ d,y + 256 * c = q * l + b + d:=⟨y + 256 * c - (q * l + b),by omega⟩
  have hset:(r.set k d).take (k + 1) = r.take k ++ [d]:=by
   rw [Y6,Km (by omega),List.take_set_of_le (Q8 k)]; rfl
  rw [show y + 256 * c - (q * l + b) = d by omega,hset,Wx hy0,Wx hl,G8]
  have hln:(r.take k).length = k:=by rw [Ks]; omega
  rw [hln]
  have he:=h.eq
  simp only [num,Qg3,Z1]
  have e1:c * 256 ^ (k + 1) = (256 * c) * 256 ^ k:=by rw [K8]; simp only [V4,Yg,K9]
  have e2:(y + 256 * c) * 256 ^ k = (q * l + b + d) * 256 ^ k:=by rw [hd]
  rw [Kr,Kr,Kr] at e2
  rw [e1,Rw,← V4,K9 (256 ^ k) d]
  omega
 ·rw [List.drop_set_of_lt (by omega)]
  have h1:(r.drop k).drop 1 = (r0.drop k).drop 1:=by rw [h.rest]
  rwa [Mn,Mn] at h1
def caI (a d:List Nat) (i:Int) (ex:Env):St:=⟨[(1,.pointer (some ⟨0,0,none⟩)),(3,.slice (some ⟨1,0,none⟩) 32 32),(4,.int .i64 i)] ++ ex,[⟨u8s a,true,true,true,1⟩,⟨ns .i64 d,true,true,true,1⟩],[]⟩
theorem Qrk {a d:List Nat} (la:a.length = 32) (xa:∀ x ∈ a,x < 256) (hd:d.length = 32) :
  Xa T 0 (.block 0 (.loop Qed)) (caI a d 0 []) = some (.normal,caI a a 32 [(7,.bool false)]):=by
 obtain ⟨st,h1,d',rfl,h2,h3⟩:=Yn (T:=T) (base:=0) (id:=0) (body:=Qed)
  (fun i st => ∃ d':List Nat,st = caI a d' i [] ∧ d'.length = 32 ∧ ∀ t,t < i → d'[t]? = a[t]?)
  (Q:=fun st => ∃ d':List Nat,st = caI a d' 32 [(7,.bool false)] ∧ d'.length = 32 ∧ ∀ t,t < 32 → d'[t]? = a[t]?)
  32 (s:=caI a d 0 []) ⟨d,rfl,hd,fun t ht => by omega⟩
  (fun i st hi hs => by
   obtain ⟨d',rfl,h2,h3⟩:=hs
   obtain ⟨x,hx⟩:∃ y,a[i]? = some y:=⟨_,Qq (by omega)⟩
   have hx':=xa x (Zt hx)
   have hxc:=Ud hx
   have hset:=Qdb .i64 d' i x
   have e1:((i:Int) < 32) = True:=eq_true (by omega)
   have e2:((i:Int) < (32:Int)) = True:=eq_true (by omega)
   have w1:IntKind.i64.wrap ((i:Int) + 1) = ((i + 1:Nat):Int):=Vt (n:=i + 1) (by omega)
   have w3:IntKind.i64.wrap (x:Int) = (x:Int):=Vt (by omega)
   have e8:i + 1 ≤ 32:=by omega
   refine ⟨_,?_,d'.set i x,rfl,by rw [X3]; exact h2,fun t ht => ?_⟩
   ·simp only [caI,Qed,J2,quiet,cF,↓pF,reduceCtorEq,Qc,Qp,Wf,X4,↓Z0,↓Zz,↓Jr,↓Ju,↓Js,↓Jt,cL,Qo,Qn,Q1,Q0,Qx,Qs,Qr,Qz,Qd,Q5,Q6,Qy,Qj,Qi,Qh,Qw,Qv,Qu,Qm,Ql,cJ,Kk,e1,e2,e8,w1,w3,hxc,hset,K3,h2]
   ·by_cases hti:t = i
    ·subst hti
     rw [Km (by omega),hx]
    ·rw [Xc (by omega)]
     exact h3 t (by omega))
  (fun st hs => by
   obtain ⟨d',rfl,h2,h3⟩:=hs
   refine ⟨_,?_,d',rfl,h2,h3⟩
   simp only [caI,Qed,J2,quiet,cF,↓pF,reduceCtorEq,Qc,Qp,Wf,X4,↓Z0,↓Zz,↓Jr,↓Ju,↓Js,↓Jt,cL,Qo,Qn,Q1,Q0,Qx,Qs,Qr,Qz,Qd,Q5,Q6,Qy,Qj,Qi,Qh,Qw,Qv,Qu,Qm,Ql])
 have:d' = a:=by
  apply Yu
  intro t
  by_cases ht:t < 32
  ·exact h3 t ht
  ·rw [Xl (by omega),Xl (by omega)]
 rw [this] at h1
 exact h1
theorem Qb1 {a:List Nat} (la:a.length = 32) (xa:∀ x ∈ a,x < 256):∃ l,Vl T 12 [.agg (u8s a).toArray] [] = some (.bool (decide (num 256 a < ell)),l,[]):=by
 have hz32:(Qb 32 [Value.int .i64 0]).flatten = ns .i64 (Qb 32 0):=rfl
 have h1:=Qrk la xa (d:=Qb 32 0) (by simp)
 obtain ⟨s,l,ho,hg⟩:=Qkc [⟨u8s a,true,true,true,1⟩,⟨ns .i64 a,true,true,true,1⟩]
 have hsl:=Sl.mk (k := .i64) (H:=[⟨u8s a,true,true,true,1⟩,⟨ns .i64 a,true,true,true,1⟩] ++ l) (id:=1) (off:=0) (c:=32) (o:=⟨ns .i64 a,true,true,true,1⟩) (l:=a) (by simp [liveAt]) (by simp [K3]) (fun i x hx => by rw [Zh]; exact U8 hx)
 rw [la] at hsl
 have hless:=Qj0 hsl hg.sl la Qpw (by decide) (by decide) xa Qlv
 rw [Qpv] at hless
 simp only [caI,Q3,Q2] at h1 ho hless
 apply J4
 rw [J3 (fn:=a22) rfl]
 simp only [a22,J2,quiet,cF,↓pF,reduceCtorEq,Qc,Qp,Wf,X4,↓Z0,↓Zz,↓Jr,↓Ju,↓Js,↓Jt,cL,Qo,Qn,Q1,Q0,Qx,Qs,Qr,Qz,Qd,Q5,Q6,Qy,Qj,Qi,Qh,Qw,Qv,Qu,Qm,Ql,cJ,Kk,hz32,h1,ho,hless]
 rfl
end Go.Ev.Ytgacigcbglflkaa
set_option linter.unusedSimpArgs false
set_option linter.unusedVariables false
namespace Go.Ev.Ytgacigcbglflkaa
open Go Go.Ev Go.Proofs
set_option maxRecDepth 100000
theorem tab16 : ∃ fn, Try.prog.funcs[26]? = some fn ∧ compFun Try.prog fn = some a16.strip ∧ (fn.name == "runtime.NumGoroutine") = false := ⟨Try.f26, Try.func26, by kernel_rfl, by kernel_rfl⟩
theorem tab17 : ∃ fn, Try.prog.funcs[37]? = some fn ∧ compFun Try.prog fn = some a17.strip ∧ (fn.name == "runtime.NumGoroutine") = false := ⟨Try.f37, Try.func37, by kernel_rfl, by kernel_rfl⟩
theorem tab19 : ∃ fn, Try.prog.funcs[18]? = some fn ∧ compFun Try.prog fn = some a19.strip ∧ (fn.name == "runtime.NumGoroutine") = false := ⟨Try.f18, Try.func18, by kernel_rfl, by kernel_rfl⟩
theorem tab21 : ∃ fn, Try.prog.funcs[21]? = some fn ∧ compFun Try.prog fn = some a21.strip ∧ (fn.name == "runtime.NumGoroutine") = false := ⟨Try.f21, Try.func21, by kernel_rfl, by kernel_rfl⟩
theorem tab22 : ∃ fn, Try.prog.funcs[12]? = some fn ∧ compFun Try.prog fn = some a22.strip ∧ (fn.name == "runtime.NumGoroutine") = false := ⟨Try.f12, Try.func12, by kernel_rfl, by kernel_rfl⟩
theorem tab23 : ∃ fn, Try.prog.funcs[11]? = some fn ∧ compFun Try.prog fn = some a23.strip ∧ (fn.name == "runtime.NumGoroutine") = false := ⟨Try.f11, Try.func11, by kernel_rfl, by kernel_rfl⟩
theorem tab25 : ∃ fn, Try.prog.funcs[14]? = some fn ∧ compFun Try.prog fn = some a25.strip ∧ (fn.name == "runtime.NumGoroutine") = false := ⟨Try.f14, Try.func14, by kernel_rfl, by kernel_rfl⟩
theorem tab26 : ∃ fn, Try.prog.funcs[15]? = some fn ∧ compFun Try.prog fn = some a26.strip ∧ (fn.name == "runtime.NumGoroutine") = false := ⟨Try.f15, Try.func15, by kernel_rfl, by kernel_rfl⟩
theorem tab27 : ∃ fn, Try.prog.funcs[22]? = some fn ∧ compFun Try.prog fn = some a27.strip ∧ (fn.name == "runtime.NumGoroutine") = false := ⟨Try.f22, Try.func22, by kernel_rfl, by kernel_rfl⟩
theorem tab28 : ∃ fn, Try.prog.funcs[49]? = some fn ∧ compFun Try.prog fn = some a28.strip ∧ (fn.name == "runtime.NumGoroutine") = false := ⟨Try.f49, Try.func49, by kernel_rfl, by kernel_rfl⟩
theorem tab29 : ∃ fn, Try.prog.funcs[16]? = some fn ∧ compFun Try.prog fn = some a29.strip ∧ (fn.name == "runtime.NumGoroutine") = false := ⟨Try.f16, Try.func16, by kernel_rfl, by kernel_rfl⟩
theorem tab30 : ∃ fn, Try.prog.funcs[30]? = some fn ∧ compFun Try.prog fn = some a30.strip ∧ (fn.name == "runtime.NumGoroutine") = false := ⟨Try.f30, Try.func30, by kernel_rfl, by kernel_rfl⟩
theorem tab31 : ∃ fn, Try.prog.funcs[19]? = some fn ∧ compFun Try.prog fn = some a31.strip ∧ (fn.name == "runtime.NumGoroutine") = false := ⟨Try.f19, Try.func19, by kernel_rfl, by kernel_rfl⟩
theorem tab34 : ∃ fn, Try.prog.funcs[23]? = some fn ∧ compFun Try.prog fn = some a34.strip ∧ (fn.name == "runtime.NumGoroutine") = false := ⟨Try.f23, Try.func23, by kernel_rfl, by kernel_rfl⟩
theorem tab39 : ∃ fn, Try.prog.funcs[20]? = some fn ∧ compFun Try.prog fn = some a39.strip ∧ (fn.name == "runtime.NumGoroutine") = false := ⟨Try.f20, Try.func20, by kernel_rfl, by kernel_rfl⟩
theorem tab40 : ∃ fn, Try.prog.funcs[38]? = some fn ∧ compFun Try.prog fn = some a40.strip ∧ (fn.name == "runtime.NumGoroutine") = false := ⟨Try.f38, Try.func38, by kernel_rfl, by kernel_rfl⟩
theorem tab41 : ∃ fn, Try.prog.funcs[41]? = some fn ∧ compFun Try.prog fn = some a41.strip ∧ (fn.name == "runtime.NumGoroutine") = false := ⟨Try.f41, Try.func41, by kernel_rfl, by kernel_rfl⟩
theorem tab42 : ∃ fn, Try.prog.funcs[42]? = some fn ∧ compFun Try.prog fn = some a42.strip ∧ (fn.name == "runtime.NumGoroutine") = false := ⟨Try.f42, Try.func42, by kernel_rfl, by kernel_rfl⟩
theorem tab44 : ∃ fn, Try.prog.funcs[39]? = some fn ∧ compFun Try.prog fn = some a44.strip ∧ (fn.name == "runtime.NumGoroutine") = false := ⟨Try.f39, Try.func39, by kernel_rfl, by kernel_rfl⟩
theorem tab45 : ∃ fn, Try.prog.funcs[40]? = some fn ∧ compFun Try.prog fn = some a45.strip ∧ (fn.name == "runtime.NumGoroutine") = false := ⟨Try.f40, Try.func40, by kernel_rfl, by kernel_rfl⟩
theorem tab46 : ∃ fn, Try.prog.funcs[50]? = some fn ∧ compFun Try.prog fn = some a46.strip ∧ (fn.name == "runtime.NumGoroutine") = false := ⟨Try.f50, Try.func50, by kernel_rfl, by kernel_rfl⟩
theorem tab47 : ∃ fn, Try.prog.funcs[51]? = some fn ∧ compFun Try.prog fn = some a47.strip ∧ (fn.name == "runtime.NumGoroutine") = false := ⟨Try.f51, Try.func51, by kernel_rfl, by kernel_rfl⟩
theorem tab48 : ∃ fn, Try.prog.funcs[24]? = some fn ∧ compFun Try.prog fn = some a48.strip ∧ (fn.name == "runtime.NumGoroutine") = false := ⟨Try.f24, Try.func24, by kernel_rfl, by kernel_rfl⟩
theorem tab49 : ∃ fn, Try.prog.funcs[27]? = some fn ∧ compFun Try.prog fn = some a49.strip ∧ (fn.name == "runtime.NumGoroutine") = false := ⟨Try.f27, Try.func27, by kernel_rfl, by kernel_rfl⟩
theorem tab50 : ∃ fn, Try.prog.funcs[28]? = some fn ∧ compFun Try.prog fn = some a50.strip ∧ (fn.name == "runtime.NumGoroutine") = false := ⟨Try.f28, Try.func28, by kernel_rfl, by kernel_rfl⟩
theorem tab51 : ∃ fn, Try.prog.funcs[29]? = some fn ∧ compFun Try.prog fn = some a51.strip ∧ (fn.name == "runtime.NumGoroutine") = false := ⟨Try.f29, Try.func29, by kernel_rfl, by kernel_rfl⟩
theorem tab52 : ∃ fn, Try.prog.funcs[31]? = some fn ∧ compFun Try.prog fn = some a52.strip ∧ (fn.name == "runtime.NumGoroutine") = false := ⟨Try.f31, Try.func31, by kernel_rfl, by kernel_rfl⟩
theorem tab53 : ∃ fn, Try.prog.funcs[32]? = some fn ∧ compFun Try.prog fn = some a53.strip ∧ (fn.name == "runtime.NumGoroutine") = false := ⟨Try.f32, Try.func32, by kernel_rfl, by kernel_rfl⟩
theorem tab54 : ∃ fn, Try.prog.funcs[33]? = some fn ∧ compFun Try.prog fn = some a54.strip ∧ (fn.name == "runtime.NumGoroutine") = false := ⟨Try.f33, Try.func33, by kernel_rfl, by kernel_rfl⟩
theorem tab55 : ∃ fn, Try.prog.funcs[65]? = some fn ∧ compFun Try.prog fn = some a55.strip ∧ (fn.name == "runtime.NumGoroutine") = false := ⟨Try.f65, Try.func65, by kernel_rfl, by kernel_rfl⟩
theorem tab56 : ∃ fn, Try.prog.funcs[34]? = some fn ∧ compFun Try.prog fn = some a56.strip ∧ (fn.name == "runtime.NumGoroutine") = false := ⟨Try.f34, Try.func34, by kernel_rfl, by kernel_rfl⟩
theorem tab57 : ∃ fn, Try.prog.funcs[35]? = some fn ∧ compFun Try.prog fn = some a57.strip ∧ (fn.name == "runtime.NumGoroutine") = false := ⟨Try.f35, Try.func35, by kernel_rfl, by kernel_rfl⟩
theorem tab58 : ∃ fn, Try.prog.funcs[36]? = some fn ∧ compFun Try.prog fn = some a58.strip ∧ (fn.name == "runtime.NumGoroutine") = false := ⟨Try.f36, Try.func36, by kernel_rfl, by kernel_rfl⟩
theorem tab59 : ∃ fn, Try.prog.funcs[43]? = some fn ∧ compFun Try.prog fn = some a59.strip ∧ (fn.name == "runtime.NumGoroutine") = false := ⟨Try.f43, Try.func43, by kernel_rfl, by kernel_rfl⟩
theorem tab60 : ∃ fn, Try.prog.funcs[44]? = some fn ∧ compFun Try.prog fn = some a60.strip ∧ (fn.name == "runtime.NumGoroutine") = false := ⟨Try.f44, Try.func44, by kernel_rfl, by kernel_rfl⟩
theorem tab61 : ∃ fn, Try.prog.funcs[45]? = some fn ∧ compFun Try.prog fn = some a61.strip ∧ (fn.name == "runtime.NumGoroutine") = false := ⟨Try.f45, Try.func45, by kernel_rfl, by kernel_rfl⟩
theorem tab62 : ∃ fn, Try.prog.funcs[46]? = some fn ∧ compFun Try.prog fn = some a62.strip ∧ (fn.name == "runtime.NumGoroutine") = false := ⟨Try.f46, Try.func46, by kernel_rfl, by kernel_rfl⟩
theorem tab63 : ∃ fn, Try.prog.funcs[47]? = some fn ∧ compFun Try.prog fn = some a63.strip ∧ (fn.name == "runtime.NumGoroutine") = false := ⟨Try.f47, Try.func47, by kernel_rfl, by kernel_rfl⟩
theorem tab64 : ∃ fn, Try.prog.funcs[48]? = some fn ∧ compFun Try.prog fn = some a64.strip ∧ (fn.name == "runtime.NumGoroutine") = false := ⟨Try.f48, Try.func48, by kernel_rfl, by kernel_rfl⟩
theorem tab75 : ∃ fn, Try.prog.funcs[64]? = some fn ∧ compFun Try.prog fn = some a75.strip ∧ (fn.name == "runtime.NumGoroutine") = false := ⟨Try.f64, Try.func64, by kernel_rfl, by kernel_rfl⟩
theorem tab76 : ∃ fn, Try.prog.funcs[63]? = some fn ∧ compFun Try.prog fn = some a76.strip ∧ (fn.name == "runtime.NumGoroutine") = false := ⟨Try.f63, Try.func63, by kernel_rfl, by kernel_rfl⟩
theorem tab77 : ∃ fn, Try.prog.funcs[55]? = some fn ∧ compFun Try.prog fn = some a77.strip ∧ (fn.name == "runtime.NumGoroutine") = false := ⟨Try.f55, Try.func55, by kernel_rfl, by kernel_rfl⟩
theorem tab78 : ∃ fn, Try.prog.funcs[56]? = some fn ∧ compFun Try.prog fn = some a78.strip ∧ (fn.name == "runtime.NumGoroutine") = false := ⟨Try.f56, Try.func56, by kernel_rfl, by kernel_rfl⟩
theorem tab79 : ∃ fn, Try.prog.funcs[57]? = some fn ∧ compFun Try.prog fn = some a79.strip ∧ (fn.name == "runtime.NumGoroutine") = false := ⟨Try.f57, Try.func57, by kernel_rfl, by kernel_rfl⟩
theorem tab80 : ∃ fn, Try.prog.funcs[58]? = some fn ∧ compFun Try.prog fn = some a80.strip ∧ (fn.name == "runtime.NumGoroutine") = false := ⟨Try.f58, Try.func58, by kernel_rfl, by kernel_rfl⟩
theorem tab81 : ∃ fn, Try.prog.funcs[59]? = some fn ∧ compFun Try.prog fn = some a81.strip ∧ (fn.name == "runtime.NumGoroutine") = false := ⟨Try.f59, Try.func59, by kernel_rfl, by kernel_rfl⟩
theorem tab82 : ∃ fn, Try.prog.funcs[60]? = some fn ∧ compFun Try.prog fn = some a82.strip ∧ (fn.name == "runtime.NumGoroutine") = false := ⟨Try.f60, Try.func60, by kernel_rfl, by kernel_rfl⟩
theorem tab83 : ∃ fn, Try.prog.funcs[61]? = some fn ∧ compFun Try.prog fn = some a83.strip ∧ (fn.name == "runtime.NumGoroutine") = false := ⟨Try.f61, Try.func61, by kernel_rfl, by kernel_rfl⟩
theorem tab84 : ∃ fn, Try.prog.funcs[62]? = some fn ∧ compFun Try.prog fn = some a84.strip ∧ (fn.name == "runtime.NumGoroutine") = false := ⟨Try.f62, Try.func62, by kernel_rfl, by kernel_rfl⟩
theorem tab91 : ∃ fn, Try.prog.funcs[69]? = some fn ∧ compFun Try.prog fn = some a91.strip ∧ (fn.name == "runtime.NumGoroutine") = false := ⟨Try.f69, Try.func69, by kernel_rfl, by kernel_rfl⟩
theorem Qw0 : ∃ fn, Try.prog.funcs[6]? = some fn ∧ compFun Try.prog fn = some Qjg.strip ∧ (fn.name == "runtime.NumGoroutine") = false := ⟨Try.f6, Try.func6, by kernel_rfl, by kernel_rfl⟩
theorem Qwz : ∃ fn, Try.prog.funcs[7]? = some fn ∧ compFun Try.prog fn = some Qvj.strip ∧ (fn.name == "runtime.NumGoroutine") = false := ⟨Try.f7, Try.func7, by kernel_rfl, by kernel_rfl⟩
theorem Qwy : ∃ fn, Try.prog.funcs[8]? = some fn ∧ compFun Try.prog fn = some Qvi.strip ∧ (fn.name == "runtime.NumGoroutine") = false := ⟨Try.f8, Try.func8, by kernel_rfl, by kernel_rfl⟩
theorem Qwx : ∃ fn, Try.prog.funcs[9]? = some fn ∧ compFun Try.prog fn = some Qaq.strip ∧ (fn.name == "runtime.NumGoroutine") = false := ⟨Try.f9, Try.func9, by kernel_rfl, by kernel_rfl⟩
theorem Qww : ∃ fn, Try.prog.funcs[10]? = some fn ∧ compFun Try.prog fn = some Qvh.strip ∧ (fn.name == "runtime.NumGoroutine") = false := ⟨Try.f10, Try.func10, by kernel_rfl, by kernel_rfl⟩
theorem Qwv : ∃ fn, Try.prog.funcs[13]? = some fn ∧ compFun Try.prog fn = some Qvg.strip ∧ (fn.name == "runtime.NumGoroutine") = false := ⟨Try.f13, Try.func13, by kernel_rfl, by kernel_rfl⟩
theorem Qwu : ∃ fn, Try.prog.funcs[17]? = some fn ∧ compFun Try.prog fn = some Qvf.strip ∧ (fn.name == "runtime.NumGoroutine") = false := ⟨Try.f17, Try.func17, by kernel_rfl, by kernel_rfl⟩
theorem Qwt : ∃ fn, Try.prog.funcs[25]? = some fn ∧ compFun Try.prog fn = some Qve.strip ∧ (fn.name == "runtime.NumGoroutine") = false := ⟨Try.f25, Try.func25, by kernel_rfl, by kernel_rfl⟩
theorem Qws : ∃ fn, Try.prog.funcs[52]? = some fn ∧ compFun Try.prog fn = some Qvd.strip ∧ (fn.name == "runtime.NumGoroutine") = false := ⟨Try.f52, Try.func52, by kernel_rfl, by kernel_rfl⟩
theorem Qwr : ∃ fn, Try.prog.funcs[53]? = some fn ∧ compFun Try.prog fn = some Qvc.strip ∧ (fn.name == "runtime.NumGoroutine") = false := ⟨Try.f53, Try.func53, by kernel_rfl, by kernel_rfl⟩
theorem Qwq : ∃ fn, Try.prog.funcs[54]? = some fn ∧ compFun Try.prog fn = some Qvb.strip ∧ (fn.name == "runtime.NumGoroutine") = false := ⟨Try.f54, Try.func54, by kernel_rfl, by kernel_rfl⟩
theorem Qwp : ∃ fn, Try.prog.funcs[66]? = some fn ∧ compFun Try.prog fn = some Qva.strip ∧ (fn.name == "runtime.NumGoroutine") = false := ⟨Try.f66, Try.func66, by kernel_rfl, by kernel_rfl⟩
theorem Qwo : ∃ fn, Try.prog.funcs[67]? = some fn ∧ compFun Try.prog fn = some Qu9.strip ∧ (fn.name == "runtime.NumGoroutine") = false := ⟨Try.f67, Try.func67, by kernel_rfl, by kernel_rfl⟩
theorem Qwn : ∃ fn, Try.prog.funcs[68]? = some fn ∧ compFun Try.prog fn = some Qu8.strip ∧ (fn.name == "runtime.NumGoroutine") = false := ⟨Try.f68, Try.func68, by kernel_rfl, by kernel_rfl⟩
theorem Qwm : ∃ fn, Try.prog.funcs[71]? = some fn ∧ compFun Try.prog fn = some Qu7.strip ∧ (fn.name == "runtime.NumGoroutine") = false := ⟨Try.f71, Try.func71, by kernel_rfl, by kernel_rfl⟩
theorem Qwl : ∃ fn, Try.prog.funcs[72]? = some fn ∧ compFun Try.prog fn = some Qu6.strip ∧ (fn.name == "runtime.NumGoroutine") = false := ⟨Try.f72, Try.func72, by kernel_rfl, by kernel_rfl⟩
theorem Qk5 (args:Array Value) (w:World):(callFunc 70 args).run Try.prog w = (((do
  let (x, y, c) ← Extern.MathBitsCarry.three "Add64" args
  pure (Extern.MathBitsCarry.pair ((x + y + c) % Extern.MathBitsCarry.m64) ((x + y + c) / Extern.MathBitsCarry.m64))):Sem Value).run Try.prog w).andThen fun v w' => .ok (.value v) w' :=
 run_callFunc_extern (e:=fun args => do
  let (x, y, c) ← Extern.MathBitsCarry.three "Add64" args
  pure (Extern.MathBitsCarry.pair ((x + y + c) % Extern.MathBitsCarry.m64) ((x + y + c) / Extern.MathBitsCarry.m64))) Try.func70 (by kernel_rfl) (by kernel_rfl) (by kernel_rfl) (by kernel_rfl) args w
theorem Qmm (P:Program) (w:World) (x y c:Int) (hc:c.toNat ≤ 1):(((do
  let (x, y, c) ← Extern.MathBitsCarry.three "Add64" [Value.int .u64 x, .int .u64 y, .int .u64 c].toArray
  pure (Extern.MathBitsCarry.pair ((x + y + c) % Extern.MathBitsCarry.m64) ((x + y + c) / Extern.MathBitsCarry.m64))):Sem Value).run P w) = .ok (.tuple #[.int .u64 ((x.toNat + y.toNat + c.toNat) % 18446744073709551616:Nat),.int .u64 ((x.toNat + y.toNat + c.toNat) / 18446744073709551616:Nat)]) w:=by
 have hc':¬ c.toNat > 1:=by omega
 have e : Extern.MathBitsCarry.three "Add64" [Value.int .u64 x, .int .u64 y, .int .u64 c].toArray = (if c.toNat > 1 then (do unsupported (.noEntry ("extern/math/bits." ++ "Add64" ++ ": a carry that is neither 0 nor 1")); pure (x.toNat, y.toNat, c.toNat)) else pure (x.toNat, y.toNat, c.toNat) : Sem (Nat × Nat × Nat)) := by
  rfl
 rw [e,if_neg hc']
 rfl
theorem Qwk (f:Nat) (args:List Value) (v:Value) (h:T.ext f args = some v):(∀ ρ,VRel ρ v v) ∧ ∀ w,(callFunc f args.toArray).run Try.prog w = .ok (.value v) w:=by
 have h':Qt8 f args = some v:=h
 unfold Qt8 at h'
 split at h'
 ·split at h'
  ·rename_i hc
   cases h'
   refine ⟨fun ρ => VRel.tuple (.cons (.same rfl) (.cons (.same rfl) .nil)),fun w => ?_⟩
   rw [Qk5,Qmm _ _ _ _ _ hc]
   rfl
  ·cases h'
 ·cases h'
theorem Qvt:TabOk Try.prog T:=by
 refine ⟨fun f af h => ?_,fun f args v _ h _ => Qwk f args v h⟩
 have h':fnS f = some af:=h
 unfold fnS at h'
 split at h'
 ·cases h'; exact tab16
 ·cases h'; exact tab17
 ·cases h'; exact tab19
 ·cases h'; exact tab21
 ·cases h'; exact tab22
 ·cases h'; exact tab23
 ·cases h'; exact tab25
 ·cases h'; exact tab26
 ·cases h'; exact tab27
 ·cases h'; exact tab28
 ·cases h'; exact tab29
 ·cases h'; exact tab30
 ·cases h'; exact tab31
 ·cases h'; exact tab34
 ·cases h'; exact tab39
 ·cases h'; exact tab40
 ·cases h'; exact tab41
 ·cases h'; exact tab42
 ·cases h'; exact tab44
 ·cases h'; exact tab45
 ·cases h'; exact tab46
 ·cases h'; exact tab47
 ·cases h'; exact tab48
 ·cases h'; exact tab49
 ·cases h'; exact tab50
 ·cases h'; exact tab51
 ·cases h'; exact tab52
 ·cases h'; exact tab53
 ·cases h'; exact tab54
 ·cases h'; exact tab55
 ·cases h'; exact tab56
 ·cases h'; exact tab57
 ·cases h'; exact tab58
 ·cases h'; exact tab59
 ·cases h'; exact tab60
 ·cases h'; exact tab61
 ·cases h'; exact tab62
 ·cases h'; exact tab63
 ·cases h'; exact tab64
 ·cases h'; exact tab75
 ·cases h'; exact tab76
 ·cases h'; exact tab77
 ·cases h'; exact tab78
 ·cases h'; exact tab79
 ·cases h'; exact tab80
 ·cases h'; exact tab81
 ·cases h'; exact tab82
 ·cases h'; exact tab83
 ·cases h'; exact tab84
 ·cases h'; exact tab91
 ·cases h'; exact Qw0
 ·cases h'; exact Qwz
 ·cases h'; exact Qwy
 ·cases h'; exact Qwx
 ·cases h'; exact Qww
 ·cases h'; exact Qwv
 ·cases h'; exact Qwu
 ·cases h'; exact Qwt
 ·cases h'; exact Qws
 ·cases h'; exact Qwr
 ·cases h'; exact Qwq
 ·cases h'; exact Qwp
 ·cases h'; exact Qwo
 ·cases h'; exact Qwn
 ·cases h'; exact Qwm
 ·cases h'; exact Qwl
 ·cases h'
theorem mixed:Try.prog.follows .mixedOrders = true:=by kernel_rfl
end Go.Ev.Ytgacigcbglflkaa
set_option linter.unusedSimpArgs false
set_option linter.unusedVariables false
namespace Go.Ev
open Go.RowKit Go.WideShapes Go.ChangeShapes
structure Rows8 (w:World) (a:Addr) (len cap:Nat) (A:Nat → Option Addr) (L C:Nat → Nat) (B:Nat → List Nat):Prop where
 spot:a.spot = none
 at_:∃ cs e fr,w.heap[a.block]? = some (.cells cs e fr) ∧ (cap = 0 ∨ a.off + cap ≤ cs.size)
 le:len ≤ cap
 max:cap ≤ maxLen
 cell:∀ r,r < len → w.cell? (a.add r) = some (.slice (A r) (L r) (C r))
 row:∀ r,r < len → L r ≤ C r ∧ C r ≤ maxLen ∧ (B r).length = L r ∧ (∀ x ∈ B r,x < 256) ∧ (A r = none → C r = 0) ∧
  ∀ a',A r = some a' → (∀ c,c < C r → ∃ v,w.cell? (a'.add c) = some v) ∧ ∀ (c x:Nat),(B r)[c]? = some x → w.cell? (a'.add c) = some (.int .u8 (x:Nat))
section
variable {P:Program}
theorem Qkd {w:World} {r:Reach} {b0:Nat} {H:Type} {enc:TypeId × Value → H} {t e q:TypeId} {v:Value} {d:DataW H} {ps:List MemPlace} (ht:P.underlying t = some (.slice e)) (he:P.underlying e = some (.slice q)) (hq:P.underlying q = some (.int .u8)) (ce:P.cellsOf e = 1) (cq:P.cellsOf q = 1)
  (hval:Value.okWide P w r b0 t v) (hd:DataW.Trod enc P w 0 (fun _ => true) true t v d ps) :
  v = .slice none 0 0 ∨ ∃ (a:Addr) (len cap:Nat) (A:Nat → Option Addr) (L C:Nat → Nat) (Z:Nat → List Int),v = .slice (some a) len cap ∧ Rows8 w a len cap A L C (fun r => ((Z r).take (L r)).map Mi) ∧
   ∃ ds,d = .slice ((Yi len).map fun r => Deep.intRow .u8 (A r) (L r) (Z r)) ds:=by
 obtain ⟨a0,len0,cap0,rfl⟩:=okWide_slice ht hval
 obtain ⟨fuel,hf⟩:=hd
 rcases Deep.open_int_rows ht he hq ce cq hf with ⟨h1,h2⟩ | ⟨a,len,cap,A,L,C,Z,h1,h2,h3,h4,h5,h6⟩
 ·left
  simpa [Value.cells] using h1
 ·right
  simp only [Value.cells,Qld,Value.slice.injEq,and_true] at h1
  obtain ⟨rfl,rfl,rfl⟩:=h1
  simp only [Prod.mk.injEq] at h5
  obtain ⟨rfl,-⟩:=h5
  simp only [Value.okWide,ht,Cell.okWide,Cell.ok] at hval
  obtain ⟨_,_,_,hsp,row,cells,hsh,_⟩:=hval
  simp only [World.shape?] at hsh
  cases hb:w.heap[a.block]? with
  | none => rw [hb] at hsh; cases hsh
  | some ob =>
   rw [hb] at hsh
   cases ob with
   | cells cs el fr =>
    have hcell:∀ i,w.cell? (a.add i) = cs[a.off + i]? := fun i => by
     have h1:(a.add i) = ⟨a.block,a.off + i,none⟩:=by
      obtain ⟨ab,ao,asp⟩:=a
      simp only at hsp
      subst hsp
      exact Kq _ _ _
     rw [h1]
     simp [World.cell?,hb]
    have hcap:cap0 = 0 ∨ a.off + cap0 ≤ cs.size:=by
     rcases Yb cap0 with h0 | h0
     ·exact .inl h0
     ·right
      obtain ⟨hx,-⟩:=h6 (cap0 - 1) (by omega)
      rw [hcell] at hx
      have:=(Up.1 hx).1
      omega
    refine ⟨a,len0,cap0,A,L,C,Z,rfl,⟨hsp,⟨cs,el,fr,hb,hcap⟩,h3,h4,(fun r hr => (h6 r (by omega)).1),(fun r hr => ?_)⟩,⟨_,rfl⟩⟩
    obtain ⟨k1,k2,k3,k4,k5,k6,k7⟩:=h6 r (by omega)
    have hz:∀ n ∈ Z r,0 ≤ n ∧ n ≤ 255:=fun n hn => by
     have hw:=k5 n hn
     simp only [Lit.wf,decide_eq_true_eq,Vh] at hw
     have hw1:(0:Int) ≤ n:=hw.1
     have hw2:n ≤ 255:=hw.2
     exact ⟨hw1,hw2⟩
    refine ⟨k2,k3,by rw [D0,Ks]; omega,fun x hx => ?_,k6,fun a' ha' => ?_⟩
    ·simp only [Wu] at hx
     obtain ⟨n,hn,rfl⟩:=hx
     have:=hz n (Vd hn)
     omega
    ·obtain ⟨-,k8⟩:=k7 a' ha'
     refine ⟨fun c hc => ⟨_,k8 c hc⟩,fun c x hx => ?_⟩
     simp only [Wj,Zs,Kt] at hx
     obtain ⟨n,hn,rfl⟩:=hx
     split at hn
     ·rename_i hlt
      have hzn:=hz n (Zt hn)
      rw [k8 c (by omega),Jp,hn,Y3,Int.toNat_of_nonneg hzn.1]
     ·cases hn
   | _ => cases hsh
end
def Qei (A:Nat → Option Addr) (L:Nat → Nat) (r:Nat):Value:=match A r with
 | none => .slice none 0 0
 | some _ => .slice (some ⟨r + 1,0,none⟩) (L r) (L r)
def Dl (len:Nat) (A:Nat → Option Addr) (L:Nat → Nat) (B:Nat → List Nat):List Ob :=
 ⟨(Yi len).map (Qei A L),true,false,false,1⟩ :: (Yi len).map fun r => ob8 (B r)
theorem Qe6 {len:Nat} {A:Nat → Option Addr} {L:Nat → Nat} {B:Nat → List Nat} {r:Nat} (h:r < len):(Dl len A L B)[r + 1]? = some (ob8 (B r)):=by
 simp [Dl,h]
theorem Qe5 {len:Nat} {A:Nat → Option Addr} {L:Nat → Nat} {B:Nat → List Nat}:∀ (i:Nat) (o:Ob),(Dl len A L B)[i]? = some o → o.own = false:=by
 intro i o h
 rcases i with _ | i
 ·simp [Dl] at h; subst h; rfl
 ·simp only [Dl,Q9,Wj,Zs] at h
  obtain ⟨_,_,rfl⟩:=h
  rfl
theorem Qe7 {w:World} {a:Addr} {len cap:Nat} {A:Nat → Option Addr} {L C:Nat → Nat} {B:Nat → List Nat} (h:Rows8 w a len cap A L C B) (r:Nat) (hr:r < len) :
  ∃ plr:Option Place,(∀ p,plr = some p → p.block < w.heap.size ∧ ∀ ρ,ObjRel ρ w p (ob8 (B r))) ∧ ∀ ρ:Pl,ρ (r + 1) = plr → VRel ρ (Qei A L r) (.slice (A r) (L r) (C r)):=by
 obtain ⟨k1,k2,k3,k4,k5,k6⟩:=h.row r hr
 cases hA:A r with
 | none =>
  have hC:=k5 hA
  refine ⟨none,⟨fun p hp => (by cases hp),fun ρ _ => ?_⟩⟩
  have hL:L r = 0:=by omega
  rw [hC,hL]
  unfold Qei
  rw [hA]
  exact .same rfl
 | some a' =>
  obtain ⟨k7,k8⟩:=k6 a' hA
  have hv:Qei A L r = .slice (some ⟨r + 1,0,none⟩) (L r) (L r):=by unfold Qei; rw [hA]
  rw [hv]
  rcases Yb (C r) with h0 | h0
  ·obtain ⟨cs,e,fr,g1,g2⟩:=h.at_
   have hlt:a.block < w.heap.size:=(Up.1 g1).1
   have hL:L r = 0:=by omega
   have hB:B r = []:=Vk (by omega)
   refine ⟨some ⟨a.block,0,cs.size,1,.foreign⟩,⟨fun p hp => ?_,fun ρ hρ => ?_⟩⟩
   ·cases hp
    refine ⟨hlt,fun ρ => ⟨rfl,rfl,cs,e,fr,g1,rfl,by simp [ob8,hB,u8s],fun i v hv => by simp [ob8,hB,u8s] at hv,fun ho => by simp [ob8] at ho⟩⟩
   ·rw [hL,h0]
    exact .slice hρ rfl (.inr ⟨rfl,rfl⟩) (.inr ⟨rfl,rfl⟩) (.inr rfl) (Q8 _) (Q8 _) trivial
  ·obtain ⟨v0,hv0⟩:=k7 0 h0
   have hz:a'.add 0 = a':=by simp [Addr.add]
   rw [hz] at hv0
   have hcs:∃ cs e fr,w.heap[a'.block]? = some (.cells cs e fr) ∧ a'.spot = none:=by
    unfold World.cell? at hv0
    split at hv0
    ·rename_i cs e fr hb
     split at hv0
     ·cases hv0
     ·rename_i hs
      exact ⟨cs,e,fr,hb,by simpa using hs⟩
    ·cases hv0
   obtain ⟨cs,e,fr,g1,g2⟩:=hcs
   have hcell:∀ i,w.cell? (a'.add i) = cs[a'.off + i]? := fun i => by
    have h1:(a'.add i) = ⟨a'.block,a'.off + i,none⟩:=by
     obtain ⟨ab,ao,asp⟩:=a'
     simp only at g2
     subst g2
     exact Kq _ _ _
    rw [h1]
    simp [World.cell?,g1]
   have hl:Lies8 w a' (L r) (C r) (B r):=by
    refine ⟨g2,⟨cs,e,fr,g1,.inr ?_,fun i x hx => by rw [← hcell]; exact k8 i x hx⟩,k1,k2,k3,k4⟩
    obtain ⟨v,hv⟩:=k7 (C r - 1) (by omega)
    rw [hcell] at hv
    have:=(Up.1 hv).1
    omega
   obtain ⟨pl,p1,p2,p3,p4⟩:=Qqi hl
   exact ⟨some pl,⟨fun p hp => by cases hp; exact ⟨p2,p3⟩,fun ρ hρ => p4 ρ (r + 1) hρ⟩⟩
theorem Qpf {w:World} {a:Addr} {len cap:Nat} {A:Nat → Option Addr} {L C:Nat → Nat} {B:Nat → List Nat} (h:Rows8 w a len cap A L C B) :
  ∃ ρ:Pl,VRel ρ (.slice (some ⟨0,0,none⟩) len len) (.slice (some a) len cap) ∧ RelF ρ (hp (Dl len A L B)) w ∧ ∀ id,(Dl len A L B).length ≤ id → ρ id = none:=by
 obtain ⟨g,hg⟩:∃ g:Nat → Option Place,∀ r,r < len → (∀ p,g r = some p → p.block < w.heap.size ∧ ∀ ρ,ObjRel ρ w p (ob8 (B r))) ∧ ∀ ρ:Pl,ρ (r + 1) = g r → VRel ρ (Qei A L r) (.slice (A r) (L r) (C r)) :=
  ⟨fun r => if hr:r < len then Classical.choose (Qe7 h r hr) else none,fun r hr => by
   simp only [dif_pos hr]
   exact Classical.choose_spec (Qe7 h r hr)⟩
 obtain ⟨cs,e,fr,g1,g2⟩:=h.at_
 have hlt:a.block < w.heap.size:=(Up.1 g1).1
 have hle:=h.le
 obtain ⟨ab,ao,asp⟩:=a
 have hsp:=h.spot
 simp only at hsp g1 g2 hlt
 subst hsp
 obtain ⟨o,ho1,ho2⟩:∃ o,(o = ao ∨ cap = 0) ∧ o + len ≤ cs.size:=by
  rcases Yb cap with h0 | h0
  ·exact ⟨0,.inr h0,by omega⟩
  ·exact ⟨ao,.inl rfl,by omega⟩
 refine ⟨fun id => if id = 0 then some ⟨ab,o,cs.size,1,.foreign⟩ else if id - 1 < len then g (id - 1) else none,?_,⟨fun id p hp => ?_,fun id ob p hc hp hl => ?_,fun i j oi oj pi pj hi hj hpi hpj hl ho hlj hne => ?_⟩,fun id hid => ?_⟩
 ·exact .slice (pl:=⟨ab,o,cs.size,1,.foreign⟩) (by simp) rfl (.inl rfl) (.inl rfl) (by rcases ho1 with h | h; exact .inl (by simp [h]); exact .inr h) (Q8 _) hle trivial
 ·by_cases h0:id = 0
  ·simp only [if_pos h0] at hp; cases hp; exact hlt
  ·simp only [if_neg h0] at hp
   split at hp
   ·rename_i hr; exact ((hg _ hr).1 p hp).1
   ·cases hp
 ·by_cases h0:id = 0
  ·subst h0
   simp only [if_true] at hp
   cases hp
   simp only [Dl,Za,Qg] at hc
   subst hc
   refine ⟨rfl,rfl,cs,e,fr,g1,rfl,by simpa using ho2,fun i v hv => ?_,fun ho => by cases ho⟩
   simp only [Wj,Zs] at hv
   obtain ⟨j,hj,rfl⟩:=hv
   obtain ⟨hj1,hj2⟩:=Qt.1 hj
   simp only [Ry] at hj1
   rw [List.getElem_range] at hj2
   subst hj2
   have hcell:=h.cell i hj1
   have hadd:(⟨ab,ao,none⟩:Addr).add i = ⟨ab,ao + i,none⟩:=Kq _ _ _
   rw [hadd] at hcell
   simp only [World.cell?,g1] at hcell
   have ho:o = ao:=by rcases ho1 with h | h; exact h; omega
   subst ho
   refine ⟨by unfold Qei; split <;> rfl,_,by simpa using hcell,(hg i hj1).2 _ (by simp [hj1])⟩
  ·simp only [if_neg h0] at hp
   split at hp
   ·rename_i hr
    obtain ⟨k,rfl⟩:∃ k,id = k + 1:=⟨id - 1,by omega⟩
    simp only [Nat.add_sub_cancel] at hp hr
    have:=Qe6 (A:=A) (L:=L) (B:=B) hr
    simp only [Go.Ev.hp] at hc
    rw [this] at hc
    cases hc
    exact ((hg _ hr).1 p hp).2 _
   ·cases hp
 ·have:=Qe5 i oi hi
  rw [ho] at this
  cases this
 ·simp only [Dl,Zg,D0,Ry] at hid
  have h0:¬ id = 0:=by omega
  have h1:¬ id - 1 < len:=by omega
  simp [h0,h1]
end Go.Ev
set_option linter.unusedSimpArgs false
set_option linter.unusedVariables false
namespace Go.Ev
theorem n_add (a b:Nat):(a:Int) + (b:Int) = ((a + b:Nat):Int):=(Ga a b).symm
theorem n_mul (a b:Nat):(a:Int) * (b:Int) = ((a * b:Nat):Int):=(B9 a b).symm
theorem Qxq (n a:Nat):(no_index (@OfNat.ofNat Int n instOfNat)) + (a:Int) = ((n + a:Nat):Int):=(Ga n a).symm
theorem Qxr (n a:Nat):(a:Int) + (no_index (@OfNat.ofNat Int n instOfNat)) = ((a + n:Nat):Int):=(Ga a n).symm
theorem Qxp (n a:Nat):(no_index (@OfNat.ofNat Int n instOfNat)) * (a:Int) = ((n * a:Nat):Int):=(B9 n a).symm
theorem Qxo (n a:Nat):(a:Int) * (no_index (@OfNat.ofNat Int n instOfNat)) = ((a * n:Nat):Int):=(B9 a n).symm
theorem Qgl (a b:Nat):Mo (a:Int) (b:Int) = ((a / b:Nat):Int):=by
 rw [Yj _ (Zo _)]; rfl
theorem Qtj (a n:Nat):Mo (a:Int) (no_index (@OfNat.ofNat Int n instOfNat)) = ((a / n:Nat):Int):=Qgl a n
theorem Qxn (a n:Nat):Int.tdiv (a:Int) (no_index (@OfNat.ofNat Int n instOfNat)) = ((a / n:Nat):Int):=rfl
theorem Qxm (a n:Nat):Int.tmod (a:Int) (no_index (@OfNat.ofNat Int n instOfNat)) = ((a % n:Nat):Int):=rfl
theorem Qly (a:Nat):IntKind.u64.wrap (a:Int) = ((a % 18446744073709551616:Nat):Int):=by rw [Mp]; omega
theorem n_w32 (a:Nat):IntKind.u32.wrap (a:Int) = ((a % 4294967296:Nat):Int):=by rw [wrap_u32]; omega
theorem n_w16 (a:Nat):IntKind.u16.wrap (a:Int) = ((a % 65536:Nat):Int):=by rw [Qof]; omega
theorem Qti (a:Nat):IntKind.u8.wrap (a:Int) = ((a % 256:Nat):Int):=by rw [wrap_u8]; omega
theorem Qgk (a b:Nat):IntKind.u64.wrap ((a:Int) - (b:Int)) = (((a + (18446744073709551616 - b % 18446744073709551616)) % 18446744073709551616:Nat):Int):=by rw [Mp]; omega
theorem Qqf (n b:Nat):IntKind.u64.wrap ((no_index (@OfNat.ofNat Int n instOfNat)) - (b:Int)) = (((n + (18446744073709551616 - b % 18446744073709551616)) % 18446744073709551616:Nat):Int):=Qgk n b
theorem Qqe (a n:Nat):IntKind.u64.wrap ((a:Int) - (no_index (@OfNat.ofNat Int n instOfNat))) = (((a + (18446744073709551616 - n % 18446744073709551616)) % 18446744073709551616:Nat):Int):=Qgk a n
theorem Qda (w a:Nat):BitVec.ofInt w (a:Int) = BitVec.ofNat w a:=by simp
theorem n_and (k:IntKind) (hk:k.signed = false) (a b:Nat):Vj .and k (a:Int) (b:Int) = (((a % 2 ^ k.bits) &&& (b % 2 ^ k.bits):Nat):Int):=by
 simp only [Vj,Qda]
 rw [BitVec.toNat_and,BitVec.toNat_ofNat,BitVec.toNat_ofNat,Y0 hk (Gh _ (Jn _ (Y9 (by decide))))]
theorem n_or (k:IntKind) (hk:k.signed = false) (a b:Nat):Vj .or k (a:Int) (b:Int) = (((a % 2 ^ k.bits) ||| (b % 2 ^ k.bits):Nat):Int):=by
 simp only [Vj,Qda]
 rw [BitVec.toNat_or,BitVec.toNat_ofNat,BitVec.toNat_ofNat,Y0 hk (Qg2 (Jn _ (Y9 (by decide))) (Jn _ (Y9 (by decide))))]
theorem Tk (k:IntKind) (hk:k.signed = false) (w a:Nat) (hw:w ≤ k.bits):Vj .and k (a:Int) ((2 ^ w - 1:Nat):Int) = ((a % 2 ^ w:Nat):Int):=by
 have h1:(2:Nat) ^ w ≤ 2 ^ k.bits:=Kx (by decide) hw
 have h0:0 < (2:Nat) ^ w:=Y9 (by decide)
 rw [n_and k hk,Z6 (a:=2 ^ w - 1) (by omega),Nat.and_two_pow_sub_one_eq_mod,Gg _ (Nat.pow_dvd_pow 2 hw)]
theorem n_m32 (a:Nat):Vj .and .u64 (a:Int) 4294967295 = ((a % 4294967296:Nat):Int):=Tk .u64 rfl 32 a (by decide)
theorem n_m51 (a:Nat):Vj .and .u64 (a:Int) 2251799813685247 = ((a % 2251799813685248:Nat):Int):=Tk .u64 rfl 51 a (by decide)
theorem n_m1 (a:Nat):Vj .and .u64 (a:Int) 1 = ((a % 2:Nat):Int):=Tk .u64 rfl 1 a (by decide)
theorem n_m1b (a:Nat):Vj .and .u8 (a:Int) 1 = ((a % 2:Nat):Int):=Tk .u8 rfl 1 a (by decide)
theorem n_m7b (a:Nat):Vj .and .u8 (a:Int) 127 = ((a % 128:Nat):Int):=Tk .u8 rfl 7 a (by decide)
theorem Qxd:(2:Int) ^ min 32 IntKind.u64.bits = ((4294967296:Nat):Int):=rfl
theorem Qxc:(2:Int) ^ min 51 IntKind.u64.bits = ((2251799813685248:Nat):Int):=rfl
theorem Qxe:(2:Int) ^ min 13 IntKind.u64.bits = ((8192:Nat):Int):=rfl
theorem p8_7:(2:Int) ^ min 7 IntKind.u8.bits = ((128:Nat):Int):=rfl
theorem Mw {a b n:Nat} (h:a < 2 ^ n):(b * 2 ^ n) ||| a = b * 2 ^ n + a:=by
 rw [K9,Bl h]
theorem Mz (k:IntKind):ns k [] = []:=rfl
theorem Hs (k:IntKind) (x:Nat) (r:List Nat):ns k (x :: r) = .int k (x:Nat) :: ns k r:=rfl
theorem Qci {w m q s y M:Nat} (hq:q < m) (hs:s < w) (hM:M < 2 ^ (w * q + s)) (hy:y * 2 ^ s < 2 ^ w) :
  (dig (2 ^ w) m M).set q ((dig (2 ^ w) m M).getD q 0 ||| y * 2 ^ s) = dig (2 ^ w) m (M + y * 2 ^ (w * q + s)):=by
 have hB:(2 ^ w) ^ q = 2 ^ (w * q):=by rw [← Ye]
 have hpos:0 < (2 ^ w:Nat) ^ q:=Y9 (Y9 (by decide))
 have hpow:(2:Nat) ^ (w * q + s) = 2 ^ s * (2 ^ w) ^ q:=by rw [Y4,hB,K9]
 have hdiv:M / (2 ^ w) ^ q < 2 ^ s:=by rw [Qbm hpos,← hpow]; exact hM
 have hsw:(2:Nat) ^ s ≤ 2 ^ w:=Kx (by decide) (by omega)
 have hsum:M / (2 ^ w) ^ q + y * 2 ^ s < 2 ^ w:=by
  have h1:(2:Nat) ^ w = 2 ^ (w - s) * 2 ^ s:=by rw [← Y4]; congr 1; omega
  have h2:y < 2 ^ (w - s):=by
   rw [h1] at hy
   exact Nat.lt_of_mul_lt_mul_right hy
  have h3:(y + 1) * 2 ^ s ≤ 2 ^ (w - s) * 2 ^ s:=Wa _ h2
  rw [Kr,Wr,← h1] at h3
  omega
 apply Rp (by rw [X3,Ku])
 intro i hi
 by_cases hqi:i = q
 ·subst hqi
  rw [Km (by rw [Ku]; exact hi),Jp,Bz hi]
  rw [hpow,← V4,Hi _ _ hpos]
  simp only [Y3]
  rw [Z6 (a:=M / _) (by omega),Z6 hsum,Nat.or_comm,Mw hdiv,Gt]
 ·rw [Xc (Ne.symm hqi),Bz hi]
  congr 1
  by_cases hlt:i < q
  ·have h1:(2 ^ w:Nat) ^ q = 2 ^ w * (2 ^ w) ^ (q - i - 1) * (2 ^ w) ^ i:=by
    rw [V4,← Y4,← Qji]; congr 1; omega
   rw [hpow,h1]
   rw [show y * (2 ^ s * (2 ^ w * (2 ^ w) ^ (q - i - 1) * (2 ^ w) ^ i)) = (y * 2 ^ s * (2 ^ w) ^ (q - i - 1) * 2 ^ w) * (2 ^ w) ^ i by simp only [V4,Yg,K9]]
   rw [Hi _ _ (Y9 (Y9 (by decide))),Br]
  ·have h1:M + y * 2 ^ (w * q + s) < (2 ^ w) ^ i:=by
    have h2:(2 ^ w:Nat) ^ (q + 1) ≤ (2 ^ w) ^ i:=Kx (Y9 (by decide)) (by omega)
    refine Xo ?_ h2
    have h3:(M / (2 ^ w) ^ q + y * 2 ^ s + 1) * (2 ^ w) ^ q ≤ 2 ^ w * (2 ^ w) ^ q:=Wa _ hsum
    have h4:=Vn M ((2 ^ w) ^ q)
    have h5:=Jn M hpos
    rw [K8,K9 ((2 ^ w) ^ q)]
    refine Xo ?_ h3
    rw [hpow,← V4,Kr,Kr,Wr,K9 (M / (2 ^ w) ^ q)]
    omega
   rw [Wy h1,Wy (by omega)]
def V7 (T:Tab) (f:Nat) (args:List Value):Option Value:=(Vl T f args []).map (·.1)
theorem T9 {T:Tab} {f:Nat} {args:List Value} {v:Value} {l:List Ob} {M:List Nat} (h:Vl T f args [] = some (v,l,M)):V7 T f args = some v:=by simp [V7,h]
theorem Vc {T:Tab} {f:Nat} {args:List Value} {v:Value} (h:∃ l,Vl T f args [] = some (v,l,[])):V7 T f args = some v:=by
 obtain ⟨l,h⟩:=h
 exact T9 h
theorem Ja {T:Tab} {b:Nat} {q:Bool} {f:Nat} {xs:List Operand} {d:Option Nat} {r:List AOper} {e:Env} {H:List Ob} {l:List Nat}:steps T b q (⟨d,.call f xs true,none⟩ :: r) ⟨e,H,l⟩ = (Yo e xs).bind fun args => gate (args.all rf = true) ((V7 T f args).bind fun v => gate (rf v = true) (steps T b q r ⟨e.put d v,H,l⟩)):=by
 rw [Wf]
 cases Yo e xs with
 | none => rfl
 | some args =>
  simp only [Qf,V7]
  cases Vl T f args [] <;> rfl
set_option linter.defProp false
def cU:=Qk (Qk (Qk (Qk (@n_add) (Qk (@n_mul) (@Qxq))) (Qk (@Qxr) (Qk (@Qxp) (@Qxo)))) (Qk (Qk (@Qgl) (Qk (@Qtj) (@Qxn))) (Qk (Qk (@Qxm) (@Qly)) (Qk (@n_w32) (@n_w16))))) (Qk (Qk (Qk (@Qti) (Qk (@Qgk) (@Qqf))) (Qk (@Qqe) (Qk (@n_m32) (@n_m51)))) (Qk (Qk (@n_m1) (Qk (@n_m1b) (@n_m7b))) (Qk (Qk (@Qxd) (@Qxc)) (Qk (@Qxe) (@p8_7)))))
end Go.Ev
set_option linter.unusedSimpArgs false
set_option linter.unusedVariables false
namespace Go.NT
def Pr (p:Nat):Prop:=2 ≤ p ∧ ∀ m,m ∣ p → m = 1 ∨ m = p
theorem Pr.coprime {p a:Nat} (hp:Pr p) (h:¬ p ∣ a):Qyh p a:=by
 rcases hp.2 (Qcl p a) (Nat.gcd_dvd_left p a) with h1 | h1
 ·exact h1
 ·exact absurd (h1 ▸ Nat.gcd_dvd_right p a) h
theorem Pr.dvd_mul {p a b:Nat} (hp:Pr p) (h:p ∣ a * b):p ∣ a ∨ p ∣ b:=by
 by_cases ha:p ∣ a
 ·exact .inl ha
 ·exact .inr ((hp.coprime ha).dvd_of_dvd_mul_left h)
def Dn:List Nat → Nat
 | [] => 1
 | x :: r => x * Dn r
theorem Qj2 {l l':List Nat} (h:l.Perm l'):Dn l = Dn l':=by
 induction h with
 | nil => rfl
 | cons x _ ih => simp only [Dn,ih]
 | swap x y l => simp only [Dn,Yg]
 | trans _ _ h1 h2 => rw [h1,h2]
theorem Qlq:∀ {l1 l2:List Nat},l1.Nodup → (∀ x ∈ l1,x ∈ l2) → l2.length ≤ l1.length → l1.Perm l2
 | [],l2,_,_,hl => by
  have:l2 = []:=by cases l2 with | nil => rfl | cons _ _ => simp at hl
  subst this; exact .nil
 | a :: t,l2,hn,hs,hl => by
  have ha:=hs a (by simp)
  have hp:=List.perm_cons_erase ha
  have hlen:=hp.length_eq
  rw [List.nodup_cons] at hn
  refine (List.Perm.cons a (Qlq hn.2 (fun x hx => ?_) ?_)).trans hp.symm
  ·have hxa:x ≠ a:=fun h => hn.1 (h ▸ hx)
   exact (List.mem_erase_of_ne hxa).2 (hs x (by simp [hx]))
  ·simp only [Zg] at hl hlen ⊢
   omega
theorem Qe9 (a p:Nat):∀ l:List Nat,Dn (l.map fun x => a * x % p) % p = a ^ l.length * Dn l % p
 | [] => by simp [Dn]
 | x :: r => by
  have h1:=Qe9 a p r
  simp only [Yf,Dn,Zg,K8]
  rw [Df,h1,Rx,← Df]
  congr 1
  simp only [V4,Yg,K9]
theorem Qc5 {p:Nat} (hp:Pr p):∀ {l:List Nat},(∀ x ∈ l,¬ p ∣ x) → ¬ p ∣ Dn l
 | [],_ => fun h => by
  have:=U1 (by decide:0 < 1) h
  have:=hp.1
  omega
 | x :: r,h => fun hd => by
  rcases hp.dvd_mul hd with h1 | h1
  ·exact h x (by simp) h1
  ·exact Qc5 hp (fun y hy => h y (by simp [hy])) h1
theorem Qbe {p a:Nat} (hp:Pr p) (ha:¬ p ∣ a):a ^ (p - 1) % p = 1:=by
 have h2:=hp.1
 have hnd:((Bd 1 (p - 1)).map fun x => a * x % p).Nodup:=by
  rw [List.nodup_iff_pairwise_ne,List.pairwise_map]
  refine List.Pairwise.imp_of_mem ?_ (List.pairwise_lt_range' (s:=1) (n:=p - 1))
  intro x y hx hy hxy he
  simp only [Qg5] at hx hy
  have h3:(a * y - a * x) % p = 0:=De he.symm
  rw [← Nat.mul_sub] at h3
  rcases hp.dvd_mul (Gs h3) with h4 | h4
  ·exact ha h4
  ·have:=U1 (by omega) h4
   omega
 have hmem:∀ x ∈ (Bd 1 (p - 1)).map (fun x => a * x % p),x ∈ Bd 1 (p - 1):=by
  intro x hx
  simp only [Wu,Qg5] at hx ⊢
  obtain ⟨y,hy,rfl⟩:=hx
  have h3:a * y % p < p:=Jn _ (by omega)
  have h4:a * y % p ≠ 0:=fun h => by
   rcases hp.dvd_mul (Gs h) with h4 | h4
   ·exact ha h4
   ·have:=U1 (by omega) h4
    omega
  omega
 have hperm:=Qj2 (Qlq hnd hmem (by simp))
 have h5:=Qe9 a p (Bd 1 (p - 1))
 rw [hperm,List.length_range'] at h5
 have h6:¬ p ∣ Dn (Bd 1 (p - 1)):=Qc5 hp fun x hx hd => by
  simp only [Qg5] at hx
  have:=U1 (by omega) hd
  omega
 have h7:(a ^ (p - 1) * Dn (Bd 1 (p - 1)) - 1 * Dn (Bd 1 (p - 1))) % p = 0:=De (by rw [← h5,Wr])
 rw [← Nat.sub_mul] at h7
 have ha0:0 < a:=Nat.pos_of_ne_zero fun h => ha (h ▸ Nat.dvd_zero p)
 have h8:0 < a ^ (p - 1):=Y9 ha0
 rcases hp.dvd_mul (Gs h7) with h9 | h9
 ·obtain ⟨k,hk⟩:=h9
  have:a ^ (p - 1) = p * k + 1:=by omega
  rw [this,Nat.mul_add_mod,Z6 (by omega)]
 ·exact absurd h9 h6
theorem Qbc {n:Nat} (hn:2 ≤ n):∃ r,Pr r ∧ r ∣ n ∧ (Pr n ∨ r * r ≤ n):=by
 have ex:∃ r,2 ≤ r ∧ r ∣ n ∧ ∀ m,2 ≤ m → m ∣ n → r ≤ m:=by
  have key:∀ k,(∃ r,2 ≤ r ∧ r ∣ n ∧ r ≤ k) → ∃ r,2 ≤ r ∧ r ∣ n ∧ ∀ m,2 ≤ m → m ∣ n → r ≤ m:=by
   intro k
   induction k with
   | zero => rintro ⟨r,h1,_,h3⟩; omega
   | succ k ih =>
    rintro ⟨r,h1,h2,h3⟩
    by_cases h:∃ r,2 ≤ r ∧ r ∣ n ∧ r ≤ k
    ·exact ih h
    ·refine ⟨r,h1,h2,fun m hm hmd => ?_⟩
     rcases Vr k m with h4 | h4
     ·omega
     ·exact absurd ⟨m,hm,hmd,h4⟩ h
  exact key n ⟨n,hn,Nat.dvd_refl n,Q8 n⟩
 obtain ⟨r,h1,h2,h3⟩:=ex
 have hr:Pr r:=⟨h1,fun m hm => by
  have hm0:0 < m:=Nat.pos_of_dvd_of_pos hm (by omega)
  rcases Vr m 2 with h | h
  ·left; omega
  ·have:=h3 m h (Nat.dvd_trans hm h2)
   have:=U1 (by omega) hm
   right; omega⟩
 refine ⟨r,hr,h2,?_⟩
 obtain ⟨k,rfl⟩:=h2
 rcases Vr k 2 with h | h
 ·have:k = 1:=by
   rcases Yb k with h0 | h0
   ·subst h0; omega
   ·omega
  subst this
  rw [Xb]; exact .inl hr
 ·exact .inr (U4 r (h3 k h (Qjj k r)))
def pw (m a:Nat):Nat → Nat → Nat
 | 0,_ => 1 % m
 | f + 1,e => if e % 2 = 1 then (pw m a f (e / 2)) * (pw m a f (e / 2)) % m * a % m else (pw m a f (e / 2)) * (pw m a f (e / 2)) % m
theorem Qvw (m a:Nat):∀ (f e:Nat),e < 2 ^ f → pw m a f e = a ^ e % m
 | 0,e,h => by
  have:e = 0:=by simpa using h
  subst this; rfl
 | f + 1,e,h => by
  have ih:=Qvw m a f (e / 2) (by rw [K8] at h; omega)
  have hs:a ^ (e / 2) % m * (a ^ (e / 2) % m) % m = a ^ (2 * (e / 2)) % m:=by
   rw [← Df,← Y4]; congr 2; omega
  unfold pw
  rw [ih]
  by_cases he:e % 2 = 1
  ·rw [if_pos he,hs,Qlc,← K8]
   congr 2; omega
  ·rw [if_neg he,hs]
   congr 2; omega
def pwf (m a:Nat):Nat → Nat → Nat
 | 0,_ => 1 % m
 | f + 1,e => (fun r => if e % 2 = 1 then r * r % m * a % m else r * r % m) (pwf m a f (e / 2))
theorem Qsr {r:Nat} (hr:2 ≤ r) (b x y:Nat):b ^ x % r = 1 → b ^ y % r = 1 → b ^ (Qcl x y) % r = 1:=by
 induction x,y using Nat.gcd.induction with
 | H0 y => intro _ h; rwa [Nat.gcd_zero_left]
 | H1 x y hx ih =>
  intro h1 h2
  rw [Nat.gcd_rec]
  refine ih ?_ h1
  have h3:b ^ (x * (y / x) + y % x) % r = 1:=by rw [Vn]; exact h2
  rw [Y4,Ye,Df,Qye (b ^ x),h1,Nat.one_pow,Z6 (a:=1) (by omega),Wr,Rx] at h3
  exact h3
theorem Qw8 {n q k a r:Nat} (hq:Pr q) (hk:n = q * k + 1) (h1:a ^ (q * k) % n = 1) (h2:Qcl (a ^ k % n + n - 1) n = 1) (hr:Pr r) (hrn:r ∣ n):q ∣ r - 1:=by
 have hr2:=hr.1
 have hn0:0 < n:=by omega
 have hn2:r ≤ n:=U1 hn0 hrn
 have hmodr:∀ x,x % n % r = x % r:=fun x => Gg x hrn
 have hb1:a ^ (q * k) % r = 1:=by rw [← hmodr,h1,Z6 (by omega)]
 have hra:¬ r ∣ a:=fun h => by
  have hqk:0 < q * k:=by
   rcases Yb (q * k) with h0 | h0
   ·omega
   ·exact h0
  have:r ∣ a ^ (q * k):=by
   obtain ⟨m,hm⟩:∃ m,q * k = m + 1:=⟨q * k - 1,by omega⟩
   rw [hm,K8]
   exact Nat.dvd_trans h (Qjj a _)
  have:=Qar this
  omega
 have hf:=Qbe hr hra
 by_cases hqd:q ∣ r - 1
 ·exact hqd
 ·exfalso
  have hc:=hq.coprime hqd
  have hpow:∀ x:Nat,∀ c,c % r = 1 → c ^ x % r = 1:=fun x c hcx => by rw [Qye,hcx,Nat.one_pow,Z6 (by omega)]
  have hk1:(a ^ k) ^ q % r = 1:=by rw [← Ye,K9 k q]; exact hb1
  have hk2:(a ^ k) ^ (r - 1) % r = 1:=by rw [← Ye,K9 k,Ye]; exact hpow k _ hf
  have hak:a ^ k % r = 1:=by
   have:=Qsr hr2 (a ^ k) q (r - 1) hk1 hk2
   rwa [hc,Nat.pow_one] at this
  have hdvd:r ∣ a ^ k % n + n - 1:=by
   have e3:a ^ k % n % r = 1:=by rw [hmodr]; exact hak
   have e4:1 ≤ a ^ k % n:=by
    rcases Yb (a ^ k % n) with h0 | h0
    ·rw [h0,Nat.zero_mod] at e3; omega
    ·exact h0
   have e5:r ∣ a ^ k % n - 1:=by
    apply Gs
    exact De (by rw [e3,Z6 (by omega)])
   rw [show a ^ k % n + n - 1 = (a ^ k % n - 1) + n by omega]
   exact Nat.dvd_add e5 hrn
  have:=Nat.dvd_gcd hdvd hrn
  rw [h2] at this
  have:=U1 (by decide) this
  omega
theorem Qpr {n q k a:Nat} (hn:2 ≤ n) (hq:Pr q) (hk:n = q * k + 1) (hbig:n < q * q) (h1:a ^ (q * k) % n = 1) (h2:Qcl (a ^ k % n + n - 1) n = 1):Pr n:=by
 obtain ⟨r,hr,hrn,h | h⟩:=Qbc hn
 ·exact h
 ·have h3:=Qw8 hq hk h1 h2 hr hrn
  have:=hr.1
  have h4:=U1 (by omega) h3
  have:q * q ≤ r * r:=Yr (by omega) (by omega)
  omega
theorem Qpq {n q k a q' k' a':Nat} (hn:2 ≤ n) (hq:Pr q) (hk:n = q * k + 1) (hq':Pr q') (hk':n = q' * k' + 1) (hne:q ≠ q') (hbig:n < (q * q') * (q * q')) (h1:a ^ (q * k) % n = 1) (h2:Qcl (a ^ k % n + n - 1) n = 1)
  (h1':a' ^ (q' * k') % n = 1) (h2':Qcl (a' ^ k' % n + n - 1) n = 1):Pr n:=by
 obtain ⟨r,hr,hrn,h | h⟩:=Qbc hn
 ·exact h
 ·have h3:=Qw8 hq hk h1 h2 hr hrn
  have h3':=Qw8 hq' hk' h1' h2' hr hrn
  have hc:Qyh q q':=hq.coprime fun hd => by
   rcases hq'.2 q hd with h | h
   ·have:=hq.1; omega
   ·exact hne h
  have h5:=hc.mul_dvd_of_dvd_of_dvd h3 h3'
  have:=hr.1
  have h4:=U1 (by omega) h5
  have:(q * q') * (q * q') ≤ r * r:=Yr (by omega) (by omega)
  omega
def Qlx (n:Nat):Nat → Nat → Bool
 | 0,_ => true
 | f + 1,m => (n % m != 0) && Qlx n f (m + 1)
theorem Qdc {n:Nat}:∀ (f m:Nat),Qlx n f m = true → ∀ x,m ≤ x → x < m + f → n % x ≠ 0
 | 0,m,_,x,h1,h2 => by omega
 | f + 1,m,h,x,h1,h2 => by
  simp only [Qlx,Vh,bne_iff_ne] at h
  rcases Nat.eq_or_lt_of_le h1 with h3 | h3
  ·subst h3; exact h.1
  ·exact Qdc f (m + 1) h.2 x h3 (by omega)
theorem Ut {n f:Nat} (hn:2 ≤ n) (hf:n < (f + 2) * (f + 2)) (h:Qlx n f 2 = true):Pr n:=by
 obtain ⟨r,hr,hrn,h1 | h1⟩:=Qbc hn
 ·exact h1
 ·have hr2:=hr.1
  have:r < 2 + f:=by
   rcases Vr r (2 + f) with h2 | h2
   ·exact h2
   ·have:(f + 2) * (f + 2) ≤ r * r:=Yr (by omega) (by omega)
    omega
  exact absurd (Qar hrn) (Qdc f 2 h r hr2 this)
end Go.NT
set_option linter.unusedSimpArgs false
set_option linter.unusedVariables false
namespace Go.Cv
section
variable {n:Nat} [NeZero n]
structure Fld (n:Nat) [NeZero n] (iv:Fin n → Fin n) (d i:Fin n):Prop where
 inv:∀ a:Fin n,a ≠ 0 → a * iv a = 1
 iv0:iv 0 = 0
 one:(1:Fin n) ≠ 0
 two:(2:Fin n) ≠ 0
 root:i * i = -1
 nosq:∀ r:Fin n,r * r ≠ d
variable {iv:Fin n → Fin n} {d i:Fin n} (F:Fld n iv d i)
include F
theorem Fld.dom {a b:Fin n} (h:a * b = 0):a = 0 ∨ b = 0:=by
 by_cases ha:a = 0
 ·exact .inl ha
 ·have:=F.inv a ha
  exact .inr (by grobner)
theorem Fld.mul_ne {a b:Fin n} (ha:a ≠ 0) (hb:b ≠ 0):a * b ≠ 0:=fun h => by
 rcases F.dom h with h | h
 ·exact ha h
 ·exact hb h
theorem Fld.cancel {a b c:Fin n} (ha:a ≠ 0) (h:a * b = a * c):b = c:=by
 have:=F.inv a ha
 grobner
theorem Fld.noratio {u v:Fin n} (hv:v ≠ 0):u * u ≠ d * (v * v):=fun h => by
 have:=F.inv v hv
 apply F.nosq (u * iv v)
 grobner
omit F
def On (d x y:Fin n):Prop := -(x * x) + y * y = 1 + d * (x * x) * (y * y)
theorem On.sub {d x y:Fin n} (h:On d x y) : -(x * x) + y * y - 1 - d * (x * x) * (y * y) = 0:=by
 unfold On at h; grobner
theorem Qou {L R a b c e:Fin n} (h:L - R = a * c + b * e) (hc:c = 0) (he:e = 0):L = R:=by
 subst hc he; grobner
theorem Qcu {L R a b c e f g:Fin n} (h:L - R = a * c + b * e + f * g) (hc:c = 0) (he:e = 0) (hg:g = 0):L = R:=by
 subst hc he hg; grobner
theorem Qrg (d x1 y1 x2 y2:Fin n) : -((x1 * y2 + x2 * y1) * (x1 * y2 + x2 * y1) * ((1 - d * x1 * x2 * y1 * y2) * (1 - d * x1 * x2 * y1 * y2))) + (y1 * y2 + x1 * x2) * (y1 * y2 + x1 * x2) * ((1 + d * x1 * x2 * y1 * y2) * (1 + d * x1 * x2 * y1 * y2)) -
   (((1 + d * x1 * x2 * y1 * y2) * (1 - d * x1 * x2 * y1 * y2)) * ((1 + d * x1 * x2 * y1 * y2) * (1 - d * x1 * x2 * y1 * y2)) + d * ((x1 * y2 + x2 * y1) * (x1 * y2 + x2 * y1)) * ((y1 * y2 + x1 * x2) * (y1 * y2 + x1 * x2))) =
   (d * d * d * x1 * x1 * x2 * x2 * x2 * x2 * y1 * y1 * y2 * y2 * y2 * y2 - d * d * x1 * x1 * x2 * x2 * x2 * x2 * y2 * y2 * y2 * y2 + d * d * x2 * x2 * x2 * x2 * y1 * y1 * y2 * y2 * y2 * y2 - d * d * x2 * x2 * x2 * x2 * y2 * y2 * y2 * y2 - d * x1 * x1 * x2 * x2 * x2 * x2 * y2 * y2 + d * x1 * x1 * x2 * x2 * y2 * y2 * y2 * y2 + d * x2 * x2 * x2 * x2 * y1 * y1 * y2 * y2 - 2 * d * x2 * x2 * x2 * x2 * y2 * y2 * y2 * y2 - d * x2 * x2 * y1 * y1 * y2 * y2 * y2 * y2 - 2 * d * x2 * x2 * y2 * y2 - 2 * x2 * x2 * x2 * x2 * y2 * y2 + x2 * x2 * x2 * x2 + 2 * x2 * x2 * y2 * y2 * y2 * y2 - 4 * x2 * x2 * y2 * y2 + y2 * y2 * y2 * y2) * (-(x1 * x1) + y1 * y1 - 1 - d * (x1 * x1) * (y1 * y1)) + (d * x1 * x1 * x1 * x1 * x2 * x2 * y2 * y2 + 2 * d * x1 * x1 * x2 * x2 * y2 * y2 + d * x2 * x2 * y1 * y1 * y1 * y1 * y2 * y2 - 2 * d * x2 * x2 * y1 * y1 * y2 * y2 + d * x2 * x2 * y2 * y2 + 2 * x1 * x1 * x2 * x2 * y2 * y2 - x1 * x1 * x2 * x2 + x1 * x1 * y2 * y2 - 2 * x2 * x2 * y1 * y1 * y2 * y2 + x2 * x2 * y1 * y1 + 2 * x2 * x2 * y2 * y2 - x2 * x2 - y1 * y1 * y2 * y2 + y2 * y2 + 1) * (-(x2 * x2) + y2 * y2 - 1 - d * (x2 * x2) * (y2 * y2)):=by grobner
theorem Qyd (d x1 y1 x2 y2 x3 y3:Fin n):((x1 * y2 + x2 * y1) * (1 - d * x1 * x2 * y1 * y2) * y3 + x3 * (y1 * y2 + x1 * x2) * (1 + d * x1 * x2 * y1 * y2)) * ((1 + d * x2 * x3 * y2 * y3) * (1 - d * x2 * x3 * y2 * y3) + d * (x2 * y3 + x3 * y2) * (y2 * y3 + x2 * x3) * x1 * y1) -
   (x1 * (y2 * y3 + x2 * x3) * (1 + d * x2 * x3 * y2 * y3) + (x2 * y3 + x3 * y2) * (1 - d * x2 * x3 * y2 * y3) * y1) * ((1 + d * x1 * x2 * y1 * y2) * (1 - d * x1 * x2 * y1 * y2) + d * (x1 * y2 + x2 * y1) * (y1 * y2 + x1 * x2) * x3 * y3) =
   (-d * d * x1 * x2 * x2 * x2 * x2 * x3 * x3 * y2 * y2 * y2 * y3 - d * d * x1 * x2 * x2 * x2 * x3 * y2 * y2 * y2 * y2 * y3 * y3 + d * d * x2 * x2 * x2 * x2 * x3 * y1 * y2 * y2 * y2 * y3 * y3 + d * d * x2 * x2 * x2 * x3 * x3 * y1 * y2 * y2 * y2 * y2 * y3 - d * x1 * x2 * x2 * x2 * x2 * x3 * x3 * y2 * y3 - d * x1 * x2 * x2 * x2 * x3 * x3 * x3 * y2 * y2 - d * x1 * x2 * x2 * x2 * x3 * y2 * y2 + d * x1 * x2 * x2 * y2 * y2 * y2 * y3 * y3 * y3 - d * x1 * x2 * x2 * y2 * y2 * y2 * y3 + d * x1 * x2 * x3 * y2 * y2 * y2 * y2 * y3 * y3 + d * x2 * x2 * x2 * x2 * x3 * y1 * y2 * y3 * y3 + d * x2 * x2 * x2 * y1 * y2 * y2 * y3 * y3 * y3 - d * x2 * x2 * x2 * y1 * y2 * y2 * y3 - d * x2 * x2 * x3 * x3 * x3 * y1 * y2 * y2 * y2 - d * x2 * x2 * x3 * y1 * y2 * y2 * y2 - d * x2 * x3 * x3 * y1 * y2 * y2 * y2 * y2 * y3) * (-(x1 * x1) + y1 * y1 - 1 - d * (x1 * x1) * (y1 * y1)) + (d * d * x1 * x1 * x2 * x2 * x3 * x3 * x3 * y1 * y2 * y3 * y3 - d * d * x1 * x1 * x2 * x3 * x3 * y1 * y2 * y2 * y3 * y3 * y3 - d * d * x1 * x2 * x2 * x3 * x3 * y1 * y1 * y2 * y3 * y3 * y3 + d * d * x1 * x2 * x3 * x3 * x3 * y1 * y1 * y2 * y2 * y3 * y3 + d * x1 * x1 * x1 * x2 * x2 * x3 * x3 * y2 * y3 + d * x1 * x1 * x1 * x2 * x3 * x3 * x3 * y3 * y3 + d * x1 * x1 * x1 * x2 * x3 * y2 * y2 * y3 * y3 + d * x1 * x1 * x1 * x3 * x3 * y2 * y3 * y3 * y3 - d * x1 * x1 * x2 * x2 * x3 * y1 * y2 * y3 * y3 - d * x1 * x1 * x2 * x3 * x3 * y1 * y2 * y2 * y3 + d * x1 * x1 * x2 * x3 * x3 * y1 * y3 * y3 * y3 + d * x1 * x1 * x3 * x3 * x3 * y1 * y2 * y3 * y3 - d * x1 * x2 * x2 * x3 * x3 * y1 * y1 * y2 * y3 + d * x1 * x2 * x2 * x3 * x3 * y2 * y3 - d * x1 * x2 * x3 * x3 * x3 * y1 * y1 * y3 * y3 + d * x1 * x2 * x3 * x3 * x3 * y3 * y3 - d * x1 * x2 * x3 * y1 * y1 * y2 * y2 * y3 * y3 + d * x1 * x2 * x3 * y2 * y2 * y3 * y3 - d * x1 * x3 * x3 * y1 * y1 * y2 * y3 * y3 * y3 + d * x1 * x3 * x3 * y2 * y3 * y3 * y3 + d * x2 * x2 * x3 * y1 * y1 * y1 * y2 * y3 * y3 - d * x2 * x2 * x3 * y1 * y2 * y3 * y3 + d * x2 * x3 * x3 * y1 * y1 * y1 * y2 * y2 * y3 - d * x2 * x3 * x3 * y1 * y1 * y1 * y3 * y3 * y3 - d * x2 * x3 * x3 * y1 * y2 * y2 * y3 + d * x2 * x3 * x3 * y1 * y3 * y3 * y3 - d * x3 * x3 * x3 * y1 * y1 * y1 * y2 * y3 * y3 + d * x3 * x3 * x3 * y1 * y2 * y3 * y3 + x1 * x1 * x1 * x2 * x3 * x3 * x3 - x1 * x1 * x1 * x2 * x3 * y3 * y3 + x1 * x1 * x1 * x2 * x3 + x1 * x1 * x1 * x3 * x3 * y2 * y3 - x1 * x1 * x1 * y2 * y3 * y3 * y3 + x1 * x1 * x1 * y2 * y3 + x1 * x1 * x2 * x3 * x3 * y1 * y3 - x1 * x1 * x2 * y1 * y3 * y3 * y3 + x1 * x1 * x2 * y1 * y3 + x1 * x1 * x3 * x3 * x3 * y1 * y2 - x1 * x1 * x3 * y1 * y2 * y3 * y3 + x1 * x1 * x3 * y1 * y2 - x1 * x2 * x3 * x3 * x3 * y1 * y1 + x1 * x2 * x3 * x3 * x3 + x1 * x2 * x3 * y1 * y1 * y3 * y3 - x1 * x2 * x3 * y1 * y1 - x1 * x2 * x3 * y3 * y3 + x1 * x2 * x3 - x1 * x3 * x3 * y1 * y1 * y2 * y3 + x1 * x3 * x3 * y2 * y3 + x1 * y1 * y1 * y2 * y3 * y3 * y3 - x1 * y1 * y1 * y2 * y3 - x1 * y2 * y3 * y3 * y3 + x1 * y2 * y3 - x2 * x3 * x3 * y1 * y1 * y1 * y3 + x2 * x3 * x3 * y1 * y3 + x2 * y1 * y1 * y1 * y3 * y3 * y3 - x2 * y1 * y1 * y1 * y3 - x2 * y1 * y3 * y3 * y3 + x2 * y1 * y3 - x3 * x3 * x3 * y1 * y1 * y1 * y2 + x3 * x3 * x3 * y1 * y2 + x3 * y1 * y1 * y1 * y2 * y3 * y3 - x3 * y1 * y1 * y1 * y2 - x3 * y1 * y2 * y3 * y3 + x3 * y1 * y2) * (-(x2 * x2) + y2 * y2 - 1 - d * (x2 * x2) * (y2 * y2)) + (-d * x1 * x1 * x2 * x2 * x3 * y1 * y2 + d * x1 * x1 * x2 * y1 * y2 * y2 * y3 + d * x1 * x2 * x2 * y1 * y1 * y2 * y3 - d * x1 * x2 * x3 * y1 * y1 * y2 * y2 - x1 * x1 * x1 * x2 * x2 * x2 * x3 - x1 * x1 * x1 * x2 * x2 * y2 * y3 + x1 * x1 * x1 * x2 * x3 * y2 * y2 - x1 * x1 * x1 * x2 * x3 + x1 * x1 * x1 * y2 * y2 * y2 * y3 - x1 * x1 * x1 * y2 * y3 - x1 * x1 * x2 * x2 * x2 * y1 * y3 - x1 * x1 * x2 * x2 * x3 * y1 * y2 + x1 * x1 * x2 * y1 * y2 * y2 * y3 - x1 * x1 * x2 * y1 * y3 + x1 * x1 * x3 * y1 * y2 * y2 * y2 - x1 * x1 * x3 * y1 * y2 + x1 * x2 * x2 * x2 * x3 * y1 * y1 - x1 * x2 * x2 * x2 * x3 + x1 * x2 * x2 * y1 * y1 * y2 * y3 - x1 * x2 * x2 * y2 * y3 - x1 * x2 * x3 * y1 * y1 * y2 * y2 + x1 * x2 * x3 * y1 * y1 + x1 * x2 * x3 * y2 * y2 - x1 * x2 * x3 - x1 * y1 * y1 * y2 * y2 * y2 * y3 + x1 * y1 * y1 * y2 * y3 + x1 * y2 * y2 * y2 * y3 - x1 * y2 * y3 + x2 * x2 * x2 * y1 * y1 * y1 * y3 - x2 * x2 * x2 * y1 * y3 + x2 * x2 * x3 * y1 * y1 * y1 * y2 - x2 * x2 * x3 * y1 * y2 - x2 * y1 * y1 * y1 * y2 * y2 * y3 + x2 * y1 * y1 * y1 * y3 + x2 * y1 * y2 * y2 * y3 - x2 * y1 * y3 - x3 * y1 * y1 * y1 * y2 * y2 * y2 + x3 * y1 * y1 * y1 * y2 + x3 * y1 * y2 * y2 * y2 - x3 * y1 * y2) * (-(x3 * x3) + y3 * y3 - 1 - d * (x3 * x3) * (y3 * y3)):=by grobner
theorem Qyc (d x1 y1 x2 y2 x3 y3:Fin n):((y1 * y2 + x1 * x2) * (1 + d * x1 * x2 * y1 * y2) * y3 + (x1 * y2 + x2 * y1) * (1 - d * x1 * x2 * y1 * y2) * x3) * ((1 + d * x2 * x3 * y2 * y3) * (1 - d * x2 * x3 * y2 * y3) - d * (x2 * y3 + x3 * y2) * (y2 * y3 + x2 * x3) * x1 * y1) -
   (y1 * (y2 * y3 + x2 * x3) * (1 + d * x2 * x3 * y2 * y3) + x1 * (x2 * y3 + x3 * y2) * (1 - d * x2 * x3 * y2 * y3)) * ((1 + d * x1 * x2 * y1 * y2) * (1 - d * x1 * x2 * y1 * y2) - d * (x1 * y2 + x2 * y1) * (y1 * y2 + x1 * x2) * x3 * y3) =
   (d * d * x1 * x2 * x2 * x2 * x2 * x3 * y2 * y2 * y2 * y3 * y3 + d * d * x1 * x2 * x2 * x2 * x3 * x3 * y2 * y2 * y2 * y2 * y3 - d * d * x2 * x2 * x2 * x2 * x3 * x3 * y1 * y2 * y2 * y2 * y3 - d * d * x2 * x2 * x2 * x3 * y1 * y2 * y2 * y2 * y2 * y3 * y3 + d * x1 * x2 * x2 * x2 * x2 * x3 * y2 * y3 * y3 + d * x1 * x2 * x2 * x2 * y2 * y2 * y3 * y3 * y3 - d * x1 * x2 * x2 * x2 * y2 * y2 * y3 - d * x1 * x2 * x2 * x3 * x3 * x3 * y2 * y2 * y2 - d * x1 * x2 * x2 * x3 * y2 * y2 * y2 - d * x1 * x2 * x3 * x3 * y2 * y2 * y2 * y2 * y3 - d * x2 * x2 * x2 * x2 * x3 * x3 * y1 * y2 * y3 - d * x2 * x2 * x2 * x3 * x3 * x3 * y1 * y2 * y2 - d * x2 * x2 * x2 * x3 * y1 * y2 * y2 + d * x2 * x2 * y1 * y2 * y2 * y2 * y3 * y3 * y3 - d * x2 * x2 * y1 * y2 * y2 * y2 * y3 + d * x2 * x3 * y1 * y2 * y2 * y2 * y2 * y3 * y3) * (-(x1 * x1) + y1 * y1 - 1 - d * (x1 * x1) * (y1 * y1)) + (d * d * x1 * x1 * x2 * x2 * x3 * x3 * y1 * y2 * y3 * y3 * y3 - d * d * x1 * x1 * x2 * x3 * x3 * x3 * y1 * y2 * y2 * y3 * y3 - d * d * x1 * x2 * x2 * x3 * x3 * x3 * y1 * y1 * y2 * y3 * y3 + d * d * x1 * x2 * x3 * x3 * y1 * y1 * y2 * y2 * y3 * y3 * y3 - d * x1 * x1 * x1 * x2 * x2 * x3 * y2 * y3 * y3 - d * x1 * x1 * x1 * x2 * x3 * x3 * y2 * y2 * y3 + d * x1 * x1 * x1 * x2 * x3 * x3 * y3 * y3 * y3 + d * x1 * x1 * x1 * x3 * x3 * x3 * y2 * y3 * y3 + d * x1 * x1 * x2 * x2 * x3 * x3 * y1 * y2 * y3 + d * x1 * x1 * x2 * x3 * x3 * x3 * y1 * y3 * y3 + d * x1 * x1 * x2 * x3 * y1 * y2 * y2 * y3 * y3 + d * x1 * x1 * x3 * x3 * y1 * y2 * y3 * y3 * y3 + d * x1 * x2 * x2 * x3 * y1 * y1 * y2 * y3 * y3 - d * x1 * x2 * x2 * x3 * y2 * y3 * y3 + d * x1 * x2 * x3 * x3 * y1 * y1 * y2 * y2 * y3 - d * x1 * x2 * x3 * x3 * y1 * y1 * y3 * y3 * y3 - d * x1 * x2 * x3 * x3 * y2 * y2 * y3 + d * x1 * x2 * x3 * x3 * y3 * y3 * y3 - d * x1 * x3 * x3 * x3 * y1 * y1 * y2 * y3 * y3 + d * x1 * x3 * x3 * x3 * y2 * y3 * y3 - d * x2 * x2 * x3 * x3 * y1 * y1 * y1 * y2 * y3 + d * x2 * x2 * x3 * x3 * y1 * y2 * y3 - d * x2 * x3 * x3 * x3 * y1 * y1 * y1 * y3 * y3 + d * x2 * x3 * x3 * x3 * y1 * y3 * y3 - d * x2 * x3 * y1 * y1 * y1 * y2 * y2 * y3 * y3 + d * x2 * x3 * y1 * y2 * y2 * y3 * y3 - d * x3 * x3 * y1 * y1 * y1 * y2 * y3 * y3 * y3 + d * x3 * x3 * y1 * y2 * y3 * y3 * y3 + x1 * x1 * x1 * x2 * x3 * x3 * y3 - x1 * x1 * x1 * x2 * y3 * y3 * y3 + x1 * x1 * x1 * x2 * y3 + x1 * x1 * x1 * x3 * x3 * x3 * y2 - x1 * x1 * x1 * x3 * y2 * y3 * y3 + x1 * x1 * x1 * x3 * y2 + x1 * x1 * x2 * x3 * x3 * x3 * y1 - x1 * x1 * x2 * x3 * y1 * y3 * y3 + x1 * x1 * x2 * x3 * y1 + x1 * x1 * x3 * x3 * y1 * y2 * y3 - x1 * x1 * y1 * y2 * y3 * y3 * y3 + x1 * x1 * y1 * y2 * y3 - x1 * x2 * x3 * x3 * y1 * y1 * y3 + x1 * x2 * x3 * x3 * y3 + x1 * x2 * y1 * y1 * y3 * y3 * y3 - x1 * x2 * y1 * y1 * y3 - x1 * x2 * y3 * y3 * y3 + x1 * x2 * y3 - x1 * x3 * x3 * x3 * y1 * y1 * y2 + x1 * x3 * x3 * x3 * y2 + x1 * x3 * y1 * y1 * y2 * y3 * y3 - x1 * x3 * y1 * y1 * y2 - x1 * x3 * y2 * y3 * y3 + x1 * x3 * y2 - x2 * x3 * x3 * x3 * y1 * y1 * y1 + x2 * x3 * x3 * x3 * y1 + x2 * x3 * y1 * y1 * y1 * y3 * y3 - x2 * x3 * y1 * y1 * y1 - x2 * x3 * y1 * y3 * y3 + x2 * x3 * y1 - x3 * x3 * y1 * y1 * y1 * y2 * y3 + x3 * x3 * y1 * y2 * y3 + y1 * y1 * y1 * y2 * y3 * y3 * y3 - y1 * y1 * y1 * y2 * y3 - y1 * y2 * y3 * y3 * y3 + y1 * y2 * y3) * (-(x2 * x2) + y2 * y2 - 1 - d * (x2 * x2) * (y2 * y2)) + (-d * x1 * x1 * x2 * x2 * y1 * y2 * y3 + d * x1 * x1 * x2 * x3 * y1 * y2 * y2 + d * x1 * x2 * x2 * x3 * y1 * y1 * y2 - d * x1 * x2 * y1 * y1 * y2 * y2 * y3 - x1 * x1 * x1 * x2 * x2 * x2 * y3 - x1 * x1 * x1 * x2 * x2 * x3 * y2 + x1 * x1 * x1 * x2 * y2 * y2 * y3 - x1 * x1 * x1 * x2 * y3 + x1 * x1 * x1 * x3 * y2 * y2 * y2 - x1 * x1 * x1 * x3 * y2 - x1 * x1 * x2 * x2 * x2 * x3 * y1 - x1 * x1 * x2 * x2 * y1 * y2 * y3 + x1 * x1 * x2 * x3 * y1 * y2 * y2 - x1 * x1 * x2 * x3 * y1 + x1 * x1 * y1 * y2 * y2 * y2 * y3 - x1 * x1 * y1 * y2 * y3 + x1 * x2 * x2 * x2 * y1 * y1 * y3 - x1 * x2 * x2 * x2 * y3 + x1 * x2 * x2 * x3 * y1 * y1 * y2 - x1 * x2 * x2 * x3 * y2 - x1 * x2 * y1 * y1 * y2 * y2 * y3 + x1 * x2 * y1 * y1 * y3 + x1 * x2 * y2 * y2 * y3 - x1 * x2 * y3 - x1 * x3 * y1 * y1 * y2 * y2 * y2 + x1 * x3 * y1 * y1 * y2 + x1 * x3 * y2 * y2 * y2 - x1 * x3 * y2 + x2 * x2 * x2 * x3 * y1 * y1 * y1 - x2 * x2 * x2 * x3 * y1 + x2 * x2 * y1 * y1 * y1 * y2 * y3 - x2 * x2 * y1 * y2 * y3 - x2 * x3 * y1 * y1 * y1 * y2 * y2 + x2 * x3 * y1 * y1 * y1 + x2 * x3 * y1 * y2 * y2 - x2 * x3 * y1 - y1 * y1 * y1 * y2 * y2 * y2 * y3 + y1 * y1 * y1 * y2 * y3 + y1 * y2 * y2 * y2 * y3 - y1 * y2 * y3) * (-(x3 * x3) + y3 * y3 - 1 - d * (x3 * x3) * (y3 * y3)):=by grobner
include F
theorem Fld.den {x1 y1 x2 y2:Fin n} (h1:On d x1 y1) (h2:On d x2 y2) (e:Fin n) (he:e * e = 1):d * x1 * x2 * y1 * y2 ≠ e:=fun hD => by
 unfold On at h1 h2
 have h10:=F.one
 have hr:=F.root
 have hx1:x1 ≠ 0:=fun h => by subst h; grobner
 have hy1:y1 ≠ 0:=fun h => by subst h; grobner
 have hx2:x2 ≠ 0:=fun h => by subst h; grobner
 have key:d * (x1 * x1) * (y1 * y1) * (y2 * y2 - x2 * x2) = y1 * y1 - x1 * x1:=by grobner
 have h3:(y1 + e * i * x1) * (y1 + e * i * x1) = d * ((x1 * y1 * (y2 + i * x2)) * (x1 * y1 * (y2 + i * x2))):=by grobner
 have h4:(y1 - e * i * x1) * (y1 - e * i * x1) = d * ((x1 * y1 * (y2 - i * x2)) * (x1 * y1 * (y2 - i * x2))):=by grobner
 by_cases ha:y2 + i * x2 = 0
 ·by_cases hb:y2 - i * x2 = 0
  ·have hi:i ≠ 0:=fun h => by subst h; grobner
   have:(2:Fin n) * (i * x2) = 0:=by grobner
   exact F.mul_ne F.two (F.mul_ne hi hx2) this
  ·exact F.noratio (F.mul_ne (F.mul_ne hx1 hy1) hb) h4
 ·exact F.noratio (F.mul_ne (F.mul_ne hx1 hy1) ha) h3
theorem Fld.denP {x1 y1 x2 y2:Fin n} (h1:On d x1 y1) (h2:On d x2 y2):1 + d * x1 * x2 * y1 * y2 ≠ 0:=fun h =>
 F.den h1 h2 (-1) (by grobner) (by grobner)
theorem Fld.denM {x1 y1 x2 y2:Fin n} (h1:On d x1 y1) (h2:On d x2 y2):1 - d * x1 * x2 * y1 * y2 ≠ 0:=fun h =>
 F.den h1 h2 1 (by grobner) (by grobner)
theorem M8 {x1 y1 x2 y2:Fin n} (h1:On d x1 y1) (h2:On d x2 y2) {a b:Fin n} (ha:a * (1 + d * x1 * x2 * y1 * y2) = x1 * y2 + x2 * y1) (hb:b * (1 - d * x1 * x2 * y1 * y2) = y1 * y2 + x1 * x2):On d a b:=by
 have hp:=F.denP h1 h2
 have hm:=F.denM h1 h2
 have hC : -((x1 * y2 + x2 * y1) * (x1 * y2 + x2 * y1) * ((1 - d * x1 * x2 * y1 * y2) * (1 - d * x1 * x2 * y1 * y2))) + (y1 * y2 + x1 * x2) * (y1 * y2 + x1 * x2) * ((1 + d * x1 * x2 * y1 * y2) * (1 + d * x1 * x2 * y1 * y2)) =
   ((1 + d * x1 * x2 * y1 * y2) * (1 - d * x1 * x2 * y1 * y2)) * ((1 + d * x1 * x2 * y1 * y2) * (1 - d * x1 * x2 * y1 * y2)) + d * ((x1 * y2 + x2 * y1) * (x1 * y2 + x2 * y1)) * ((y1 * y2 + x1 * x2) * (y1 * y2 + x1 * x2)):=by
  exact Qou (Qrg d x1 y1 x2 y2) h1.sub h2.sub
 unfold On
 have hp2:=F.mul_ne (F.mul_ne hp hm) (F.mul_ne hp hm)
 refine F.cancel hp2 ?_
 rw [← ha,← hb] at hC
 generalize 1 + d * x1 * x2 * y1 * y2 = p at *
 generalize 1 - d * x1 * x2 * y1 * y2 = m at *
 clear ha hb hp hm hp2 h1 h2
 grobner
theorem Qk9 {x1 y1 x2 y2 x3 y3 a b a' b' u v u' v':Fin n} (h1:On d x1 y1) (h2:On d x2 y2) (h3:On d x3 y3)
  (ha:a * (1 + d * x1 * x2 * y1 * y2) = x1 * y2 + x2 * y1) (hb:b * (1 - d * x1 * x2 * y1 * y2) = y1 * y2 + x1 * x2)
  (ha':a' * (1 + d * x2 * x3 * y2 * y3) = x2 * y3 + x3 * y2) (hb':b' * (1 - d * x2 * x3 * y2 * y3) = y2 * y3 + x2 * x3)
  (hu:u * (1 + d * a * x3 * b * y3) = a * y3 + x3 * b) (hv:v * (1 - d * a * x3 * b * y3) = b * y3 + a * x3)
  (hu':u' * (1 + d * x1 * a' * y1 * b') = x1 * b' + a' * y1) (hv':v' * (1 - d * x1 * a' * y1 * b') = y1 * b' + x1 * a'):u = u' ∧ v = v':=by
 have o12:=M8 F h1 h2 ha hb
 have o23:=M8 F h2 h3 ha' hb'
 have hp:=F.denP h1 h2
 have hm:=F.denM h1 h2
 have hp':=F.denP h2 h3
 have hm':=F.denM h2 h3
 have kp:=F.denP o12 h3
 have km:=F.denM o12 h3
 have kp':=F.denP h1 o23
 have km':=F.denM h1 o23
 have e1:=h1.sub
 have e2:=h2.sub
 have e3:=h3.sub
 clear h1 h2 h3 o12 o23
 have hX:((x1 * y2 + x2 * y1) * (1 - d * x1 * x2 * y1 * y2) * y3 + x3 * (y1 * y2 + x1 * x2) * (1 + d * x1 * x2 * y1 * y2)) * ((1 + d * x2 * x3 * y2 * y3) * (1 - d * x2 * x3 * y2 * y3) + d * (x2 * y3 + x3 * y2) * (y2 * y3 + x2 * x3) * x1 * y1) =
   (x1 * (y2 * y3 + x2 * x3) * (1 + d * x2 * x3 * y2 * y3) + (x2 * y3 + x3 * y2) * (1 - d * x2 * x3 * y2 * y3) * y1) * ((1 + d * x1 * x2 * y1 * y2) * (1 - d * x1 * x2 * y1 * y2) + d * (x1 * y2 + x2 * y1) * (y1 * y2 + x1 * x2) * x3 * y3):=by
  exact Qcu (Qyd d x1 y1 x2 y2 x3 y3) e1 e2 e3
 have hY:((y1 * y2 + x1 * x2) * (1 + d * x1 * x2 * y1 * y2) * y3 + (x1 * y2 + x2 * y1) * (1 - d * x1 * x2 * y1 * y2) * x3) * ((1 + d * x2 * x3 * y2 * y3) * (1 - d * x2 * x3 * y2 * y3) - d * (x2 * y3 + x3 * y2) * (y2 * y3 + x2 * x3) * x1 * y1) =
   (y1 * (y2 * y3 + x2 * x3) * (1 + d * x2 * x3 * y2 * y3) + x1 * (x2 * y3 + x3 * y2) * (1 - d * x2 * x3 * y2 * y3)) * ((1 + d * x1 * x2 * y1 * y2) * (1 - d * x1 * x2 * y1 * y2) - d * (x1 * y2 + x2 * y1) * (y1 * y2 + x1 * x2) * x3 * y3):=by
  exact Qcu (Qyc d x1 y1 x2 y2 x3 y3) e1 e2 e3
 clear e1 e2 e3
 rw [← ha,← hb,← ha',← hb'] at hX hY
 have hp2:=F.mul_ne hp hm
 have hp2':=F.mul_ne hp' hm'
 generalize 1 + d * x1 * x2 * y1 * y2 = p at *
 generalize 1 - d * x1 * x2 * y1 * y2 = m at *
 generalize 1 + d * x2 * x3 * y2 * y3 = p' at *
 generalize 1 - d * x2 * x3 * y2 * y3 = m' at *
 clear ha hb ha' hb' hp hm hp' hm' x2 y2
 have f1:a * p * m * y3 + x3 * (b * m) * p = (p * m) * (a * y3 + x3 * b):=by grobner
 have f2:p' * m' + d * (a' * p') * (b' * m') * x1 * y1 = (p' * m') * (1 + d * x1 * a' * y1 * b'):=by grobner
 have f3:x1 * (b' * m') * p' + a' * p' * m' * y1 = (p' * m') * (x1 * b' + a' * y1):=by grobner
 have f4:p * m + d * (a * p) * (b * m) * x3 * y3 = (p * m) * (1 + d * a * x3 * b * y3):=by grobner
 have f5:b * m * p * y3 + a * p * m * x3 = (p * m) * (b * y3 + a * x3):=by grobner
 have f6:p' * m' - d * (a' * p') * (b' * m') * x1 * y1 = (p' * m') * (1 - d * x1 * a' * y1 * b'):=by grobner
 have f7:y1 * (b' * m') * p' + x1 * (a' * p') * m' = (p' * m') * (y1 * b' + x1 * a'):=by grobner
 have f8:p * m - d * (a * p) * (b * m) * x3 * y3 = (p * m) * (1 - d * a * x3 * b * y3):=by grobner
 rw [f1,f2,f3,f4,← hu,← hu'] at hX
 rw [f5,f6,f7,f8,← hv,← hv'] at hY
 clear f1 f2 f3 f4 f5 f6 f7 f8 hu hu' hv hv'
 generalize 1 + d * x1 * a' * y1 * b' = k' at *
 generalize 1 + d * a * x3 * b * y3 = k at *
 generalize 1 - d * x1 * a' * y1 * b' = l' at *
 generalize 1 - d * a * x3 * b * y3 = l at *
 generalize p * m = s at *
 generalize p' * m' = s' at *
 constructor
 ·refine F.cancel (a:=s * s' * k * k') (F.mul_ne (F.mul_ne (F.mul_ne hp2 hp2') kp) kp') ?_
  grobner
 ·refine F.cancel (a:=s * s' * l * l') (F.mul_ne (F.mul_ne (F.mul_ne hp2 hp2') km) km') ?_
  grobner
omit F
end
structure Pt (n:Nat) [NeZero n] (d:Fin n) where
 x:Fin n
 y:Fin n
 on:On d x y
theorem Pt.ext {n:Nat} [NeZero n] {d:Fin n} {p q:Pt n d} (hx:p.x = q.x) (hy:p.y = q.y):p = q:=by
 cases p; cases q; cases hx; cases hy; rfl
section
variable {n:Nat} [NeZero n] {iv:Fin n → Fin n} {d i:Fin n} (F:Fld n iv d i)
def Pt.zero:Pt n d:=⟨0,1,by unfold On; grobner⟩
def Pt.neg (p:Pt n d):Pt n d:=⟨-p.x,p.y,by have:=p.on; unfold On at *; grobner⟩
def Pt.add (p q:Pt n d):Pt n d :=
 ⟨(p.x * q.y + q.x * p.y) * iv (1 + d * p.x * q.x * p.y * q.y),(p.y * q.y + p.x * q.x) * iv (1 - d * p.x * q.x * p.y * q.y),
  M8 F p.on q.on (by have:=F.inv _ (F.denP p.on q.on); grobner) (by have:=F.inv _ (F.denM p.on q.on); grobner)⟩
theorem Qaj (p q:Pt n d):(Pt.add F p q).x * (1 + d * p.x * q.x * p.y * q.y) = p.x * q.y + q.x * p.y:=by
 have:=F.inv _ (F.denP p.on q.on)
 simp only [Pt.add]
 generalize 1 + d * p.x * q.x * p.y * q.y = k at *
 grobner
theorem Qai (p q:Pt n d):(Pt.add F p q).y * (1 - d * p.x * q.x * p.y * q.y) = p.y * q.y + p.x * q.x:=by
 have:=F.inv _ (F.denM p.on q.on)
 simp only [Pt.add]
 generalize 1 - d * p.x * q.x * p.y * q.y = k at *
 grobner
theorem add_eq {p q r:Pt n d} (hx:r.x * (1 + d * p.x * q.x * p.y * q.y) = p.x * q.y + q.x * p.y) (hy:r.y * (1 - d * p.x * q.x * p.y * q.y) = p.y * q.y + p.x * q.x):Pt.add F p q = r:=by
 apply Pt.ext
 ·apply F.cancel (F.denP p.on q.on)
  rw [← Qaj F] at hx
  grobner
 ·apply F.cancel (F.denM p.on q.on)
  rw [← Qai F] at hy
  grobner
theorem add_comm (p q:Pt n d):Pt.add F p q = Pt.add F q p:=by
 apply add_eq
 ·have:=Qaj F q p; grobner
 ·have:=Qai F q p; grobner
theorem add_zero (p:Pt n d):Pt.add F p Pt.zero = p:=by
 apply add_eq <;> simp only [Pt.zero] <;> grobner
theorem zero_add (p:Pt n d):Pt.add F Pt.zero p = p:=by rw [add_comm,add_zero]
theorem add_neg (p:Pt n d):Pt.add F p p.neg = Pt.zero:=by
 have:=p.on
 unfold On at this
 apply add_eq <;> simp only [Pt.zero,Pt.neg] <;> grobner
theorem add_assoc (p q r:Pt n d):Pt.add F (Pt.add F p q) r = Pt.add F p (Pt.add F q r):=by
 obtain ⟨h1,h2⟩:=Qk9 F p.on q.on r.on (Qaj F p q) (Qai F p q) (Qaj F q r) (Qai F q r) (Qaj F (Pt.add F p q) r) (Qai F (Pt.add F p q) r) (Qaj F p (Pt.add F q r)) (Qai F p (Pt.add F q r))
 exact Pt.ext h1 h2
theorem add_left_cancel {p q r:Pt n d} (h:Pt.add F p q = Pt.add F p r):q = r:=by
 have:Pt.add F p.neg (Pt.add F p q) = Pt.add F p.neg (Pt.add F p r):=by rw [h]
 rwa [← add_assoc,← add_assoc,add_comm F p.neg p,add_neg,zero_add,zero_add] at this
theorem neg_zero:(Pt.zero:Pt n d).neg = Pt.zero:=by
 apply Pt.ext <;> simp only [Pt.neg,Pt.zero]
 grobner
theorem Qg0 (a b c e:Pt n d):Pt.add F (Pt.add F a b) (Pt.add F c e) = Pt.add F (Pt.add F a c) (Pt.add F b e):=by
 rw [add_assoc,add_assoc,← add_assoc F b,add_comm F b c,add_assoc F c]
theorem neg_add (p q:Pt n d):(Pt.add F p q).neg = Pt.add F p.neg q.neg:=by
 apply add_left_cancel F (p:=Pt.add F p q)
 rw [add_neg,Qg0,add_neg,add_neg,add_zero]
def Pt.mul (k:Nat) (p:Pt n d):Pt n d:=match k with
 | 0 => Pt.zero
 | k + 1 => Pt.add F (Pt.mul k p) p
theorem mul_add (a b:Nat) (p:Pt n d):Pt.mul F (a + b) p = Pt.add F (Pt.mul F a p) (Pt.mul F b p):=by
 induction b with
 | zero => rw [Z1,Pt.mul,add_zero]
 | succ b ih => rw [← Kk,Pt.mul,ih,Pt.mul,add_assoc]
theorem mul_one (p:Pt n d):Pt.mul F 1 p = p:=by rw [Pt.mul,Pt.mul,zero_add]
theorem mul_two (p:Pt n d):Pt.mul F 2 p = Pt.add F p p:=by rw [Pt.mul,mul_one]
theorem mul_zero (k:Nat):Pt.mul F k (Pt.zero:Pt n d) = Pt.zero:=by
 induction k with
 | zero => rfl
 | succ k ih => rw [Pt.mul,ih,zero_add]
theorem Qlz (a b:Nat) (p:Pt n d):Pt.mul F (a * b) p = Pt.mul F a (Pt.mul F b p):=by
 induction a with
 | zero => rw [J7,Pt.mul,Pt.mul]
 | succ a ih => rw [Nat.succ_mul,mul_add,ih,Pt.mul]
theorem mul_neg (k:Nat) (p:Pt n d):Pt.mul F k p.neg = (Pt.mul F k p).neg:=by
 induction k with
 | zero => rw [Pt.mul,Pt.mul,neg_zero]
 | succ k ih => rw [Pt.mul,ih,Pt.mul,neg_add]
theorem mul_mod {l:Nat} {p:Pt n d} (hl:Pt.mul F l p = Pt.zero) (k:Nat):Pt.mul F (k % l) p = Pt.mul F k p:=by
 have h:Pt.mul F k p = Pt.mul F (l * (k / l) + k % l) p:=by rw [Vn]
 rw [h,mul_add,K9,Qlz,hl,mul_zero,zero_add]
end
end Go.Cv
set_option linter.unusedSimpArgs false
set_option linter.unusedVariables false
namespace Go.NT
theorem Qpl (m a:Nat):∀ (f e:Nat),pwf m a f e = pw m a f e
 | 0,_ => rfl
 | f + 1,e => by simp only [pwf,pw,Qpl m a f]
theorem Qf7 {m a f e:Nat} (h:e < 2 ^ f):pwf m a f e = a ^ e % m:=by rw [Qpl,Qvw m a f e h]
def Qi5 (n q k a f:Nat):Bool:=n == q * k + 1 && decide (q * k < 2 ^ f) && pwf n a f (q * k) == 1 && Qcl (pwf n a f k + n - 1) n == 1
theorem To {n q k a f:Nat} (hq:Pr q) (h:Qi5 n q k a f = true):n = q * k + 1 ∧ a ^ (q * k) % n = 1 ∧ Qcl (a ^ k % n + n - 1) n = 1:=by
 simp only [Qi5,Vh,beq_iff_eq,decide_eq_true_eq] at h
 obtain ⟨⟨⟨h1,h2⟩,h3⟩,h4⟩:=h
 have h5:k < 2 ^ f:=by
  have:k ≤ q * k:=Nat.le_mul_of_pos_left k (by have:=hq.1; omega)
  omega
 rw [Qf7 h2] at h3
 rw [Qf7 h5] at h4
 exact ⟨h1,h3,h4⟩
theorem Ge {n q k a f:Nat} (hq:Pr q) (h:(Qi5 n q k a f && decide (2 ≤ n) && decide (n < q * q)) = true):Pr n:=by
 simp only [Vh,decide_eq_true_eq] at h
 obtain ⟨h1,h2,h3⟩:=To hq h.1.1
 exact Qpr h.1.2 hq h1 h.2 h2 h3
theorem Dt {n q k a q2 k2 a2 f:Nat} (hq:Pr q) (hq2:Pr q2) (h:(Qi5 n q k a f && Qi5 n q2 k2 a2 f && decide (2 ≤ n) && decide (q ≠ q2) && decide (n < (q * q2) * (q * q2))) = true):Pr n:=by
 simp only [Vh,decide_eq_true_eq] at h
 obtain ⟨h1,h2,h3⟩:=To hq h.1.1.1.1
 obtain ⟨h1',h2',h3'⟩:=To hq2 h.1.1.1.2
 exact Qpq h.1.1.2 hq h1 hq2 h1' h.1.2 h.2 h2 h3 h2' h3'
theorem pr1:Pr 991:=Ut (f:=30) (by decide) (by decide) (by decide +kernel)
theorem pr2:Pr 103:=Ut (f:=9) (by decide) (by decide) (by decide +kernel)
theorem pr3:Pr 8574133:=Dt (q:=991) (k:=8652) (a:=2) (q2:=103) (k2:=83244) (a2:=2) (f:=25) pr1 pr2 (by decide +kernel)
theorem pr4:Pr 127:=Ut (f:=10) (by decide) (by decide) (by decide +kernel)
theorem pr5:Pr 1919519569386763:=Dt (q:=8574133) (k:=223873314) (a:=2) (q2:=127) (k2:=15114327318006) (a2:=2) (f:=52) pr3 pr4 (by decide +kernel)
theorem pr6:Pr 569003:=Ut (f:=753) (by decide) (by decide) (by decide +kernel)
theorem pr7:Pr 2773320623:=Ge (q:=569003) (k:=4874) (a:=2) (f:=33) pr6 (by decide +kernel)
theorem pr8:Pr 72106336199:=Ge (q:=2773320623) (k:=26) (a:=2) (f:=38) pr7 (by decide +kernel)
theorem pr9:Pr 75445702479781427272750846543864801:=Dt (q:=1919519569386763) (k:=39304471641247389600) (a:=2) (q2:=72106336199) (k2:=1046311689884858398375200) (a2:=2) (f:=117) pr5 pr8 (by decide +kernel)
theorem pr10:Pr 430751:=Ut (f:=655) (by decide) (by decide) (by decide +kernel)
theorem pr11:Pr 4153:=Ut (f:=63) (by decide) (by decide) (by decide +kernel)
theorem pr12:Pr 31757755568855353:=Dt (q:=430751) (k:=73726481352) (a:=2) (q2:=4153) (k2:=7646943310584) (a2:=2) (f:=56) pr10 pr11 (by decide +kernel)
theorem pr13:Pr 74058212732561358302231226437062788676166966415465897661863160754340907:=Dt (q:=75445702479781427272750846543864801) (k:=981609426360740691344999861639072106) (a:=2) (q2:=31757755568855353) (k2:=2331972502653487852620185443007392165117953542933313402) (a2:=2) (f:=237) pr9 pr12 (by decide +kernel)
theorem pr14:Pr 57896044618658097711785492504343953926634992332820282019728792003956564819949:=Ge (q:=74058212732561358302231226437062788676166966415465897661863160754340907) (k:=781764) (a:=2) (f:=256) pr13 (by decide +kernel)
end Go.NT
namespace Go.Fp
open Go.NT Go.Cv
def P:Nat:=57896044618658097711785492504343953926634992332820282019728792003956564819949
theorem Rd:P = 57896044618658097711785492504343953926634992332820282019728792003956564819949:=rfl
instance:NeZero P:=⟨by decide⟩
theorem Qvk:Pr P:=pr14
abbrev Fe:=Fin P
def fp (n:Nat):Fe:=Fin.ofNat P n
theorem Dd (n:Nat):(fp n).val = n % P:=rfl
theorem Qdm {a b:Nat}:fp a = fp b ↔ a % P = b % P:=by
 constructor
 ·intro h; exact congrArg Fin.val h
 ·intro h; exact Fin.ext h
theorem Ha (a:Nat):fp (a % P) = fp a:=Qdm.2 (Rx _ _)
theorem Bm (a b:Nat):fp (a + b) = fp a + fp b:=Fin.ext (by rw [Dd,Fin.val_add,Dd,Dd,← Qyg])
theorem Uh (a b:Nat):fp (a * b) = fp a * fp b:=Fin.ext (by rw [Dd,Fin.val_mul,Dd,Dd,← Df])
theorem Qt4:fp 0 = 0:=rfl
theorem Qgt:fp 1 = 1:=rfl
theorem Qq3:fp 2 = 2:=rfl
theorem fp_P:fp P = 0:=Fin.ext (by rw [Dd,Nat.mod_self]; rfl)
theorem Ql2 (k:Nat):fp (k * P) = 0:=by rw [Uh,fp_P]; grobner
theorem Qx2 {a b:Nat} (h:b ≤ a):fp (a - b) = fp a - fp b:=by
 have h1:=Bm (a - b) b
 rw [Nat.sub_add_cancel h] at h1
 grobner
def pow (a:Fe) (k:Nat):Fe:=match k with
 | 0 => 1
 | k + 1 => pow a k * a
theorem Qf8 (a:Fe):∀ k,(pow a k).val = a.val ^ k % P
 | 0 => rfl
 | k + 1 => by rw [pow,Fin.val_mul,Qf8 a k,K8,Qlc]
theorem pow_add (a:Fe) (j:Nat):∀ k,pow a (j + k) = pow a j * pow a k
 | 0 => by rw [Z1]; simp only [pow]; grobner
 | k + 1 => by rw [← Kk,pow,pow_add a j k,pow]; grobner
theorem pow_mul (a:Fe) (j:Nat):∀ k,pow a (j * k) = pow (pow a j) k
 | 0 => by rw [Qg3]; rfl
 | k + 1 => by rw [Nat.mul_succ,pow_add,pow_mul a j k,pow]
theorem pow_one (a:Fe):pow a 1 = a:=by simp only [pow]; grobner
theorem pow_two (a:Fe):pow a 2 = a * a:=by simp only [pow]; grobner
theorem one_pow:∀ k,pow 1 k = 1
 | 0 => rfl
 | k + 1 => by rw [pow,one_pow k]; grobner
theorem zero_pow {k:Nat} (hk:0 < k):pow 0 k = 0:=by
 obtain ⟨j,rfl⟩:∃ j,k = j + 1:=⟨k - 1,by omega⟩
 rw [pow]; grobner
theorem Qw7 (a k:Nat):pow (fp a) k = fp (a ^ k):=Fin.ext (by rw [Qf8,Dd,Dd,← Qye])
theorem ndvd {a:Fe} (h:a ≠ 0):¬ P ∣ a.val:=fun hd => by
 have h1:=Qar hd
 rw [Z6 a.isLt] at h1
 exact h (Fin.ext h1)
theorem Qbe {a:Fe} (h:a ≠ 0):pow a (P - 1) = 1:=Fin.ext (by rw [Qf8,Go.NT.Qbe Qvk (ndvd h)]; rfl)
def iv (a:Fe):Fe:=pow a (P - 2)
theorem Qkt {a:Fe} (h:a ≠ 0):a * iv a = 1:=by
 have h1:=Qbe h
 rw [show P - 1 = (P - 2) + 1 from rfl,pow] at h1
 unfold iv
 rw [← h1]; grobner
theorem Qtt:iv 0 = 0:=zero_pow (by decide)
def dN:Nat:=37095705934669439343138083508754565189542113879843219016388785533085940283555
def iN:Nat:=19681161376707505956807079304988542015446066515923890162744021073123829784752
def d:Fe:=fp dN
def i:Fe:=fp iN
theorem Qhy {a k r f:Nat} (hk:k < 2 ^ f) (h:pwf P a f k = r):pow (fp a) k = fp r:=by
 rw [Qw7,← h,Qf7 hk,Ha]
theorem Qjy:i * i = -1:=by
 have h:i * i + 1 = 0:=by
  unfold i
  rw [← Uh,← Qgt,← Bm]
  exact Fin.ext (by rw [Dd]; decide +kernel)
 grobner
theorem My:(1:Fe) ≠ 0:=fun h => by
 have:=congrArg Fin.val h
 revert this
 decide +kernel
theorem Qwi:(2:Fe) ≠ 0:=fun h => by
 have:=congrArg Fin.val h
 revert this
 decide +kernel
theorem Qhz (r:Fe):pow (r * r) ((P - 1) / 2) = 1 ∨ r = 0:=by
 by_cases h:r = 0
 ·exact .inr h
 ·left
  rw [← pow_two,← pow_mul,show 2 * ((P - 1) / 2) = P - 1 from by decide +kernel,Qbe h]
theorem Qxu:pow d ((P - 1) / 2) = fp (P - 1):=Qhy (f:=256) (by decide +kernel) (by decide +kernel)
theorem nosq (r:Fe):r * r ≠ d:=fun h => by
 have h1:=Qxu
 rcases Qhz r with h2 | h2
 ·rw [h,h1] at h2
  have:=congrArg Fin.val h2
  revert this
  decide +kernel
 ·subst h2
  have h3:d = 0:=by rw [← h]; grobner
  have:=congrArg Fin.val h3
  revert this
  decide +kernel
theorem fld:Fld P iv d i:=⟨fun _ h => Qkt h,Qtt,My,Qwi,Qjy,nosq⟩
end Go.Fp
set_option linter.unusedSimpArgs false
set_option linter.unusedVariables false
namespace Go.Ev.Ytgacigcbglflkaa
open Go Go.Ev
attribute [local congr] Um Uw Uj Ux W1
set_option maxRecDepth 100000
theorem Qij {x y:Nat} (hx:x < 18446744073709551616) (hy:y < 18446744073709551616) :
  Vl T 69 [.int .u64 x,.int .u64 y] [] = some (.tuple #[.int .u64 ((x * y / 18446744073709551616:Nat):Int),.int .u64 ((x * y % 18446744073709551616:Nat):Int)],[],[]):=by
 have key:∀ a b:Nat,a = x * y / 18446744073709551616 → b = x * y % 18446744073709551616 → (some (.tuple #[.int .u64 (a:Int),.int .u64 (b:Int)],[],[]):Option (Value × List Ob × List Nat)) = some (.tuple #[.int .u64 ((x * y / 18446744073709551616:Nat):Int),.int .u64 ((x * y % 18446744073709551616:Nat):Int)],[],[]):=by
  rintro a b rfl rfl; rfl
 rw [J3 (fn:=a91) rfl]
 simp only [a91,J2,quiet,cF,↓pF,reduceCtorEq,Qc,Qp,Wf,X4,↓Z0,↓Zz,↓Jr,↓Ju,↓Js,↓Jt,cL,Qo,Qn,Q1,Q0,Qx,Qs,Qr,Qz,Qd,Q5,Q6,Qy,Qj,Qi,Qh,Qw,Qv,Qu,Qm,Ql,cU]
 apply key
 ·have e:x * y = (x / 4294967296 * (y / 4294967296)) * 18446744073709551616 + (x / 4294967296 * (y % 4294967296) + x % 4294967296 * (y / 4294967296)) * 4294967296 + x % 4294967296 * (y % 4294967296):=by
   conv => lhs; rw [← Vn x 4294967296,← Vn y 4294967296]
   generalize x / 4294967296 = x1
   generalize x % 4294967296 = x0
   generalize y / 4294967296 = y1
   generalize y % 4294967296 = y0
   grind
  have b1:x / 4294967296 ≤ 4294967295:=by omega
  have b2:x % 4294967296 ≤ 4294967295:=by omega
  have b3:y / 4294967296 ≤ 4294967295:=by omega
  have b4:y % 4294967296 ≤ 4294967295:=by omega
  have c1:=Yr b1 b3
  have c2:=Yr b1 b4
  have c3:=Yr b2 b3
  have c4:=Yr b2 b4
  rw [e]
  clear e
  generalize x / 4294967296 * (y / 4294967296) = p11 at *
  generalize x / 4294967296 * (y % 4294967296) = p10 at *
  generalize x % 4294967296 * (y / 4294967296) = p01 at *
  generalize x % 4294967296 * (y % 4294967296) = p00 at *
  omega
 ·rfl
def wV (n:Nat):Value := .agg #[.int .u64 ((n / 18446744073709551616:Nat):Int),.int .u64 ((n % 18446744073709551616:Nat):Int)]
theorem rf_wV (n:Nat):rf (wV n) = true:=rfl
theorem Qdy {x y c:Nat} (hc:c ≤ 1):Vl T 70 [.int .u64 x,.int .u64 y,.int .u64 c] [] = some (.tuple #[.int .u64 ((x + y + c) % 18446744073709551616:Nat),.int .u64 ((x + y + c) / 18446744073709551616:Nat)],[],[]):=by
 rw [Vl.eq_def]
 have h1:T.fn 70 = none:=rfl
 have h2:([.int .u64 (x:Int),.int .u64 (y:Int),.int .u64 (c:Int)]:List Value).all rf = true:=rfl
 have h3:T.ext 70 [.int .u64 x,.int .u64 y,.int .u64 c] = some (.tuple #[.int .u64 ((x + y + c) % 18446744073709551616:Nat),.int .u64 ((x + y + c) / 18446744073709551616:Nat)]):=by
  have h4:(c:Int).toNat ≤ 1:=by omega
  simp [T,Qt8,hc]
 rw [h1]
 simp only [h2,if_true,h3,Qf]
theorem Qmh {x y:Nat} (hx:x < 18446744073709551616) (hy:y < 18446744073709551616):∃ l,Vl T 55 [.int .u64 x,.int .u64 y] [] = some (wV (x * y),l,[]):=by
 have h:=Qij hx hy
 have hf:∀ a b:Int,fillL [Value.int .u64 0,Value.int .u64 0] [(0,1,.int .u64 a),(1,1,.int .u64 b)] = some [.int .u64 a,.int .u64 b]:=fun _ _ => rfl
 apply J4
 rw [J3 (fn:=a77) rfl]
 simp only [a77,J2,quiet,cF,↓pF,reduceCtorEq,Qc,Qp,Wf,X4,↓Z0,↓Zz,↓Jr,↓Ju,↓Js,↓Jt,cL,Qo,Qn,Q1,Q0,Qx,Qs,Qr,Qz,Qd,Q5,Q6,Qy,Qj,Qi,Qh,Qw,Qv,Qu,Qm,Ql,cJ,Kk,h,hf]
 rfl
theorem Qog {n x y:Nat} (hx:x < 18446744073709551616) (hy:y < 18446744073709551616) (hn:n + x * y < 340282366920938463463374607431768211456):∃ l,Vl T 56 [wV n,.int .u64 x,.int .u64 y] [] = some (wV (n + x * y),l,[]):=by
 have h:=Qij hx hy
 have hf:∀ a b:Int,fillL [Value.int .u64 0,Value.int .u64 0] [(0,1,.int .u64 a),(1,1,.int .u64 b)] = some [.int .u64 a,.int .u64 b]:=fun _ _ => rfl
 have a1:=Qdy (x:=n % 18446744073709551616) (y:=x * y % 18446744073709551616) (c:=0) (by decide)
 have a2:=Qdy (x:=n / 18446744073709551616) (y:=x * y / 18446744073709551616) (c:=(n % 18446744073709551616 + x * y % 18446744073709551616) / 18446744073709551616) (by omega)
 simp only [V9,Z1] at a1
 have key:∀ (a b:Nat) (l:List Ob),a = (n + x * y) / 18446744073709551616 → b = (n + x * y) % 18446744073709551616 → (some (.agg #[.int .u64 (a:Int),.int .u64 (b:Int)],l,[]):Option (Value × List Ob × List Nat)) = some (wV (n + x * y),l,[]):=by
  rintro a b l rfl rfl; rfl
 apply J4
 rw [J3 (fn:=a78) rfl]
 simp only [wV,a78,J2,quiet,cF,↓pF,reduceCtorEq,Qc,Qp,Wf,X4,↓Z0,↓Zz,↓Jr,↓Ju,↓Js,↓Jt,cL,Qo,Qn,Q1,Q0,Qx,Qs,Qr,Qz,Qd,Q5,Q6,Qy,Qj,Qi,Qh,Qw,Qv,Qu,Qm,Ql,cJ,Kk,h,hf,a1,a2]
 apply key
 ·generalize x * y = p at *
  omega
 ·generalize x * y = p at *
  omega
theorem Qo1 {n:Nat} (hn:n < 41538374868278621028243970633760768):∃ l,Vl T 57 [wV n] [] = some (.tuple #[.int .u64 ((n / 2251799813685248:Nat):Int),.int .u64 ((n % 2251799813685248:Nat):Int)],l,[]):=by
 have key:∀ (a b:Nat) (l:List Ob),a = n / 2251799813685248 → b = n % 2251799813685248 → (some (.tuple #[.int .u64 (a:Int),.int .u64 (b:Int)],l,[]):Option (Value × List Ob × List Nat)) = some (.tuple #[.int .u64 ((n / 2251799813685248:Nat):Int),.int .u64 ((n % 2251799813685248:Nat):Int)],l,[]):=by
  rintro a b l rfl rfl; rfl
 have hor:=fun a b:Nat => n_or .u64 rfl a b
 apply J4
 rw [J3 (fn:=a79) rfl]
 simp only [wV,a79,J2,quiet,cF,↓pF,reduceCtorEq,Qc,Qp,Wf,X4,↓Z0,↓Zz,↓Jr,↓Ju,↓Js,↓Jt,cL,Qo,Qn,Q1,Q0,Qx,Qs,Qr,Qz,Qd,Q5,Q6,Qy,Qj,Qi,Qh,Qw,Qv,Qu,Qm,Ql,cJ,Kk,cU,hor]
 apply key
 ·have h1:n / 18446744073709551616 < 2251799813685248:=by omega
  have e1:n / 18446744073709551616 * 8192 % 18446744073709551616 % 2 ^ IntKind.u64.bits = n / 18446744073709551616 * 2 ^ 13:=by
   rw [show (2:Nat) ^ IntKind.u64.bits = 18446744073709551616 from rfl]; omega
  have e2:n % 18446744073709551616 / 2251799813685248 % 2 ^ IntKind.u64.bits = n % 18446744073709551616 / 2251799813685248:=by
   rw [show (2:Nat) ^ IntKind.u64.bits = 18446744073709551616 from rfl]; omega
  rw [e1,e2,Mw (by omega)]
  omega
 ·omega
theorem Qtn {n x:Nat} (hn:n + x < 340282366920938463463374607431768211456) (hx:x < 18446744073709551616):∃ l,Vl T 58 [wV n,.int .u64 x] [] = some (wV (n + x),l,[]):=by
 have hf:∀ a b:Int,fillL [Value.int .u64 0,Value.int .u64 0] [(0,1,.int .u64 a),(1,1,.int .u64 b)] = some [.int .u64 a,.int .u64 b]:=fun _ _ => rfl
 have a1:=Qdy (x:=n % 18446744073709551616) (y:=x) (c:=0) (by decide)
 simp only [V9,Z1] at a1
 have key:∀ (a b:Nat) (l:List Ob),a = (n + x) / 18446744073709551616 → b = (n + x) % 18446744073709551616 → (some (.agg #[.int .u64 (a:Int),.int .u64 (b:Int)],l,[]):Option (Value × List Ob × List Nat)) = some (wV (n + x),l,[]):=by
  rintro a b l rfl rfl; rfl
 apply J4
 rw [J3 (fn:=a80) rfl]
 simp only [wV,a80,J2,quiet,cF,↓pF,reduceCtorEq,Qc,Qp,Wf,X4,↓Z0,↓Zz,↓Jr,↓Ju,↓Js,↓Jt,cL,Qo,Qn,Q1,Q0,Qx,Qs,Qr,Qz,Qd,Q5,Q6,Qy,Qj,Qi,Qh,Qw,Qv,Qu,Qm,Ql,cJ,Kk,cU,hf,a1]
 apply key
 ·omega
 ·omega
def eV (l:List Nat):Value := .agg (ns .u64 l).toArray
theorem Yt (l:List Nat):rf (eV l) = true:=by
 show (ns .u64 l).toArray.toList.all K0 = true
 rw [show (ns .u64 l).toArray.toList = ns .u64 l from rfl]
 simp [ns,K0]
theorem Qlm (k:IntKind) (l:List Nat):rf (.agg (ns k l).toArray) = true:=by
 show (ns k l).toArray.toList.all K0 = true
 rw [show (ns k l).toArray.toList = ns k l from rfl]
 simp [ns,K0]
structure El (l:List Nat) (b:Nat):Prop where
 len:l.length = 5
 lt:∀ x ∈ l,x < b
theorem El.five {l:List Nat} {b:Nat} (h:El l b):∃ x0 x1 x2 x3 x4,l = [x0,x1,x2,x3,x4] ∧ x0 < b ∧ x1 < b ∧ x2 < b ∧ x3 < b ∧ x4 < b:=by
 obtain ⟨h1,h2⟩:=h
 match l,h1 with
 | [x0,x1,x2,x3,x4],_ => exact ⟨x0,x1,x2,x3,x4,rfl,h2 _ (by simp),h2 _ (by simp),h2 _ (by simp),h2 _ (by simp),h2 _ (by simp)⟩
theorem El.mk5 {x0 x1 x2 x3 x4 b:Nat} (h0:x0 < b) (h1:x1 < b) (h2:x2 < b) (h3:x3 < b) (h4:x4 < b):El [x0,x1,x2,x3,x4] b:=⟨rfl,by simp; exact ⟨h0,h1,h2,h3,h4⟩⟩
def v51 (l:List Nat):Nat:=num 2251799813685248 l
def fe (l:List Nat):Go.Fp.Fe:=Go.Fp.fp (v51 l)
def He (x0 x1 x2 x3 x4:Nat):List Nat :=
 let c0:=x0 / 2251799813685248
 let c1:=(x1 + c0) / 2251799813685248
 let c2:=(x2 + c1) / 2251799813685248
 let c3:=(x3 + c2) / 2251799813685248
 let c4:=(x4 + c3) / 2251799813685248
 [x0 % 2251799813685248 + 19 * c4,(x1 + c0) % 2251799813685248,(x2 + c1) % 2251799813685248,(x3 + c2) % 2251799813685248,(x4 + c3) % 2251799813685248]
theorem Qae {x0 x1 x2 x3 x4:Nat}:∃ k,v51 (He x0 x1 x2 x3 x4) + k * Go.Fp.P = v51 [x0,x1,x2,x3,x4]:=by
 refine ⟨(x4 + (x3 + (x2 + (x1 + x0 / 2251799813685248) / 2251799813685248) / 2251799813685248) / 2251799813685248) / 2251799813685248,?_⟩
 simp only [v51,He,num,Go.Fp.Rd]
 omega
theorem Qv0 {a b k:Nat} (h:a + k * Go.Fp.P = b):Go.Fp.fp a = Go.Fp.fp b:=by
 rw [← h,Go.Fp.Bm,Go.Fp.Ql2]; grobner
theorem Qk4 {x0 x1 x2 x3 x4:Nat} (h0:x0 < 9223372036854775808) (h1:x1 < 9223372036854775808) (h2:x2 < 9223372036854775808) (h3:x3 < 9223372036854775808) (h4:x4 < 9223372036854775808) :
  ∃ l,Vl T 59 [eV [x0,x1,x2,x3,x4]] [] = some (eV (He x0 x1 x2 x3 x4),l,[]):=by
 have key:∀ (a b c d e:Nat) (l:List Ob),[a,b,c,d,e] = He x0 x1 x2 x3 x4 → (some (.agg [.int .u64 (a:Int),.int .u64 (b:Int),.int .u64 (c:Int),.int .u64 (d:Int),.int .u64 (e:Int)].toArray,l,[]):Option (Value × List Ob × List Nat)) = some (eV (He x0 x1 x2 x3 x4),l,[]):=by
  intro a b c d e l h
  rw [← h]; rfl
 have hz:Qb 5 (Value.int .u64 0) = [.int .u64 0,.int .u64 0,.int .u64 0,.int .u64 0,.int .u64 0]:=rfl
 apply J4
 rw [J3 (fn:=a81) rfl]
 simp only [eV,Hs,Mz,a81,J2,quiet,cF,↓pF,reduceCtorEq,Qc,Qp,Wf,X4,↓Z0,↓Zz,↓Jr,↓Ju,↓Js,↓Jt,cL,Qo,Qn,Q1,Q0,Qx,Qs,Qr,Qz,Qd,Q5,Q6,Qy,Qj,Qi,Qh,Qw,Qv,Qu,Qm,Ql,cJ,Kk,cU,hz,Z7,Y8,Qrw]
 apply key
 simp only [He,Qld,and_true]
 rw [show x0 % 18446744073709551616 = x0 by omega]
 have b0:x0 / 2251799813685248 < 8192:=by omega
 have hx0:x0 % 2251799813685248 < 2251799813685248:=by omega
 generalize x0 / 2251799813685248 = c0 at *
 generalize x0 % 2251799813685248 = r0 at *
 rw [show (x1 + c0) % 18446744073709551616 = x1 + c0 by omega]
 have b1:(x1 + c0) / 2251799813685248 < 8192:=by omega
 generalize (x1 + c0) / 2251799813685248 = c1 at *
 rw [show (x2 + c1) % 18446744073709551616 = x2 + c1 by omega]
 have b2:(x2 + c1) / 2251799813685248 < 8192:=by omega
 generalize (x2 + c1) / 2251799813685248 = c2 at *
 rw [show (x3 + c2) % 18446744073709551616 = x3 + c2 by omega]
 have b3:(x3 + c2) / 2251799813685248 < 8192:=by omega
 generalize (x3 + c2) / 2251799813685248 = c3 at *
 rw [show (x4 + c3) % 18446744073709551616 = x4 + c3 by omega]
 have b4:(x4 + c3) / 2251799813685248 < 8192:=by omega
 generalize (x4 + c3) / 2251799813685248 = c4 at *
 refine ⟨by omega,rfl,rfl,rfl,rfl⟩
theorem Qtl (B P x0 x1 x2 x3 x4 y0 y1 y2 y3 y4:Nat) (h:B * B * B * B * B = P + 19) :
  (x0 + B * (x1 + B * (x2 + B * (x3 + B * (x4 + B * 0))))) * (y0 + B * (y1 + B * (y2 + B * (y3 + B * (y4 + B * 0))))) =
   (x0 * y0 + 19 * x1 * y4 + 19 * x2 * y3 + 19 * x3 * y2 + 19 * x4 * y1) + B * ((x0 * y1 + x1 * y0 + 19 * x2 * y4 + 19 * x3 * y3 + 19 * x4 * y2) + B * ((x0 * y2 + x1 * y1 + x2 * y0 + 19 * x3 * y4 + 19 * x4 * y3) + B * ((x0 * y3 + x1 * y2 + x2 * y1 + x3 * y0 + 19 * x4 * y4) + B * (x0 * y4 + x1 * y3 + x2 * y2 + x3 * y1 + x4 * y0)))) +
   (x1 * y4 + x2 * y3 + x3 * y2 + x4 * y1 + B * (x2 * y4 + x3 * y3 + x4 * y2 + B * (x3 * y4 + x4 * y3 + B * (x4 * y4)))) * P:=by grind
theorem Rh {x y:Nat} (hx:x < 18446744073709551616) (hy:y < 18446744073709551616):V7 T 55 [.int .u64 x,.int .u64 y] = some (wV (x * y)):=Vc (Qmh hx hy)
theorem Wv {n x y:Nat} (hx:x < 18446744073709551616) (hy:y < 18446744073709551616) (hn:n + x * y < 340282366920938463463374607431768211456):V7 T 56 [wV n,.int .u64 x,.int .u64 y] = some (wV (n + x * y)):=Vc (Qog hx hy hn)
theorem Ri {n:Nat} (hn:n < 41538374868278621028243970633760768):V7 T 57 [wV n] = some (.tuple #[.int .u64 ((n / 2251799813685248:Nat):Int),.int .u64 ((n % 2251799813685248:Nat):Int)]):=Vc (Qo1 hn)
theorem Qxs {n x:Nat} (hn:n + x < 340282366920938463463374607431768211456) (hx:x < 18446744073709551616):V7 T 58 [wV n,.int .u64 x] = some (wV (n + x)):=Vc (Qtn hn hx)
theorem Du {x0 x1 x2 x3 x4:Nat} (h0:x0 < 9223372036854775808) (h1:x1 < 9223372036854775808) (h2:x2 < 9223372036854775808) (h3:x3 < 9223372036854775808) (h4:x4 < 9223372036854775808):V7 T 59 [eV [x0,x1,x2,x3,x4]] = some (eV (He x0 x1 x2 x3 x4)):=Vc (Qk4 h0 h1 h2 h3 h4)
theorem Hb {a b c d e:Nat} (ha:a < 2 ^ 109) (hb:b < 2 ^ 109) (hc:c < 2 ^ 109) (hd:d < 2 ^ 109) (he:e < 2 ^ 109):a + b + c + d + e < 2 ^ 112:=by omega
theorem V6 {x y:Nat} (hx:x < 2 ^ 57) (hy:y < 2 ^ 52):x * y < 2 ^ 109:=by
 rw [show (2:Nat) ^ 109 = 2 ^ 57 * 2 ^ 52 from rfl]
 exact Nat.mul_lt_mul'' hx hy
theorem Qtk {s0 s1 s2 s3 s4:Nat} (h0:s0 < 2 ^ 112) (h1:s1 < 2 ^ 112) (h2:s2 < 2 ^ 112) (h3:s3 < 2 ^ 112) (h4:s4 < 2 ^ 112):∃ r,El r (2 ^ 52) ∧ (∃ k,v51 r + k * Go.Fp.P = s0 + 2251799813685248 * (s1 + 2251799813685248 * (s2 + 2251799813685248 * (s3 + 2251799813685248 * s4)))) ∧
  r = He ((19 * (s4 / 2251799813685248) + s0 % 2251799813685248) % 2251799813685248) (s1 % 2251799813685248 + s0 / 2251799813685248 + (19 * (s4 / 2251799813685248) + s0 % 2251799813685248) / 2251799813685248) (s2 % 2251799813685248 + s1 / 2251799813685248) (s3 % 2251799813685248 + s2 / 2251799813685248) (s4 % 2251799813685248 + s3 / 2251799813685248):=by
 refine ⟨_,?_,?_,rfl⟩
 ·simp only [He]
  apply El.mk5 <;> omega
 ·obtain ⟨k,hk⟩:=Qae (x0:=(19 * (s4 / 2251799813685248) + s0 % 2251799813685248) % 2251799813685248) (x1:=s1 % 2251799813685248 + s0 / 2251799813685248 + (19 * (s4 / 2251799813685248) + s0 % 2251799813685248) / 2251799813685248) (x2:=s2 % 2251799813685248 + s1 / 2251799813685248) (x3:=s3 % 2251799813685248 + s2 / 2251799813685248) (x4:=s4 % 2251799813685248 + s3 / 2251799813685248)
  refine ⟨k + s4 / 2251799813685248,?_⟩
  rw [Kr,← Kk,hk]
  simp only [v51,num,Go.Fp.Rd]
  omega
theorem Wq {x y:List Nat} (hx:El x (2 ^ 52)) (hy:El y (2 ^ 52)):∃ r,V7 T 29 [eV x,eV y] = some (eV r) ∧ El r (2 ^ 52) ∧ fe r = fe x * fe y:=by
 obtain ⟨x0,x1,x2,x3,x4,rfl,a0,a1,a2,a3,a4⟩:=hx.five
 obtain ⟨y0,y1,y2,y3,y4,rfl,b0,b1,b2,b3,b4⟩:=hy.five
 have m1:19 * x1 % 18446744073709551616 = 19 * x1:=by omega
 have m2:19 * x2 % 18446744073709551616 = 19 * x2:=by omega
 have m3:19 * x3 % 18446744073709551616 = 19 * x3:=by omega
 have m4:19 * x4 % 18446744073709551616 = 19 * x4:=by omega
 have t00:=Rh (x:=x0) (y:=y0) (by omega) (by omega)
 have p00:x0 * y0 < 2 ^ 109:=V6 (by omega) (by omega)
 have p01:19 * x1 * y4 < 2 ^ 109:=V6 (by omega) (by omega)
 have p02:19 * x2 * y3 < 2 ^ 109:=V6 (by omega) (by omega)
 have p03:19 * x3 * y2 < 2 ^ 109:=V6 (by omega) (by omega)
 have p04:19 * x4 * y1 < 2 ^ 109:=V6 (by omega) (by omega)
 have t01:=Wv (n:=x0 * y0) (x:=19 * x1) (y:=y4) (by omega) (by omega) (by omega)
 have t02:=Wv (n:=x0 * y0 + 19 * x1 * y4) (x:=19 * x2) (y:=y3) (by omega) (by omega) (by omega)
 have t03:=Wv (n:=x0 * y0 + 19 * x1 * y4 + 19 * x2 * y3) (x:=19 * x3) (y:=y2) (by omega) (by omega) (by omega)
 have t04:=Wv (n:=x0 * y0 + 19 * x1 * y4 + 19 * x2 * y3 + 19 * x3 * y2) (x:=19 * x4) (y:=y1) (by omega) (by omega) (by omega)
 have q0:=Hb p00 p01 p02 p03 p04
 have t10:=Rh (x:=x0) (y:=y1) (by omega) (by omega)
 have p10:x0 * y1 < 2 ^ 109:=V6 (by omega) (by omega)
 have p11:x1 * y0 < 2 ^ 109:=V6 (by omega) (by omega)
 have p12:19 * x2 * y4 < 2 ^ 109:=V6 (by omega) (by omega)
 have p13:19 * x3 * y3 < 2 ^ 109:=V6 (by omega) (by omega)
 have p14:19 * x4 * y2 < 2 ^ 109:=V6 (by omega) (by omega)
 have t11:=Wv (n:=x0 * y1) (x:=x1) (y:=y0) (by omega) (by omega) (by omega)
 have t12:=Wv (n:=x0 * y1 + x1 * y0) (x:=19 * x2) (y:=y4) (by omega) (by omega) (by omega)
 have t13:=Wv (n:=x0 * y1 + x1 * y0 + 19 * x2 * y4) (x:=19 * x3) (y:=y3) (by omega) (by omega) (by omega)
 have t14:=Wv (n:=x0 * y1 + x1 * y0 + 19 * x2 * y4 + 19 * x3 * y3) (x:=19 * x4) (y:=y2) (by omega) (by omega) (by omega)
 have q1:=Hb p10 p11 p12 p13 p14
 have t20:=Rh (x:=x0) (y:=y2) (by omega) (by omega)
 have p20:x0 * y2 < 2 ^ 109:=V6 (by omega) (by omega)
 have p21:x1 * y1 < 2 ^ 109:=V6 (by omega) (by omega)
 have p22:x2 * y0 < 2 ^ 109:=V6 (by omega) (by omega)
 have p23:19 * x3 * y4 < 2 ^ 109:=V6 (by omega) (by omega)
 have p24:19 * x4 * y3 < 2 ^ 109:=V6 (by omega) (by omega)
 have t21:=Wv (n:=x0 * y2) (x:=x1) (y:=y1) (by omega) (by omega) (by omega)
 have t22:=Wv (n:=x0 * y2 + x1 * y1) (x:=x2) (y:=y0) (by omega) (by omega) (by omega)
 have t23:=Wv (n:=x0 * y2 + x1 * y1 + x2 * y0) (x:=19 * x3) (y:=y4) (by omega) (by omega) (by omega)
 have t24:=Wv (n:=x0 * y2 + x1 * y1 + x2 * y0 + 19 * x3 * y4) (x:=19 * x4) (y:=y3) (by omega) (by omega) (by omega)
 have q2:=Hb p20 p21 p22 p23 p24
 have t30:=Rh (x:=x0) (y:=y3) (by omega) (by omega)
 have p30:x0 * y3 < 2 ^ 109:=V6 (by omega) (by omega)
 have p31:x1 * y2 < 2 ^ 109:=V6 (by omega) (by omega)
 have p32:x2 * y1 < 2 ^ 109:=V6 (by omega) (by omega)
 have p33:x3 * y0 < 2 ^ 109:=V6 (by omega) (by omega)
 have p34:19 * x4 * y4 < 2 ^ 109:=V6 (by omega) (by omega)
 have t31:=Wv (n:=x0 * y3) (x:=x1) (y:=y2) (by omega) (by omega) (by omega)
 have t32:=Wv (n:=x0 * y3 + x1 * y2) (x:=x2) (y:=y1) (by omega) (by omega) (by omega)
 have t33:=Wv (n:=x0 * y3 + x1 * y2 + x2 * y1) (x:=x3) (y:=y0) (by omega) (by omega) (by omega)
 have t34:=Wv (n:=x0 * y3 + x1 * y2 + x2 * y1 + x3 * y0) (x:=19 * x4) (y:=y4) (by omega) (by omega) (by omega)
 have q3:=Hb p30 p31 p32 p33 p34
 have t40:=Rh (x:=x0) (y:=y4) (by omega) (by omega)
 have p40:x0 * y4 < 2 ^ 109:=V6 (by omega) (by omega)
 have p41:x1 * y3 < 2 ^ 109:=V6 (by omega) (by omega)
 have p42:x2 * y2 < 2 ^ 109:=V6 (by omega) (by omega)
 have p43:x3 * y1 < 2 ^ 109:=V6 (by omega) (by omega)
 have p44:x4 * y0 < 2 ^ 109:=V6 (by omega) (by omega)
 have t41:=Wv (n:=x0 * y4) (x:=x1) (y:=y3) (by omega) (by omega) (by omega)
 have t42:=Wv (n:=x0 * y4 + x1 * y3) (x:=x2) (y:=y2) (by omega) (by omega) (by omega)
 have t43:=Wv (n:=x0 * y4 + x1 * y3 + x2 * y2) (x:=x3) (y:=y1) (by omega) (by omega) (by omega)
 have t44:=Wv (n:=x0 * y4 + x1 * y3 + x2 * y2 + x3 * y1) (x:=x4) (y:=y0) (by omega) (by omega) (by omega)
 have q4:=Hb p40 p41 p42 p43 p44
 obtain ⟨r,hr1,⟨k,hr2⟩,hr3⟩:=Qtk q0 q1 q2 q3 q4
 have d0:=Ri (n:=x0 * y0 + 19 * x1 * y4 + 19 * x2 * y3 + 19 * x3 * y2 + 19 * x4 * y1) (by omega)
 have d1:=Ri (n:=x0 * y1 + x1 * y0 + 19 * x2 * y4 + 19 * x3 * y3 + 19 * x4 * y2) (by omega)
 have d2:=Ri (n:=x0 * y2 + x1 * y1 + x2 * y0 + 19 * x3 * y4 + 19 * x4 * y3) (by omega)
 have d3:=Ri (n:=x0 * y3 + x1 * y2 + x2 * y1 + x3 * y0 + 19 * x4 * y4) (by omega)
 have d4:=Ri (n:=x0 * y4 + x1 * y3 + x2 * y2 + x3 * y1 + x4 * y0) (by omega)
 refine ⟨r,?_,hr1,?_⟩
 ·rw [hr3]
  clear hr2 hr3
  generalize x0 * y0 + 19 * x1 * y4 + 19 * x2 * y3 + 19 * x3 * y2 + 19 * x4 * y1 = s0 at *
  generalize x0 * y1 + x1 * y0 + 19 * x2 * y4 + 19 * x3 * y3 + 19 * x4 * y2 = s1 at *
  generalize x0 * y2 + x1 * y1 + x2 * y0 + 19 * x3 * y4 + 19 * x4 * y3 = s2 at *
  generalize x0 * y3 + x1 * y2 + x2 * y1 + x3 * y0 + 19 * x4 * y4 = s3 at *
  generalize x0 * y4 + x1 * y3 + x2 * y2 + x3 * y1 + x4 * y0 = s4 at *
  have u1:=Rh (x:=19) (y:=s4 / 2251799813685248) (by omega) (by omega)
  have u2:=Qxs (n:=19 * (s4 / 2251799813685248)) (x:=s0 % 2251799813685248) (by omega) (by omega)
  have u3:=Ri (n:=19 * (s4 / 2251799813685248) + s0 % 2251799813685248) (by omega)
  have w1:(s1 % 2251799813685248 + s0 / 2251799813685248) % 18446744073709551616 = s1 % 2251799813685248 + s0 / 2251799813685248:=by omega
  have w2:(s1 % 2251799813685248 + s0 / 2251799813685248 + (19 * (s4 / 2251799813685248) + s0 % 2251799813685248) / 2251799813685248) % 18446744073709551616 = s1 % 2251799813685248 + s0 / 2251799813685248 + (19 * (s4 / 2251799813685248) + s0 % 2251799813685248) / 2251799813685248:=by omega
  have w3:(s2 % 2251799813685248 + s1 / 2251799813685248) % 18446744073709551616 = s2 % 2251799813685248 + s1 / 2251799813685248:=by omega
  have w4:(s3 % 2251799813685248 + s2 / 2251799813685248) % 18446744073709551616 = s3 % 2251799813685248 + s2 / 2251799813685248:=by omega
  have w5:(s4 % 2251799813685248 + s3 / 2251799813685248) % 18446744073709551616 = s4 % 2251799813685248 + s3 / 2251799813685248:=by omega
  have v1:=Du (x0:=(19 * (s4 / 2251799813685248) + s0 % 2251799813685248) % 2251799813685248) (x1:=s1 % 2251799813685248 + s0 / 2251799813685248 + (19 * (s4 / 2251799813685248) + s0 % 2251799813685248) / 2251799813685248) (x2:=s2 % 2251799813685248 + s1 / 2251799813685248) (x3:=s3 % 2251799813685248 + s2 / 2251799813685248) (x4:=s4 % 2251799813685248 + s3 / 2251799813685248) (by omega) (by omega) (by omega) (by omega) (by omega)
  simp only [Gj] at u1
  have hz:Qb 5 (Value.int .u64 0) = [.int .u64 0,.int .u64 0,.int .u64 0,.int .u64 0,.int .u64 0]:=rfl
  have hf:∀ a b c d e:Int,fillL [Value.int .u64 0,.int .u64 0,.int .u64 0,.int .u64 0,.int .u64 0] [(0,1,.int .u64 a),(1,1,.int .u64 b),(2,1,.int .u64 c),(3,1,.int .u64 d),(4,1,.int .u64 e)] = some [.int .u64 a,.int .u64 b,.int .u64 c,.int .u64 d,.int .u64 e]:=fun _ _ _ _ _ => rfl
  have hf5:∀ a b c d e:Int,fillL [Value.int .u64 0,.int .u64 0,.int .u64 0,.int .u64 0,.int .u64 0] [(0,5,.agg [.int .u64 a,.int .u64 b,.int .u64 c,.int .u64 d,.int .u64 e].toArray)] = some [.int .u64 a,.int .u64 b,.int .u64 c,.int .u64 d,.int .u64 e]:=fun _ _ _ _ _ => rfl
  have hr5:∀ a b c d e:Int,rf (.agg [.int .u64 a,.int .u64 b,.int .u64 c,.int .u64 d,.int .u64 e].toArray) = true:=fun _ _ _ _ _ => rfl
  have hw:∀ n,(wV n).cells.size = 2:=fun _ => rfl
  have hw2:∀ n,(wV n).cells.toList = [.int .u64 ((n / 18446744073709551616:Nat):Int),.int .u64 ((n % 18446744073709551616:Nat):Int)]:=fun _ => rfl
  have hw3:∀ n,Vu (wV n) = true:=fun _ => rfl
  have hw4:∀ n,Value.agg [.int .u64 ((n / 18446744073709551616:Nat):Int),.int .u64 ((n % 18446744073709551616:Nat):Int)].toArray = wV n:=fun _ => rfl
  simp only [eV,Hs,Mz] at v1 ⊢
  generalize hc:ns .u64 (He ((19 * (s4 / 2251799813685248) + s0 % 2251799813685248) % 2251799813685248) (s1 % 2251799813685248 + s0 / 2251799813685248 + (19 * (s4 / 2251799813685248) + s0 % 2251799813685248) / 2251799813685248) (s2 % 2251799813685248 + s1 / 2251799813685248) (s3 % 2251799813685248 + s2 / 2251799813685248) (s4 % 2251799813685248 + s3 / 2251799813685248)) = C at *
  have hC:C.length = 5:=by rw [← hc]; rfl
  have hCr:rf (.agg C.toArray) = true:=by rw [← hc]; exact Qlm _ _
  apply Vc
  apply J4
  rw [J3 (fn:=a51) rfl]
  simp only [a51,J2,quiet,cF,↓pF,reduceCtorEq,Qc,Qp,Ja,X4,↓Z0,↓Zz,↓Jr,↓Ju,↓Js,↓Jt,cL,Qo,Qn,Q1,Q0,Qx,Qs,Qr,Qz,Qd,Q5,Q6,Qy,Qj,Qi,Qh,Qw,Qv,Qu,Qm,Ql,cJ,cU,hz,m1,m2,m3,m4,t00,t01,t02,t03,t04,t10,t11,t12,t13,t14,t20,t21,t22,t23,t24,t30,t31,t32,t33,t34,t40,t41,t42,t43,t44,d0,d1,d2,d3,d4,u1,u2,u3,w1,w2,w3,w4,w5,hf,hf5,hr5,v1,rf_wV,hw,hw2,hw3,hw4,hC,hCr]
  rfl
 ·unfold fe
  rw [← Go.Fp.Uh]
  have h:=Qtl 2251799813685248 Go.Fp.P x0 x1 x2 x3 x4 y0 y1 y2 y3 y4 (by rw [Go.Fp.Rd])
  have e:v51 [x0,x1,x2,x3,x4] * v51 [y0,y1,y2,y3,y4] = v51 r + (k + (x1 * y4 + x2 * y3 + x3 * y2 + x4 * y1 + 2251799813685248 * (x2 * y4 + x3 * y3 + x4 * y2 + 2251799813685248 * (x3 * y4 + x4 * y3 + 2251799813685248 * (x4 * y4))))) * Go.Fp.P:=by
   simp only [v51,num] at hr2 h ⊢
   rw [h,← hr2,Kk,← Kr]
  exact Qv0 e.symm
theorem Qma {V w q s:Nat} (hs:s < w):V / (2 ^ w) ^ q % 2 ^ w / 2 ^ s % 2 = V / 2 ^ (w * q + s) % 2:=by
 have h1:(2:Nat) ^ w = 2 ^ s * 2 ^ (w - s):=by rw [← Y4]; congr 1; omega
 conv => lhs; rw [show V / (2 ^ w) ^ q % 2 ^ w = V / (2 ^ w) ^ q % (2 ^ s * 2 ^ (w - s)) from by rw [← h1]]
 have h2:(2:Nat) ∣ 2 ^ (w - s):=by
  obtain ⟨m,hm⟩:∃ m,w - s = m + 1:=⟨w - s - 1,by omega⟩
  rw [hm,K8]
  exact Qjj 2 _
 rw [Ml,Gg _ h2,V5,← Ye,← Y4]
theorem Qja (V i:Nat):V % 2 ^ i + V / 2 ^ i % 2 * 2 ^ i = V % 2 ^ (i + 1):=by
 rw [Nat.mod_pow_succ,K9 (2 ^ i)]
theorem Qdw (V i:Nat):V / 2 ^ i % 2 < 2:=Jn _ (by decide)
theorem D7 {n b:Nat} (h:n ≤ b):(2:Int) ^ min n b = ((2 ^ n:Nat):Int):=by rw [Vx h]; simp
theorem Qcc {n:Nat} (hn:n < 4294967296):V7 T 28 [.int .u32 n] = some (eV [n,0,0,0,0]):=by
 have hz:Qb 5 (Value.int .u64 0) = [.int .u64 0,.int .u64 0,.int .u64 0,.int .u64 0,.int .u64 0]:=rfl
 have hf:∀ a:Int,fillL [Value.int .u64 0,.int .u64 0,.int .u64 0,.int .u64 0,.int .u64 0] [(0,1,.int .u64 a)] = some [.int .u64 a,.int .u64 0,.int .u64 0,.int .u64 0,.int .u64 0]:=fun _ => rfl
 have hf5:∀ a b c d e:Int,fillL [Value.int .u64 0,.int .u64 0,.int .u64 0,.int .u64 0,.int .u64 0] [(0,5,.agg [.int .u64 a,.int .u64 b,.int .u64 c,.int .u64 d,.int .u64 e].toArray)] = some [.int .u64 a,.int .u64 b,.int .u64 c,.int .u64 d,.int .u64 e]:=fun _ _ _ _ _ => rfl
 have hm:n % 18446744073709551616 = n:=by omega
 apply Vc
 apply J4
 rw [J3 (fn:=a50) rfl]
 simp only [a50,J2,quiet,cF,↓pF,reduceCtorEq,Qc,Qp,Ja,X4,↓Z0,↓Zz,↓Jr,↓Ju,↓Js,↓Jt,cL,Qo,Qn,Q1,Q0,Qx,Qs,Qr,Qz,Qd,Q5,Q6,Qy,Qj,Qi,Qh,Qw,Qv,Qu,Qm,Ql,cJ,cU,hz,hf,hf5,hm,eV,Hs,Mz]
 rfl
theorem Tv {n:Nat} (hn:n < 2 ^ 52):El [n,0,0,0,0] (2 ^ 52):=El.mk5 hn (by decide) (by decide) (by decide) (by decide)
theorem Tu (n:Nat):fe [n,0,0,0,0] = Go.Fp.fp n:=by simp [fe,v51,num]
def ofX (V i:Nat):List Nat:=dig (2 ^ 51) 5 (V % 2 ^ i)
def Qie (k x:List Nat) (i:Nat) (ex:Env):St:=⟨[(1,.pointer (some ⟨0,0,none⟩)),(2,.pointer (some ⟨1,0,none⟩)),(3,.pointer (some ⟨2,0,none⟩)),(5,.int .i64 i)] ++ ex,[⟨u8s k,true,true,true,1⟩,⟨ns .u64 [0,0,0,0,0],true,true,true,1⟩,⟨ns .u64 x,true,true,true,1⟩],[]⟩
theorem Qqa {k:List Nat} (lk:k.length = 32) (xk:∀ x ∈ k,x < 256) {i:Nat} (hi:i < 255) :
  Xa T 0 Qd6 (Qie k (ofX (num 256 k) i) i []) = some (.normal,Qie k (ofX (num 256 k) (i + 1)) (i + 1) []):=by
 obtain ⟨b,hb⟩:∃ b,k[i / 8]? = some b:=⟨_,Qq (by omega)⟩
 have hbv:=Gr (B:=256) (by decide) xk hb
 have hbc:=Ud hb
 have hlen:(ofX (num 256 k) i).length = 5:=Ku _ _ _
 obtain ⟨y,hy⟩:∃ b,(ofX (num 256 k) i)[i / 51]? = some b:=⟨_,Qq (by omega)⟩
 have hyc:=U8 (k := .u64) hy
 have hy':y < 2 ^ 51:=Bi (by decide) (Zt hy)
 have hbit:b / 2 ^ (i % 8) % 2 = num 256 k / 2 ^ i % 2:=by
  rw [← hbv,show (256:Nat) = 2 ^ 8 from rfl,Qma (Jn _ (by decide)),Vn]
 have hput:=Qci (w:=51) (m:=5) (q:=i / 51) (s:=i % 51) (y:=num 256 k / 2 ^ i % 2) (M:=num 256 k % 2 ^ i) (by omega) (Jn _ (by decide)) (by rw [Vn]; exact Jn _ (Y9 (by decide))) (by
  have h1:=Qdw (num 256 k) i
  have h2:(2:Nat) ^ (i % 51) ≤ 2 ^ 50:=Kx (by decide) (by have:=Jn i (by decide:0 < 51); omega)
  have h3:num 256 k / 2 ^ i % 2 * 2 ^ (i % 51) ≤ 1 * 2 ^ 50:=Yr (by omega) h2
  omega)
 rw [Vn,Qja] at hput
 have hgd:(dig (2 ^ 51) 5 (num 256 k % 2 ^ i)).getD (i / 51) 0 = y:=by rw [Jp]; unfold ofX at hy; rw [hy]; rfl
 rw [hgd] at hput
 have hset:=Qdb .u64 (ofX (num 256 k) i) (i / 51) (y ||| num 256 k / 2 ^ i % 2 * 2 ^ (i % 51))
 rw [show (ofX (num 256 k) i).set (i / 51) (y ||| num 256 k / 2 ^ i % 2 * 2 ^ (i % 51)) = ofX (num 256 k) (i + 1) from hput] at hset
 have hbl:=Qdw (num 256 k) i
 have h50:(2:Nat) ^ (i % 51) ≤ 2 ^ 50:=Kx (by decide) (by have:=Jn i (by decide:0 < 51); omega)
 have hprod:num 256 k / 2 ^ i % 2 * 2 ^ (i % 51) ≤ 1 * 2 ^ 50:=Yr (by omega) h50
 have s1:(2:Int) ^ min (i % 8) IntKind.u8.bits = ((2 ^ (i % 8):Nat):Int):=D7 (W2 (Jn _ (by decide)))
 have s2:(2:Int) ^ min (i % 51) IntKind.u64.bits = ((2 ^ (i % 51):Nat):Int):=D7 (by have:=Jn i (by decide:0 < 51); exact Un (W2 this) (by decide))
 have o1:Vj .or .u64 (y:Int) ((num 256 k / 2 ^ i % 2 * 2 ^ (i % 51):Nat):Int) = ((y ||| num 256 k / 2 ^ i % 2 * 2 ^ (i % 51):Nat):Int):=B0 rfl (by show _ < 18446744073709551616; omega) (by show _ < 18446744073709551616; omega)
 have n1:(num 256 k / 2 ^ i % 2 * 2 ^ (i % 51)) % 18446744073709551616 = num 256 k / 2 ^ i % 2 * 2 ^ (i % 51):=by omega
 have n2:(num 256 k / 2 ^ i % 2) % 18446744073709551616 = num 256 k / 2 ^ i % 2:=by omega
 have w1:IntKind.i64.wrap ((i / 51:Nat):Int) = ((i / 51:Nat):Int):=Vt (by omega)
 have w2:IntKind.i64.wrap ((i / 8:Nat):Int) = ((i / 8:Nat):Int):=Vt (by omega)
 have w3:IntKind.i64.wrap ((i + 1:Nat):Int) = ((i + 1:Nat):Int):=Vt (by omega)
 have e1:((i:Int) < 255) = True:=eq_true (by omega)
 have e2:(((i / 51:Nat):Int) < 5) = True:=eq_true (by omega)
 have e3:(((i / 8:Nat):Int) < 32) = True:=eq_true (by omega)
 have e4:(((i % 8:Nat):Int) < 0) = False:=eq_false (by omega)
 have e5:(((i % 51:Nat):Int) < 0) = False:=eq_false (by omega)
 have e6:i / 51 + 1 ≤ 5:=by omega
 simp only [Qie,Qd6,J2,quiet,cF,↓pF,reduceCtorEq,Qc,Qp,Ja,X4,↓Z0,↓Zz,↓Jr,↓Ju,↓Js,↓Jt,cL,Qo,Qn,Q1,Q0,Qx,Qs,Qr,Qz,Qd,Q5,Q6,Qy,Qj,Qi,Qh,Qw,Qv,Qu,Qm,Ql,cJ,cU,hbc,hyc,hbit,s1,s2,o1,n1,n2,w1,w2,w3,e1,e2,e3,e4,e5,e6,hset,K3,hlen]
theorem Qqb {k:List Nat} (lk:k.length = 32) (xk:∀ x ∈ k,x < 256):V7 T 27 [.agg (u8s k).toArray] = some (eV (dig (2 ^ 51) 5 (num 256 k % 2 ^ 255))):=by
 have hz:Qb 5 (Value.int .u64 0) = ns .u64 [0,0,0,0,0]:=rfl
 have hb:=Bc (T:=T) (base:=0) (id:=0) (body:=Qd6) (fun i => Qie k (ofX (num 256 k) i) i []) (s':=Qie k (ofX (num 256 k) 255) 255 [(6,.bool false)]) 255 (fun i hi => Qqa lk xk hi) (by
  simp only [Qie,Qd6,J2,quiet,cF,↓pF,reduceCtorEq,Qc,Qp,Ja,X4,↓Z0,↓Zz,↓Jr,↓Ju,↓Js,↓Jt,cL,Qo,Qn,Q1,Q0,Qx,Qs,Qr,Qz,Qd,Q5,Q6,Qy,Qj,Qi,Qh,Qw,Qv,Qu,Qm,Ql])
 have h0:ofX (num 256 k) 0 = [0,0,0,0,0]:=by unfold ofX; rw [Wn,Qyf]; decide
 rw [h0] at hb
 have hlen:(ofX (num 256 k) 255).length = 5:=Ku _ _ _
 rw [show dig (2 ^ 51) 5 (num 256 k % 2 ^ 255) = ofX (num 256 k) 255 from rfl]
 generalize ofX (num 256 k) 255 = X at *
 simp only [Qie,Q3,Q2,V9] at hb
 apply Vc
 apply J4
 rw [J3 (fn:=a49) rfl]
 have hl5:(ns .u64 [0,0,0,0,0]).length = 5:=rfl
 simp only [a49,J2,quiet,cF,↓pF,reduceCtorEq,Qc,Qp,Ja,X4,↓Z0,↓Zz,↓Jr,↓Ju,↓Js,↓Jt,cL,Qo,Qn,Q1,Q0,Qx,Qs,Qr,Qz,Qd,Q5,Q6,Qy,Qj,Qi,Qh,Qw,Qv,Qu,Qm,Ql,cJ,hz,hb,Qie,eV,hl5,K3,hlen]
 rfl
theorem Qif {V:Nat}:El (dig (2 ^ 51) 5 V) (2 ^ 52):=⟨Ku _ _ _,fun x hx => by have:=Bi (by decide) hx; omega⟩
theorem Qc9 {V:Nat}:v51 (dig (2 ^ 51) 5 (V % 2 ^ 255)) = V % 2 ^ 255:=by
 have h:=Uk (B:=2 ^ 51) (by decide) 5 (V % 2 ^ 255)
 rw [show ((2:Nat) ^ 51) ^ 5 = 2 ^ 255 from by rw [← Ye],Rx] at h
 exact h
theorem dm (a b:Nat):∃ r,a = b * (a / b) + r ∧ a % b = r ∧ (0 < b → r < b):=⟨a % b,(Vn a b).symm,rfl,fun h => Jn _ h⟩
theorem Qn5 {x0 x1 x2 x3 x4:Nat} (h0:x0 < 9223372036854775808) (h1:x1 < 9223372036854775808) (h2:x2 < 9223372036854775808) (h3:x3 < 9223372036854775808) (h4:x4 < 9223372036854775808) :
  ∃ y0 y1 y2 y3 y4 z0 z1 z2 z3 z4,He x0 x1 x2 x3 x4 = [y0,y1,y2,y3,y4] ∧ y0 < 9223372036854775808 ∧ y1 < 9223372036854775808 ∧ y2 < 9223372036854775808 ∧ y3 < 9223372036854775808 ∧ y4 < 9223372036854775808 ∧
   He y0 y1 y2 y3 y4 = [z0,z1,z2,z3,z4] ∧ z0 < 2251799813685248 + 19 ∧ z1 < 2251799813685248 ∧ z2 < 2251799813685248 ∧ z3 < 2251799813685248 ∧ z4 < 2251799813685248 ∧ (∃ k,v51 [z0,z1,z2,z3,z4] + k * Go.Fp.P = v51 [x0,x1,x2,x3,x4]):=by
 have key:∀ y0 y1 y2 y3 y4:Nat,y0 < 2251799813685248 + 19 * 8192 → y1 < 2251799813685248 → y2 < 2251799813685248 → y3 < 2251799813685248 → y4 < 2251799813685248 → He x0 x1 x2 x3 x4 = [y0,y1,y2,y3,y4] →
   ∃ z0 z1 z2 z3 z4,He y0 y1 y2 y3 y4 = [z0,z1,z2,z3,z4] ∧ z0 < 2251799813685248 + 19 ∧ z1 < 2251799813685248 ∧ z2 < 2251799813685248 ∧ z3 < 2251799813685248 ∧ z4 < 2251799813685248 ∧ (∃ k,v51 [z0,z1,z2,z3,z4] + k * Go.Fp.P = v51 [x0,x1,x2,x3,x4]):=by
  intro y0 y1 y2 y3 y4 b0 b1 b2 b3 b4 hy
  refine ⟨_,_,_,_,_,rfl,?_,Jn _ (by decide),Jn _ (by decide),Jn _ (by decide),Jn _ (by decide),?_⟩
  ·have c0:y0 / 2251799813685248 ≤ 1:=by omega
   have c1:(y1 + y0 / 2251799813685248) / 2251799813685248 ≤ 1:=by omega
   have c2:(y2 + (y1 + y0 / 2251799813685248) / 2251799813685248) / 2251799813685248 ≤ 1:=by omega
   have c3:(y3 + (y2 + (y1 + y0 / 2251799813685248) / 2251799813685248) / 2251799813685248) / 2251799813685248 ≤ 1:=by omega
   generalize (y3 + (y2 + (y1 + y0 / 2251799813685248) / 2251799813685248) / 2251799813685248) / 2251799813685248 = c at *
   rcases Vr y0 2251799813685248 with h | h
   ·
    have d0:y0 / 2251799813685248 = 0:=by omega
    have c4:(y4 + c) / 2251799813685248 ≤ 1:=by omega
    have:=Jn y0 (by decide:0 < 2251799813685248)
    omega
   ·have c4:(y4 + c) / 2251799813685248 ≤ 1:=by omega
    have:=Jn y0 (by decide:0 < 2251799813685248)
    omega
  ·obtain ⟨k1,e1⟩:=Qae (x0:=y0) (x1:=y1) (x2:=y2) (x3:=y3) (x4:=y4)
   obtain ⟨k2,e2⟩:=Qae (x0:=x0) (x1:=x1) (x2:=x2) (x3:=x3) (x4:=x4)
   rw [hy] at e2
   refine ⟨k1 + k2,?_⟩
   rw [Kr,← Kk,← e2,← e1]
   rfl
 have c0:x0 / 2251799813685248 < 8192:=by omega
 have c1:(x1 + x0 / 2251799813685248) / 2251799813685248 < 8192:=by omega
 have c2:(x2 + (x1 + x0 / 2251799813685248) / 2251799813685248) / 2251799813685248 < 8192:=by omega
 have c3:(x3 + (x2 + (x1 + x0 / 2251799813685248) / 2251799813685248) / 2251799813685248) / 2251799813685248 < 8192:=by omega
 have c4:(x4 + (x3 + (x2 + (x1 + x0 / 2251799813685248) / 2251799813685248) / 2251799813685248) / 2251799813685248) / 2251799813685248 < 8192:=by omega
 have m0:=Jn x0 (by decide:0 < 2251799813685248)
 have m1:=Jn (x1 + x0 / 2251799813685248) (by decide:0 < 2251799813685248)
 have m2:=Jn (x2 + (x1 + x0 / 2251799813685248) / 2251799813685248) (by decide:0 < 2251799813685248)
 have m3:=Jn (x3 + (x2 + (x1 + x0 / 2251799813685248) / 2251799813685248) / 2251799813685248) (by decide:0 < 2251799813685248)
 have m4:=Jn (x4 + (x3 + (x2 + (x1 + x0 / 2251799813685248) / 2251799813685248) / 2251799813685248) / 2251799813685248) (by decide:0 < 2251799813685248)
 obtain ⟨z0,z1,z2,z3,z4,g1,g2⟩:=key _ _ _ _ _ (by
  generalize (x4 + (x3 + (x2 + (x1 + x0 / 2251799813685248) / 2251799813685248) / 2251799813685248) / 2251799813685248) / 2251799813685248 = c at *
  generalize x0 % 2251799813685248 = r at *
  show r + 19 * c < _
  omega) m1 m2 m3 m4 rfl
 refine ⟨_,_,_,_,_,z0,z1,z2,z3,z4,rfl,?_,Uy m1 (by decide),Uy m2 (by decide),Uy m3 (by decide),Uy m4 (by decide),g1,g2⟩
 generalize (x4 + (x3 + (x2 + (x1 + x0 / 2251799813685248) / 2251799813685248) / 2251799813685248) / 2251799813685248) / 2251799813685248 = c at *
 generalize x0 % 2251799813685248 = r at *
 show r + 19 * c < _
 omega
def Qfz (z0 z1 z2 z3 z4:Nat):Nat:=(z4 + (z3 + (z2 + (z1 + (z0 + 19) / 2251799813685248) / 2251799813685248) / 2251799813685248) / 2251799813685248) / 2251799813685248
def Qnu (z0 z1 z2 z3 z4:Nat):List Nat :=
 let u0:=z0 / 2251799813685248
 let u1:=(z1 + u0) / 2251799813685248
 let u2:=(z2 + u1) / 2251799813685248
 let u3:=(z3 + u2) / 2251799813685248
 [z0 % 2251799813685248,(z1 + u0) % 2251799813685248,(z2 + u1) % 2251799813685248,(z3 + u2) % 2251799813685248,(z4 + u3) % 2251799813685248]
theorem Qt5 {z0 z1 z2 z3 z4:Nat} (h0:z0 < 2251799813685248 + 19) (h1:z1 < 2251799813685248) (h2:z2 < 2251799813685248) (h3:z3 < 2251799813685248) (h4:z4 < 2251799813685248) :
  Qfz z0 z1 z2 z3 z4 ≤ 1 ∧ Qnu (z0 + 19 * Qfz z0 z1 z2 z3 z4) z1 z2 z3 z4 = dig (2 ^ 51) 5 (v51 [z0,z1,z2,z3,z4] % Go.Fp.P):=by
 have hc:Qfz z0 z1 z2 z3 z4 ≤ 1 ∧ ((Qfz z0 z1 z2 z3 z4 = 0 ∧ v51 [z0,z1,z2,z3,z4] < Go.Fp.P) ∨ (Qfz z0 z1 z2 z3 z4 = 1 ∧ Go.Fp.P ≤ v51 [z0,z1,z2,z3,z4])):=by
  simp only [Qfz,v51,num,Go.Fp.Rd]
  obtain ⟨r0,e0,-,l0⟩:=dm (z0 + 19) 2251799813685248
  generalize (z0 + 19) / 2251799813685248 = t0 at *
  obtain ⟨r1,e1,-,l1⟩:=dm (z1 + t0) 2251799813685248
  generalize (z1 + t0) / 2251799813685248 = t1 at *
  obtain ⟨r2,e2,-,l2⟩:=dm (z2 + t1) 2251799813685248
  generalize (z2 + t1) / 2251799813685248 = t2 at *
  obtain ⟨r3,e3,-,l3⟩:=dm (z3 + t2) 2251799813685248
  generalize (z3 + t2) / 2251799813685248 = t3 at *
  obtain ⟨r4,e4,-,l4⟩:=dm (z4 + t3) 2251799813685248
  generalize (z4 + t3) / 2251799813685248 = t4 at *
  have l0:=l0 (by decide)
  have l1:=l1 (by decide)
  have l2:=l2 (by decide)
  have l3:=l3 (by decide)
  have l4:=l4 (by decide)
  omega
 have hP:=Go.Fp.Rd
 obtain ⟨hc1,hc2⟩:=hc
 refine ⟨hc1,?_⟩
 generalize Qfz z0 z1 z2 z3 z4 = c at *
 have hlt:∀ x ∈ Qnu (z0 + 19 * c) z1 z2 z3 z4,x < 2251799813685248:=by
  intro x hx
  simp only [Qnu,Wm,Ws,or_false] at hx
  rcases hx with h | h | h | h | h <;> (rw [h]; exact Jn _ (by decide))
 have hnum:num 2251799813685248 (Qnu (z0 + 19 * c) z1 z2 z3 z4) = v51 [z0,z1,z2,z3,z4] % Go.Fp.P:=by
  have hV:v51 [z0,z1,z2,z3,z4] % Go.Fp.P = v51 [z0,z1,z2,z3,z4] - c * Go.Fp.P:=by
   rcases hc2 with ⟨g1,g2⟩ | ⟨g1,g2⟩
   ·rw [Z6 g2,g1]; omega
   ·have g3:v51 [z0,z1,z2,z3,z4] < Go.Fp.P + Go.Fp.P:=by
     simp only [v51,num,Go.Fp.Rd] at *
     omega
    rw [g1,Wr,Nat.mod_eq_sub_mod g2,Z6 (by omega)]
  rw [hV]
  simp only [Qnu,v51,num,Go.Fp.Rd] at hc2 ⊢
  obtain ⟨r0,e0,f0,l0⟩:=dm (z0 + 19 * c) 2251799813685248
  rw [f0]
  generalize (z0 + 19 * c) / 2251799813685248 = t0 at *
  obtain ⟨r1,e1,f1,l1⟩:=dm (z1 + t0) 2251799813685248
  rw [f1]
  generalize (z1 + t0) / 2251799813685248 = t1 at *
  obtain ⟨r2,e2,f2,l2⟩:=dm (z2 + t1) 2251799813685248
  rw [f2]
  generalize (z2 + t1) / 2251799813685248 = t2 at *
  obtain ⟨r3,e3,f3,l3⟩:=dm (z3 + t2) 2251799813685248
  rw [f3]
  generalize (z3 + t2) / 2251799813685248 = t3 at *
  obtain ⟨r4,e4,f4,l4⟩:=dm (z4 + t3) 2251799813685248
  rw [f4]
  generalize (z4 + t3) / 2251799813685248 = t4 at *
  have l0:=l0 (by decide)
  have l1:=l1 (by decide)
  have l2:=l2 (by decide)
  have l3:=l3 (by decide)
  have l4:=l4 (by decide)
  rcases hc2 with ⟨g1,g2⟩ | ⟨g1,g2⟩ <;> subst g1 <;> omega
 have h5:=Mc (B:=2251799813685248) (by decide) hlt
 rw [hnum] at h5
 exact h5.symm
def byX (V i:Nat):List Nat:=dig (2 ^ 8) 32 (V % 2 ^ i)
def Qgz (x k:List Nat) (R:Ob) (i:Nat) (ex:Env):St:=⟨[(1,.pointer (some ⟨0,0,none⟩)),(2,.pointer (some ⟨1,0,none⟩)),(6,.pointer (some ⟨2,0,none⟩)),(54,.int .i64 i)] ++ ex,[⟨ns .u64 x,true,true,true,1⟩,R,⟨u8s k,true,true,true,1⟩],[]⟩
theorem Qrl {V:Nat} {R:Ob} {i:Nat} (hi:i < 255) :
  Xa T 0 Qbk (Qgz (dig (2 ^ 51) 5 V) (byX V i) R i []) = some (.normal,Qgz (dig (2 ^ 51) 5 V) (byX V (i + 1)) R (i + 1) []):=by
 obtain ⟨b,hb⟩:∃ b,(dig (2 ^ 51) 5 V)[i / 51]? = some b:=⟨_,Qq (by rw [Ku]; omega)⟩
 have hbv:V / (2 ^ 51) ^ (i / 51) % 2 ^ 51 = b:=by rw [Bz (by omega)] at hb; exact Dw hb
 have hbc:=U8 (k := .u64) hb
 have hlen:(byX V i).length = 32:=Ku _ _ _
 obtain ⟨y,hy⟩:∃ b,(byX V i)[i / 8]? = some b:=⟨_,Qq (by omega)⟩
 have hyc:=Ud hy
 have hy':y < 2 ^ 8:=Bi (by decide) (Zt hy)
 have hbit:b / 2 ^ (i % 51) % 2 = V / 2 ^ i % 2:=by
  rw [← hbv,Qma (Jn _ (by decide)),Vn]
 have hsm:(2:Nat) ^ (i % 8) ≤ 2 ^ 7:=Kx (by decide) (by have:=Jn i (by decide:0 < 8); omega)
 have hbl:=Qdw V i
 have hprod:V / 2 ^ i % 2 * 2 ^ (i % 8) ≤ 1 * 2 ^ 7:=Yr (by omega) hsm
 have hput:=Qci (w:=8) (m:=32) (q:=i / 8) (s:=i % 8) (y:=V / 2 ^ i % 2) (M:=V % 2 ^ i) (by omega) (Jn _ (by decide)) (by rw [Vn]; exact Jn _ (Y9 (by decide))) (by omega)
 rw [Vn,Qja] at hput
 have hgd:(dig (2 ^ 8) 32 (V % 2 ^ i)).getD (i / 8) 0 = y:=by rw [Jp]; unfold byX at hy; rw [hy]; rfl
 rw [hgd] at hput
 have hset:=Gp (byX V i) (i / 8) (y ||| V / 2 ^ i % 2 * 2 ^ (i % 8))
 rw [show (byX V i).set (i / 8) (y ||| V / 2 ^ i % 2 * 2 ^ (i % 8)) = byX V (i + 1) from hput] at hset
 have s1:(2:Int) ^ min (i % 8) IntKind.u8.bits = ((2 ^ (i % 8):Nat):Int):=D7 (W2 (Jn _ (by decide)))
 have s2:(2:Int) ^ min (i % 51) IntKind.u64.bits = ((2 ^ (i % 51):Nat):Int):=D7 (by have:=Jn i (by decide:0 < 51); exact Un (W2 this) (by decide))
 have o1:Vj .or .u8 (y:Int) ((V / 2 ^ i % 2 * 2 ^ (i % 8):Nat):Int) = ((y ||| V / 2 ^ i % 2 * 2 ^ (i % 8):Nat):Int):=B0 rfl (by show _ < 256; omega) (by show _ < 256; omega)
 have n1:(V / 2 ^ i % 2 * 2 ^ (i % 8)) % 256 = V / 2 ^ i % 2 * 2 ^ (i % 8):=by omega
 have n2:(V / 2 ^ i % 2) % 256 = V / 2 ^ i % 2:=by omega
 have w1:IntKind.i64.wrap ((i / 51:Nat):Int) = ((i / 51:Nat):Int):=Vt (by omega)
 have w2:IntKind.i64.wrap ((i / 8:Nat):Int) = ((i / 8:Nat):Int):=Vt (by omega)
 have w3:IntKind.i64.wrap ((i + 1:Nat):Int) = ((i + 1:Nat):Int):=Vt (by omega)
 have e1:((i:Int) < 255) = True:=eq_true (by omega)
 have e2:(((i / 51:Nat):Int) < 5) = True:=eq_true (by omega)
 have e3:(((i / 8:Nat):Int) < 32) = True:=eq_true (by omega)
 have e4:(((i % 8:Nat):Int) < 0) = False:=eq_false (by omega)
 have e5:(((i % 51:Nat):Int) < 0) = False:=eq_false (by omega)
 have e6:i / 8 + 1 ≤ 32:=by omega
 simp only [Qgz,Qbk,J2,quiet,cF,↓pF,reduceCtorEq,Qc,Qp,Ja,X4,↓Z0,↓Zz,↓Jr,↓Ju,↓Js,↓Jt,cL,Qo,Qn,Q1,Q0,Qx,Qs,Qr,Qz,Qd,Q5,Q6,Qy,Qj,Qi,Qh,Qw,Qv,Qu,Qm,Ql,cJ,cU,hbc,hyc,hbit,s1,s2,o1,n1,n2,w1,w2,w3,e1,e2,e3,e4,e5,e6,hset,Ky,hlen]
theorem Qn8 {V:Nat} {R:Ob} (hV:V < 2 ^ 255):Xa T 0 (.block 4 (.loop Qbk)) (Qgz (dig (2 ^ 51) 5 V) (dig 256 32 0) R 0 []) = some (.normal,Qgz (dig (2 ^ 51) 5 V) (dig 256 32 V) R 255 [(55,.bool false)]):=by
 have hb:=Bc (T:=T) (base:=0) (id:=4) (body:=Qbk) (fun i => Qgz (dig (2 ^ 51) 5 V) (byX V i) R i []) (s':=Qgz (dig (2 ^ 51) 5 V) (byX V 255) R 255 [(55,.bool false)]) 255 (fun i hi => Qrl hi) (by
  simp only [Qgz,Qbk,J2,quiet,cF,↓pF,reduceCtorEq,Qc,Qp,Ja,X4,↓Z0,↓Zz,↓Jr,↓Ju,↓Js,↓Jt,cL,Qo,Qn,Q1,Q0,Qx,Qs,Qr,Qz,Qd,Q5,Q6,Qy,Qj,Qi,Qh,Qw,Qv,Qu,Qm,Ql])
 rw [show byX V 0 = dig 256 32 0 from by unfold byX; rw [Wn,Qyf],show byX V 255 = dig 256 32 V from by unfold byX; rw [Z6 hV]] at hb
 exact hb
theorem Qn7 {x0 x1 x2 x3 x4:Nat} (h0:x0 < 9223372036854775808) (h1:x1 < 9223372036854775808) (h2:x2 < 9223372036854775808) (h3:x3 < 9223372036854775808) (h4:x4 < 9223372036854775808) :
  V7 T 35 [eV [x0,x1,x2,x3,x4]] = some (.agg (u8s (dig 256 32 (v51 [x0,x1,x2,x3,x4] % Go.Fp.P))).toArray):=by
 obtain ⟨y0,y1,y2,y3,y4,z0,z1,z2,z3,z4,hy,a0,a1,a2,a3,a4,hz,b0,b1,b2,b3,b4,⟨kk,hk⟩⟩:=Qn5 h0 h1 h2 h3 h4
 have hV:v51 [x0,x1,x2,x3,x4] % Go.Fp.P = v51 [z0,z1,z2,z3,z4] % Go.Fp.P:=by rw [← hk,Br]
 obtain ⟨hc,hfin⟩:=Qt5 b0 b1 b2 b3 b4
 have c1:=Du h0 h1 h2 h3 h4
 have c2:=Du a0 a1 a2 a3 a4
 rw [hy] at c1
 rw [hz] at c2
 have hN:v51 [z0,z1,z2,z3,z4] % Go.Fp.P < 2 ^ 255:=Uy (Jn _ (by decide)) (by rw [Go.Fp.Rd]; decide)
 have hb:=Qn8 (R:=⟨u8s (dig 256 32 0),true,true,true,1⟩) hN
 rw [hV]
 generalize v51 [z0,z1,z2,z3,z4] % Go.Fp.P = N at *
 have hz5:Qb 5 (Value.int .u64 0) = [.int .u64 0,.int .u64 0,.int .u64 0,.int .u64 0,.int .u64 0]:=rfl
 have hz32:Qb 32 (Value.int .u8 0) = u8s (dig 256 32 0):=rfl
 have hr5:∀ a b c d e:Int,rf (.agg [.int .u64 a,.int .u64 b,.int .u64 c,.int .u64 d,.int .u64 e].toArray) = true:=fun _ _ _ _ _ => rfl
 have hlk:(dig 256 32 N).length = 32:=Ku _ _ _
 have hl0:(dig 256 32 0).length = 32:=rfl
 have f0:(z0 + 19) % 18446744073709551616 = z0 + 19:=by omega
 have f1:(z1 + (z0 + 19) / 2251799813685248) % 18446744073709551616 = z1 + (z0 + 19) / 2251799813685248:=by omega
 have f2:(z2 + (z1 + (z0 + 19) / 2251799813685248) / 2251799813685248) % 18446744073709551616 = z2 + (z1 + (z0 + 19) / 2251799813685248) / 2251799813685248:=by
  generalize (z1 + (z0 + 19) / 2251799813685248) = t at *; omega
 have f3:(z3 + (z2 + (z1 + (z0 + 19) / 2251799813685248) / 2251799813685248) / 2251799813685248) % 18446744073709551616 = z3 + (z2 + (z1 + (z0 + 19) / 2251799813685248) / 2251799813685248) / 2251799813685248:=by
  have:(z2 + (z1 + (z0 + 19) / 2251799813685248) / 2251799813685248) / 2251799813685248 < 2251799813685248:=by omega
  generalize (z2 + (z1 + (z0 + 19) / 2251799813685248) / 2251799813685248) / 2251799813685248 = t at *; omega
 have f4:(z4 + (z3 + (z2 + (z1 + (z0 + 19) / 2251799813685248) / 2251799813685248) / 2251799813685248) / 2251799813685248) % 18446744073709551616 = z4 + (z3 + (z2 + (z1 + (z0 + 19) / 2251799813685248) / 2251799813685248) / 2251799813685248) / 2251799813685248:=by
  have:(z2 + (z1 + (z0 + 19) / 2251799813685248) / 2251799813685248) / 2251799813685248 < 2251799813685248:=by omega
  generalize (z2 + (z1 + (z0 + 19) / 2251799813685248) / 2251799813685248) / 2251799813685248 = t at *; omega
 have ft:(z4 + (z3 + (z2 + (z1 + (z0 + 19) / 2251799813685248) / 2251799813685248) / 2251799813685248) / 2251799813685248) / 2251799813685248 = Qfz z0 z1 z2 z3 z4:=rfl
 generalize Qfz z0 z1 z2 z3 z4 = c at *
 have g0:19 * c % 18446744073709551616 = 19 * c:=by omega
 have g1:(z0 + 19 * c) % 18446744073709551616 = z0 + 19 * c:=by omega
 have g2:(z0 + 19 * c + 0) % 18446744073709551616 = z0 + 19 * c:=by omega
 have k0:(z0 + 19 * c) / 2251799813685248 < 8:=by omega
 have g3:(z1 + (z0 + 19 * c) / 2251799813685248) % 18446744073709551616 = z1 + (z0 + 19 * c) / 2251799813685248:=by omega
 have k1:(z1 + (z0 + 19 * c) / 2251799813685248) / 2251799813685248 < 8:=by omega
 have g4:(z2 + (z1 + (z0 + 19 * c) / 2251799813685248) / 2251799813685248) % 18446744073709551616 = z2 + (z1 + (z0 + 19 * c) / 2251799813685248) / 2251799813685248:=by
  generalize (z1 + (z0 + 19 * c) / 2251799813685248) / 2251799813685248 = t at *; omega
 have k2:(z2 + (z1 + (z0 + 19 * c) / 2251799813685248) / 2251799813685248) / 2251799813685248 < 8:=by
  generalize (z1 + (z0 + 19 * c) / 2251799813685248) / 2251799813685248 = t at *; omega
 have g5:(z3 + (z2 + (z1 + (z0 + 19 * c) / 2251799813685248) / 2251799813685248) / 2251799813685248) % 18446744073709551616 = z3 + (z2 + (z1 + (z0 + 19 * c) / 2251799813685248) / 2251799813685248) / 2251799813685248:=by
  generalize (z2 + (z1 + (z0 + 19 * c) / 2251799813685248) / 2251799813685248) / 2251799813685248 = t at *; omega
 have k3:(z3 + (z2 + (z1 + (z0 + 19 * c) / 2251799813685248) / 2251799813685248) / 2251799813685248) / 2251799813685248 < 8:=by
  generalize (z2 + (z1 + (z0 + 19 * c) / 2251799813685248) / 2251799813685248) / 2251799813685248 = t at *; omega
 have g6:(z4 + (z3 + (z2 + (z1 + (z0 + 19 * c) / 2251799813685248) / 2251799813685248) / 2251799813685248) / 2251799813685248) % 18446744073709551616 = z4 + (z3 + (z2 + (z1 + (z0 + 19 * c) / 2251799813685248) / 2251799813685248) / 2251799813685248) / 2251799813685248:=by
  generalize (z3 + (z2 + (z1 + (z0 + 19 * c) / 2251799813685248) / 2251799813685248) / 2251799813685248) / 2251799813685248 = t at *; omega
 rw [← hfin] at hb
 simp only [eV,Hs,Mz] at c1 c2 ⊢
 simp only [Qgz,Qnu,Hs,Mz,Q3,Q2,V9] at hb
 apply Vc
 apply J4
 rw [J3 (fn:=a57) rfl]
 have u0:=fun s => @Y8 T 0 Qd4 s
 have u1:=fun s => @Y8 T 0 Qd5 s
 have v0:=fun s => @Z7 T 0 0 (.loop Qd4) s
 have v1:=fun s => @Z7 T 0 2 (.loop Qd5) s
 have d0:∀ s,Xa T 0 Qd4 s = Xa T 0 _ s:=fun s => congrArg (fun c => Xa T 0 c s) Qd4.eq_1
 have d1:∀ s,Xa T 0 Qd5 s = Xa T 0 _ s:=fun s => congrArg (fun c => Xa T 0 c s) Qd5.eq_1
 simp only [a57,J2,quiet,cF,↓pF,reduceCtorEq,Qc,Qp,Ja,X4,↓Z0,↓Zz,↓Jr,↓Ju,↓Js,↓Jt,cL,Qo,Qn,Q1,Q0,Qx,Qs,Qr,Qz,Qd,Q5,Q6,Qy,Qj,Qi,Qh,Qw,Qv,Qu,Qm,Ql,cJ,cU,hz5,hz32,c1,c2,hr5,u0,u1,v0,v1,d0,d1,f0,f1,f2,f3,f4,ft,g0,g1,g2,g3,g4,g5,g6,hb,Ky,hlk,hl0]
 rfl
theorem key_inj {a b:Nat} (ha:a < 256 ^ 32) (hb:b < 256 ^ 32):(dig 256 32 a == dig 256 32 b) = decide (a = b):=by
 by_cases h:a = b
 ·subst h; simp
 ·have:¬ dig 256 32 a = dig 256 32 b:=fun he => h (by
   have h1:=congrArg (num 256) he
   rwa [Uk (by decide),Uk (by decide),Z6 ha,Z6 hb] at h1)
  rw [decide_eq_false h,beq_eq_false_iff_ne.2 this]
theorem P_lt:Go.Fp.P < 256 ^ 32:=by rw [Go.Fp.Rd]; decide
theorem Qx4 (l:List Nat):(fe l).val = v51 l % Go.Fp.P:=rfl
theorem Rs {l:List Nat} (h:El l (2 ^ 52)):V7 T 35 [eV l] = some (.agg (u8s (dig 256 32 (fe l).val)).toArray):=by
 obtain ⟨x0,x1,x2,x3,x4,rfl,a0,a1,a2,a3,a4⟩:=h.five
 exact Qn7 (by omega) (by omega) (by omega) (by omega) (by omega)
theorem Qv1 (a:Go.Fp.Fe):a.val < 256 ^ 32:=Uy a.isLt P_lt
theorem Qq7 (a b:Go.Fp.Fe):(dig 256 32 a.val == dig 256 32 b.val) = decide (a = b):=by
 rw [key_inj (Qv1 a) (Qv1 b)]
 by_cases h:a = b
 ·subst h; simp
 ·have:¬ a.val = b.val:=fun he => h (Fin.ext he)
  rw [decide_eq_false h,decide_eq_false this]
theorem Kv (l:List Nat):(eV l).cells.toList = ns .u64 l:=rfl
theorem Vf (l:List Nat):(eV l).cells.size = l.length:=K3 _ _
theorem Yq (l:List Nat):Vu (eV l) = true:=rfl
theorem Vg (l:List Nat):Value.agg (ns .u64 l).toArray = eV l:=rfl
theorem Qua {x y:List Nat} (hx:El x (2 ^ 52)) (hy:El y (2 ^ 52)):V7 T 65 [eV x,eV y] = some (.bool (decide (fe x = fe y))):=by
 have h1:=Rs hx
 have h2:=Rs hy
 have l1:=hx.len
 have l2:=hy.len
 apply Vc
 apply J4
 rw [J3 (fn:=a55) rfl]
 simp only [a55,J2,quiet,cF,↓pF,reduceCtorEq,Qc,Qp,Ja,X4,↓Z0,↓Zz,↓Jr,↓Ju,↓Js,↓Jt,cL,Qo,Qn,Q1,Q0,Qx,Qs,Qr,Qz,Qd,Q5,Q6,Qy,Qj,Qi,Qh,Qw,Qv,Qu,Qm,Ql,cJ,Kv,Vf,Yq,Vg,K3,l1,l2,h1,h2,B4,Ku,Qq7,Yt]
 rfl
theorem Qqm {x:List Nat} (hx:El x (2 ^ 52)):V7 T 47 [eV x] = some (.bool (decide (fe x = 0))):=by
 have h1:=Rs hx
 have l1:=hx.len
 have f0:fillL (Qb 32 (Value.int .u8 0)) [] = some (u8s (dig 256 32 (0:Go.Fp.Fe).val)):=rfl
 apply Vc
 apply J4
 rw [J3 (fn:=a63) rfl]
 simp only [a63,J2,quiet,cF,↓pF,reduceCtorEq,Qc,Qp,Ja,X4,↓Z0,↓Zz,↓Jr,↓Ju,↓Js,↓Jt,cL,Qo,Qn,Q1,Q0,Qx,Qs,Qr,Qz,Qd,Q5,Q6,Qy,Qj,Qi,Qh,Qw,Qv,Qu,Qm,Ql,cJ,Kv,Vf,Yq,Vg,K3,l1,h1,f0,B4,Ku,Qq7,Yt]
 rfl
theorem Qqc {x:List Nat} (hx:El x (2 ^ 52)):V7 T 36 [eV x] = some (.bool (decide ((fe x).val % 2 = 1))):=by
 have h1:=Rs hx
 have l1:=hx.len
 have h0:(u8s (dig 256 32 (fe x).val))[0]? = some (.int .u8 (((fe x).val % 256:Nat):Int)):=by
  apply Ud
  rw [Bz (by decide),Wn,Uz]
 have hm:(fe x).val % 256 % 2 = (fe x).val % 2:=by omega
 have hd:((((fe x).val % 2:Nat):Int) == 1) = decide ((fe x).val % 2 = 1):=by
  by_cases h:(fe x).val % 2 = 1
  ·rw [h]; rfl
  ·have:¬ ((((fe x).val % 2:Nat):Int) = 1):=by omega
   rw [decide_eq_false h,beq_eq_false_iff_ne.2 this]
 apply Vc
 apply J4
 rw [J3 (fn:=a58) rfl]
 simp only [a58,J2,quiet,cF,↓pF,reduceCtorEq,Qc,Qp,Ja,X4,↓Z0,↓Zz,↓Jr,↓Ju,↓Js,↓Jt,cL,Qo,Qn,Q1,Q0,Qx,Qs,Qr,Qz,Qd,Q5,Q6,Qy,Qj,Qi,Qh,Qw,Qv,Qu,Qm,Ql,cJ,cU,Kv,Vf,Yq,Vg,K3,l1,h1,h0,hm,hd,Ky,Ku,Yt]
 rfl
theorem Qi7 {k:List Nat} (lk:k.length = 32) (xk:∀ x ∈ k,x < 256):V7 T 43 [.agg (u8s k).toArray] = some (.bool (decide (num 256 k < Go.Fp.P))):=by
 have h0:=Qqb lk xk
 have hel:=Qif (V:=num 256 k % 2 ^ 255)
 have h1:=Rs hel
 rw [Qx4,Qc9] at h1
 have hb:(dig 256 32 (num 256 k % 2 ^ 255 % Go.Fp.P) == k) = decide (num 256 k < Go.Fp.P):=by
  have hk:=Mc (B:=256) (by decide) xk
  rw [lk] at hk
  have hkl:=num_lt xk
  rw [lk] at hkl
  rw [show (dig 256 32 (num 256 k % 2 ^ 255 % Go.Fp.P) == k) = (dig 256 32 (num 256 k % 2 ^ 255 % Go.Fp.P) == dig 256 32 (num 256 k)) from by rw [hk]]
  have hP:=Go.Fp.Rd
  rw [key_inj (Uy (Jn _ (by rw [hP]; decide)) P_lt) hkl]
  by_cases h:num 256 k < Go.Fp.P
  ·rw [decide_eq_true h,Z6 (a:=num 256 k) (by rw [hP] at h; omega),Z6 h]; simp
  ·rw [decide_eq_false h,decide_eq_false]
   have:=Jn (num 256 k % 2 ^ 255) (show 0 < Go.Fp.P by rw [hP]; decide)
   omega
 apply Vc
 apply J4
 rw [J3 (fn:=a59) rfl]
 simp only [a59,J2,quiet,cF,↓pF,reduceCtorEq,Qc,Qp,Ja,X4,↓Z0,↓Zz,↓Jr,↓Ju,↓Js,↓Jt,cL,Qo,Qn,Q1,Q0,Qx,Qs,Qr,Qz,Qd,Q5,Q6,Qy,Qj,Qi,Qh,Qw,Qv,Qu,Qm,Ql,cJ,Kv,Vf,Yq,Vg,K3,Ky,lk,h0,h1,B4,Ku,hb,Yt]
 rfl
end Go.Ev.Ytgacigcbglflkaa
set_option linter.unusedSimpArgs false
set_option linter.unusedVariables false
namespace Go.Ev.Ytgacigcbglflkaa
open Go Go.Ev
attribute [local congr] Um Uw Uj Ux W1
set_option maxRecDepth 100000
theorem Ql9 {x0 x1 x2 x3 x4:Nat} (h0:x0 < 2 ^ 60) (h1:x1 < 2 ^ 60) (h2:x2 < 2 ^ 60) (h3:x3 < 2 ^ 60) (h4:x4 < 2 ^ 60):El (He x0 x1 x2 x3 x4) (2 ^ 52):=by
 simp only [He]
 have c0:x0 / 2251799813685248 < 1024:=by omega
 have c1:(x1 + x0 / 2251799813685248) / 2251799813685248 < 1024:=by omega
 have c2:(x2 + (x1 + x0 / 2251799813685248) / 2251799813685248) / 2251799813685248 < 1024:=by omega
 have c3:(x3 + (x2 + (x1 + x0 / 2251799813685248) / 2251799813685248) / 2251799813685248) / 2251799813685248 < 1024:=by omega
 have c4:(x4 + (x3 + (x2 + (x1 + x0 / 2251799813685248) / 2251799813685248) / 2251799813685248) / 2251799813685248) / 2251799813685248 < 1024:=by omega
 have m0:=Jn x0 (by decide:0 < 2251799813685248)
 apply El.mk5
 ·generalize (x4 + (x3 + (x2 + (x1 + x0 / 2251799813685248) / 2251799813685248) / 2251799813685248) / 2251799813685248) / 2251799813685248 = c at *
  omega
 all_goals exact Uy (Jn _ (by decide)) (by decide)
theorem Ql8 {x0 x1 x2 x3 x4:Nat}:fe (He x0 x1 x2 x3 x4) = fe [x0,x1,x2,x3,x4]:=by
 obtain ⟨k,hk⟩:=Qae (x0:=x0) (x1:=x1) (x2:=x2) (x3:=x3) (x4:=x4)
 exact Qv0 hk
theorem Qbo {x y:List Nat} (hx:El x (2 ^ 52)) (hy:El y (2 ^ 52)):∃ r,V7 T 45 [eV x,eV y] = some (eV r) ∧ El r (2 ^ 52) ∧ fe r = fe x - fe y:=by
 obtain ⟨x0,x1,x2,x3,x4,rfl,a0,a1,a2,a3,a4⟩:=hx.five
 obtain ⟨y0,y1,y2,y3,y4,rfl,b0,b1,b2,b3,b4⟩:=hy.five
 refine ⟨He (x0 + (9007199254740988 - y0) - 72) (x1 + (9007199254740988 - y1)) (x2 + (9007199254740988 - y2)) (x3 + (9007199254740988 - y3)) (x4 + (9007199254740988 - y4)),?_,Ql9 (by omega) (by omega) (by omega) (by omega) (by omega),?_⟩
 ·have s0:(9007199254740988 + (18446744073709551616 - y0 % 18446744073709551616)) % 18446744073709551616 = 9007199254740988 - y0:=by omega
  have s1:(9007199254740988 + (18446744073709551616 - y1 % 18446744073709551616)) % 18446744073709551616 = 9007199254740988 - y1:=by omega
  have s2:(9007199254740988 + (18446744073709551616 - y2 % 18446744073709551616)) % 18446744073709551616 = 9007199254740988 - y2:=by omega
  have s3:(9007199254740988 + (18446744073709551616 - y3 % 18446744073709551616)) % 18446744073709551616 = 9007199254740988 - y3:=by omega
  have s4:(9007199254740988 + (18446744073709551616 - y4 % 18446744073709551616)) % 18446744073709551616 = 9007199254740988 - y4:=by omega
  have t0:(x0 + (9007199254740988 - y0)) % 18446744073709551616 = x0 + (9007199254740988 - y0):=by omega
  have t1:(x1 + (9007199254740988 - y1)) % 18446744073709551616 = x1 + (9007199254740988 - y1):=by omega
  have t2:(x2 + (9007199254740988 - y2)) % 18446744073709551616 = x2 + (9007199254740988 - y2):=by omega
  have t3:(x3 + (9007199254740988 - y3)) % 18446744073709551616 = x3 + (9007199254740988 - y3):=by omega
  have t4:(x4 + (9007199254740988 - y4)) % 18446744073709551616 = x4 + (9007199254740988 - y4):=by omega
  have r0:(x0 + (9007199254740988 - y0) + 18446744073709551544) % 18446744073709551616 = x0 + (9007199254740988 - y0) - 72:=by omega
  have c1:=Du (x0:=x0 + (9007199254740988 - y0) - 72) (x1:=x1 + (9007199254740988 - y1)) (x2:=x2 + (9007199254740988 - y2)) (x3:=x3 + (9007199254740988 - y3)) (x4:=x4 + (9007199254740988 - y4)) (by omega) (by omega) (by omega) (by omega) (by omega)
  have hl:(He (x0 + (9007199254740988 - y0) - 72) (x1 + (9007199254740988 - y1)) (x2 + (9007199254740988 - y2)) (x3 + (9007199254740988 - y3)) (x4 + (9007199254740988 - y4))).length = 5:=rfl
  generalize He (x0 + (9007199254740988 - y0) - 72) (x1 + (9007199254740988 - y1)) (x2 + (9007199254740988 - y2)) (x3 + (9007199254740988 - y3)) (x4 + (9007199254740988 - y4)) = C at *
  have hz5:Qb 5 (Value.int .u64 0) = [.int .u64 0,.int .u64 0,.int .u64 0,.int .u64 0,.int .u64 0]:=rfl
  have hr5:∀ a b c d e:Int,rf (.agg [.int .u64 a,.int .u64 b,.int .u64 c,.int .u64 d,.int .u64 e].toArray) = true:=fun _ _ _ _ _ => rfl
  have u0:=fun s => @Y8 T 0 Qd3 s
  have v0:=fun s => @Z7 T 0 0 (.loop Qd3) s
  have d0:∀ s,Xa T 0 Qd3 s = Xa T 0 _ s:=fun s => congrArg (fun c => Xa T 0 c s) Qd3.eq_1
  have hrC:rf (.agg (ns .u64 C).toArray) = true:=Qlm _ _
  simp only [eV,Hs,Mz] at c1 ⊢
  apply Vc
  apply J4
  rw [J3 (fn:=a61) rfl]
  simp only [a61,J2,quiet,cF,↓pF,reduceCtorEq,Qc,Qp,Ja,X4,↓Z0,↓Zz,↓Jr,↓Ju,↓Js,↓Jt,cL,Qo,Qn,Q1,Q0,Qx,Qs,Qr,Qz,Qd,Q5,Q6,Qy,Qj,Qi,Qh,Qw,Qv,Qu,Qm,Ql,cJ,cU,hz5,c1,hr5,u0,v0,d0,s0,s1,s2,s3,s4,t0,t1,t2,t3,t4,r0,K3,hl,hrC]
  rfl
 ·rw [Ql8]
  have e:v51 [x0 + (9007199254740988 - y0) - 72,x1 + (9007199254740988 - y1),x2 + (9007199254740988 - y2),x3 + (9007199254740988 - y3),x4 + (9007199254740988 - y4)] + v51 [y0,y1,y2,y3,y4] = v51 [x0,x1,x2,x3,x4] + 4 * Go.Fp.P:=by
   simp only [v51,num,Go.Fp.Rd]
   omega
  have h:=congrArg Go.Fp.fp e
  rw [Go.Fp.Bm,Go.Fp.Bm,Go.Fp.Ql2] at h
  unfold fe
  grobner
theorem Qfj {x:List Nat} (hx:El x (2 ^ 52)):∃ r,V7 T 48 [eV x] = some (eV r) ∧ El r (2 ^ 52) ∧ fe r = -fe x:=by
 have hz:=Tv (n:=0) (by decide)
 obtain ⟨r,h1,h2,h3⟩:=Qbo hz hx
 refine ⟨r,?_,h2,?_⟩
 ·have f0:fillL (ns .u64 [0,0,0,0,0]) [] = some (ns .u64 [0,0,0,0,0]):=rfl
  have hz5:Qb 5 (Value.int .u64 0) = ns .u64 [0,0,0,0,0]:=rfl
  have l1:=hx.len
  have l2:=h2.len
  have l0:(ns .u64 [0,0,0,0,0]).length = 5:=rfl
  apply Vc
  apply J4
  rw [J3 (fn:=a64) rfl]
  simp only [a64,J2,quiet,cF,↓pF,reduceCtorEq,Qc,Qp,Ja,X4,↓Z0,↓Zz,↓Jr,↓Ju,↓Js,↓Jt,cL,Qo,Qn,Q1,Q0,Qx,Qs,Qr,Qz,Qd,Q5,Q6,Qy,Qj,Qi,Qh,Qw,Qv,Qu,Qm,Ql,cJ,f0,hz5,h1,Kv,Vf,Yq,Vg,K3,l0,l1,l2,Yt]
  rfl
 ·rw [h3,Tu,Go.Fp.Qt4]; grobner
def Qjs (x y:List Nat):Ob:=⟨ns .u64 (x ++ y),true,true,true,1⟩
set_option maxHeartbeats 2000000 in
theorem H4 {H:List Ob} {id:Nat} {x y:List Nat} (hx:El x (2 ^ 52)) (hy:El y (2 ^ 52)) (h:H[id]? = some (Qjs x y)):∃ r s,Vl T 46 [.slice (some ⟨id,0,none⟩) 2 2] H = some (eV r,H ++ [⟨ns .u64 r,true,true,true,1⟩,⟨ns .u64 s,true,true,true,1⟩,⟨ns .u64 x,true,true,true,1⟩,⟨ns .u64 y,true,true,true,1⟩],[]) ∧ El r (2 ^ 52) ∧ fe r = fe x + fe y:=by
 have hid:id < H.length:=(Qt.1 h).1
 have hA:∀ l,(H ++ l)[id]? = some (Qjs x y):=fun l => by rw [Qe hid]; exact h
 obtain ⟨x0,x1,x2,x3,x4,rfl,a0,a1,a2,a3,a4⟩:=hx.five
 obtain ⟨y0,y1,y2,y3,y4,rfl,b0,b1,b2,b3,b4⟩:=hy.five
 refine ⟨He (x0 + y0) (x1 + y1) (x2 + y2) (x3 + y3) (x4 + y4),[x0 + y0,x1 + y1,x2 + y2,x3 + y3,x4 + y4],?_,Ql9 (by omega) (by omega) (by omega) (by omega) (by omega),?_⟩
 ·have s0:(0 + x0) % 18446744073709551616 = x0:=by omega
  have s1:(0 + x1) % 18446744073709551616 = x1:=by omega
  have s2:(0 + x2) % 18446744073709551616 = x2:=by omega
  have s3:(0 + x3) % 18446744073709551616 = x3:=by omega
  have s4:(0 + x4) % 18446744073709551616 = x4:=by omega
  have q0:x0 % 18446744073709551616 = x0:=by omega
  have q1:x1 % 18446744073709551616 = x1:=by omega
  have q2:x2 % 18446744073709551616 = x2:=by omega
  have q3:x3 % 18446744073709551616 = x3:=by omega
  have q4:x4 % 18446744073709551616 = x4:=by omega
  have t0:(x0 + y0) % 18446744073709551616 = x0 + y0:=by omega
  have t1:(x1 + y1) % 18446744073709551616 = x1 + y1:=by omega
  have t2:(x2 + y2) % 18446744073709551616 = x2 + y2:=by omega
  have t3:(x3 + y3) % 18446744073709551616 = x3 + y3:=by omega
  have t4:(x4 + y4) % 18446744073709551616 = x4 + y4:=by omega
  have c1:=Du (x0:=x0 + y0) (x1:=x1 + y1) (x2:=x2 + y2) (x3:=x3 + y3) (x4:=x4 + y4) (by omega) (by omega) (by omega) (by omega) (by omega)
  have hl:(He (x0 + y0) (x1 + y1) (x2 + y2) (x3 + y3) (x4 + y4)).length = 5:=rfl
  generalize He (x0 + y0) (x1 + y1) (x2 + y2) (x3 + y3) (x4 + y4) = C at *
  have hz5:Qb 5 (Value.int .u64 0) = [.int .u64 0,.int .u64 0,.int .u64 0,.int .u64 0,.int .u64 0]:=rfl
  have hr5:∀ a b c d e:Int,rf (.agg [.int .u64 a,.int .u64 b,.int .u64 c,.int .u64 d,.int .u64 e].toArray) = true:=fun _ _ _ _ _ => rfl
  have u0:=fun s => @Y8 T H.length Qd2 s
  have v0:=fun s => @Z7 T H.length 2 (.loop Qd2) s
  have d0:∀ s,Xa T H.length Qd2 s = Xa T H.length _ s:=fun s => congrArg (fun c => Xa T H.length c s) Qd2.eq_1
  have u1:=fun s => @Y8 T H.length Qd1 s
  have v1:=fun s => @Z7 T H.length 0 (.loop Qd1) s
  have d1:∀ s,Xa T H.length Qd1 s = Xa T H.length _ s:=fun s => congrArg (fun c => Xa T H.length c s) Qd1.eq_1
  have hrC:rf (.agg (ns .u64 C).toArray) = true:=Qlm _ _
  have p1:∀ a b c d e f g i j k:Value,Wz 5 (B1 0 [a,b,c,d,e,f,g,i,j,k]) = [a,b,c,d,e]:=fun _ _ _ _ _ _ _ _ _ _ => rfl
  have p2:∀ a b c d e f g i j k:Value,Wz 5 (B1 5 [a,b,c,d,e,f,g,i,j,k]) = [f,g,i,j,k]:=fun _ _ _ _ _ _ _ _ _ _ => rfl
  simp only [eV,Hs,Mz] at c1 ⊢
  simp only [Qjs,Q3,Q2,Hs,Mz] at hA h
  rw [J3 (fn:=a62) rfl]
  simp only [a62,Zl,Zk,J2,quiet,cF,↓pF,reduceCtorEq,Qc,Qp,Ja,X4,↓Z0,↓Zz,↓Jr,↓Ju,↓Js,↓Jt,cL,Qo,Qn,Q1,Q0,Qx,Qs,Qr,Qz,Qd,Q5,Q6,Qy,Qj,Qi,Qh,Qw,Qv,Qu,Qm,Ql,cJ,cU,h,hA,hz5,c1,hr5,u0,v0,d0,u1,v1,d1,p1,p2,s0,s1,s2,s3,s4,q0,q1,q2,q3,q4,t0,t1,t2,t3,t4,K3,hl,hrC]
 ·rw [Ql8]
  have e:v51 [x0 + y0,x1 + y1,x2 + y2,x3 + y3,x4 + y4] = v51 [x0,x1,x2,x3,x4] + v51 [y0,y1,y2,y3,y4]:=by
   simp only [v51,num]
   omega
  unfold fe
  rw [e,Go.Fp.Bm]
theorem part5 {a b c:List Nat} {n:Nat} (hb:b.length = 5) (ha:a.length = n):Wz 5 (B1 n (ns .u64 (a ++ (b ++ c)))) = ns .u64 b:=by
 simp only [Rk]
 rw [Wk (by rw [K3]; omega),Wc (by rw [K3]; omega),Q2,Yv (by rw [K3]; omega),Zq (by rw [K3]; omega)]
theorem Qms {H:List Ob} {l:List Ob} {id n i:Nat} {o x r R:List Nat} {cs:List Value} {g:List Ob} (hi:i < n) (hn:n < 100) (hx:El x (2 ^ 52)) (ho:El o (2 ^ 52)) (hm:V7 T 29 [eV o,eV x] = some (eV r)) (hr:El r (2 ^ 52))
  (hA:∀ l,(H ++ l)[id]? = some ⟨cs,true,true,true,1⟩) (hcs:(cs.drop (i * 5)).take 5 = ns .u64 x) (hlen:i * 5 + 5 ≤ cs.length) :
  Xa T H.length Qd0 ⟨[(2,.pointer (some ⟨H.length,0,none⟩)),(3,.pointer (some ⟨H.length + 1,0,none⟩)),(7,.slice (some ⟨id,0,none⟩) n n),(8,.int .i64 n),(9,.int .i64 i)],H ++ (⟨ns .u64 R,true,true,true,1⟩ :: ⟨ns .u64 o,true,true,true,1⟩ :: g),[]⟩ =
   some (.normal,⟨[(2,.pointer (some ⟨H.length,0,none⟩)),(3,.pointer (some ⟨H.length + 1,0,none⟩)),(7,.slice (some ⟨id,0,none⟩) n n),(8,.int .i64 n),(9,.int .i64 ((i + 1:Nat):Int))],H ++ (⟨ns .u64 R,true,true,true,1⟩ :: ⟨ns .u64 r,true,true,true,1⟩ :: (g ++ [⟨ns .u64 x,true,true,true,1⟩])),[]⟩):=by
 have hz5:Qb 5 (Value.int .u64 0) = ns .u64 [0,0,0,0,0]:=rfl
 have l0:(ns .u64 [0,0,0,0,0]).length = 5:=rfl
 have l1:=hx.len
 have l2:=ho.len
 have l3:=hr.len
 have e1:((i:Int) < (n:Int)) = True:=eq_true (by omega)
 have w3:IntKind.i64.wrap ((i:Int) + 1) = ((i + 1:Nat):Int):=Vt (n:=i + 1) (by omega)
 simp only [Qd0,J2,quiet,cF,↓pF,reduceCtorEq,Qc,Qp,Ja,X4,↓Z0,↓Zz,↓Jr,↓Ju,↓Js,↓Jt,cL,Qo,Qn,Q1,Q0,Qx,Qs,Qr,Qz,Qd,Q5,Q6,Qy,Qj,Qi,Qh,Qw,Qv,Qu,Qm,Ql,cJ,Kk,hz5,hA,hcs,hlen,hm,Kv,Vf,Yq,Vg,K3,l0,l1,l2,l3,Yt,e1,w3]
theorem Qa7:fe [1,0,0,0,0] = 1:=by rw [Tu]; rfl
theorem Qa8:El [1,0,0,0,0] (2 ^ 52):=Tv (by decide)
theorem D6 {H:List Ob} {id n:Nat} {xs:List (List Nat)} (hn:xs.length = n) (hN:n < 100) (hx:∀ x ∈ xs,El x (2 ^ 52)) (h:H[id]? = some ⟨ns .u64 xs.flatten,true,true,true,1⟩) :
  ∃ r,Vl T 60 [.slice (some ⟨id,0,none⟩) n n] H = some (eV r,H ++ (⟨ns .u64 r,true,true,true,1⟩ :: ⟨ns .u64 r,true,true,true,1⟩ :: xs.map fun x => (⟨ns .u64 x,true,true,true,1⟩:Ob)),[]) ∧ El r (2 ^ 52) ∧ fe r = (xs.map fe).foldl (· * ·) 1:=by
 have hid:id < H.length:=(Qt.1 h).1
 have hA:∀ l,(H ++ l)[id]? = some ⟨ns .u64 xs.flatten,true,true,true,1⟩:=fun l => by rw [Qe hid]; exact h
 have hfl:∀ (ys:List (List Nat)),(∀ x ∈ ys,El x (2 ^ 52)) → ys.flatten.length = ys.length * 5:=by
  intro ys hy
  induction ys with
  | nil => rfl
  | cons y ys ih =>
   rw [Ki,Zn,ih (fun x hx => hy x (by simp [hx])),(hy y (by simp)).len,Zg]; omega
 obtain ⟨st,hb,r,rfl,hr1,hr2⟩:=Yn (T:=T) (base:=H.length) (id:=0) (body:=Qd0)
  (fun i st => ∃ r:List Nat,st = ⟨[(2,.pointer (some ⟨H.length,0,none⟩)),(3,.pointer (some ⟨H.length + 1,0,none⟩)),(7,.slice (some ⟨id,0,none⟩) n n),(8,.int .i64 n),(9,.int .i64 (i:Nat))],H ++ (⟨ns .u64 [0,0,0,0,0],true,true,true,1⟩ :: ⟨ns .u64 r,true,true,true,1⟩ :: ((xs.take i).map fun x => (⟨ns .u64 x,true,true,true,1⟩:Ob))),[]⟩ ∧ El r (2 ^ 52) ∧ fe r = ((xs.take i).map fe).foldl (· * ·) 1)
  (Q:=fun st => ∃ r:List Nat,st = ⟨[(2,.pointer (some ⟨H.length,0,none⟩)),(3,.pointer (some ⟨H.length + 1,0,none⟩)),(7,.slice (some ⟨id,0,none⟩) n n),(8,.int .i64 n),(9,.int .i64 n),(10,.bool false)],H ++ (⟨ns .u64 [0,0,0,0,0],true,true,true,1⟩ :: ⟨ns .u64 r,true,true,true,1⟩ :: (xs.map fun x => (⟨ns .u64 x,true,true,true,1⟩:Ob))),[]⟩ ∧ El r (2 ^ 52) ∧ fe r = (xs.map fe).foldl (· * ·) 1)
  n (s:=⟨[(2,.pointer (some ⟨H.length,0,none⟩)),(3,.pointer (some ⟨H.length + 1,0,none⟩)),(7,.slice (some ⟨id,0,none⟩) n n),(8,.int .i64 n),(9,.int .i64 0)],H ++ [⟨ns .u64 [0,0,0,0,0],true,true,true,1⟩,⟨ns .u64 [1,0,0,0,0],true,true,true,1⟩],[]⟩) ⟨[1,0,0,0,0],rfl,Qa8,Qa7⟩
  (fun i st hi hs => by
   obtain ⟨r,rfl,hr1,hr2⟩:=hs
   obtain ⟨x,hxi⟩:∃ y,xs[i]? = some y:=⟨_,Qq (by omega)⟩
   have hxe:=hx x (Zt hxi)
   obtain ⟨r',hm,g1,g2⟩:=Wq hr1 hxe
   have hsplit:xs = xs.take i ++ x :: xs.drop (i + 1):=by
    have h1:=Qt.1 hxi
    conv => lhs; rw [← Wl i xs,Us h1.1,h1.2]
   have htl:(xs.take i).flatten.length = i * 5:=by
    rw [hfl _ (fun y hy => hx y (Vd hy)),Ks,Vx (by omega)]
   have hcs:((ns .u64 xs.flatten).drop (i * 5)).take 5 = ns .u64 x:=by
    conv => lhs; rw [hsplit,V2,Ki]
    exact part5 hxe.len htl
   have hb:=Qms (R:=[0,0,0,0,0]) (g:=(xs.take i).map fun x => (⟨ns .u64 x,true,true,true,1⟩:Ob)) (l:=[]) hi hN hxe hr1 hm g1 hA hcs (by rw [K3,hfl xs hx,hn]; omega)
   have htk:xs.take (i + 1) = xs.take i ++ [x]:=by rw [Y6,hxi]; rfl
   refine ⟨_,hb,r',?_,g1,?_⟩
   ·rw [htk,Uu]; rfl
   ·rw [htk,Uu,List.foldl_append,← hr2,g2]; rfl)
  (fun st hs => by
   obtain ⟨r,rfl,hr1,hr2⟩:=hs
   have e1:((n:Int) < (n:Int)) = False:=eq_false (by omega)
   have ht:xs.take n = xs:=Zq (by omega)
   rw [ht] at hr2 ⊢
   refine ⟨_,?_,r,rfl,hr1,hr2⟩
   simp only [Qd0,J2,quiet,cF,↓pF,reduceCtorEq,Qc,Qp,Ja,X4,↓Z0,↓Zz,↓Jr,↓Ju,↓Js,↓Jt,cL,Qo,Qn,Q1,Q0,Qx,Qs,Qr,Qz,Qd,Q5,Q6,Qy,Qj,Qi,Qh,Qw,Qv,Qu,Qm,Ql,e1])
 refine ⟨r,?_,hr1,hr2⟩
 have hz5:Qb 5 (Value.int .u64 0) = ns .u64 [0,0,0,0,0]:=rfl
 have l0:(ns .u64 [0,0,0,0,0]).length = 5:=rfl
 have l1:=hr1.len
 have hs:=Qcc (n:=1) (by decide)
 have l2:([1,0,0,0,0]:List Nat).length = 5:=rfl
 simp only [Qlf] at hs
 rw [J3 (fn:=a82) rfl]
 simp only [a82,J2,quiet,cF,↓pF,reduceCtorEq,Qc,Qp,Ja,X4,↓Z0,↓Zz,↓Jr,↓Ju,↓Js,↓Jt,cL,Qo,Qn,Q1,Q0,Qx,Qs,Qr,Qz,Qd,Q5,Q6,Qy,Qj,Qi,Qh,Qw,Qv,Qu,Qm,Ql,cJ,Kk,hz5,hs,hb,Kv,Vf,Yq,Vg,K3,l0,l1,l2,Yt]
def pwI (x k o:List Nat) (i:Int) (ex:Env):St:=⟨[(2,.pointer (some ⟨0,0,none⟩)),(3,.pointer (some ⟨1,0,none⟩)),(4,.pointer (some ⟨2,0,none⟩)),(5,.pointer (some ⟨3,0,none⟩)),(6,.int .i64 i)] ++ ex,[⟨ns .u64 x,true,true,true,1⟩,⟨u8s k,true,true,true,1⟩,⟨ns .u64 [0,0,0,0,0],true,true,true,1⟩,⟨ns .u64 o,true,true,true,1⟩],[]⟩
theorem Qpp (a:Go.Fp.Fe) (m b:Nat) (hb:b < 2):Go.Fp.pow a (2 * m + b) = if b = 1 then Go.Fp.pow a m * Go.Fp.pow a m * a else Go.Fp.pow a m * Go.Fp.pow a m:=by
 have h1:Go.Fp.pow a (2 * m) = Go.Fp.pow a m * Go.Fp.pow a m:=by rw [show 2 * m = m + m by omega,Go.Fp.pow_add]
 by_cases h:b = 1
 ·subst h
  rw [if_pos rfl,Go.Fp.pow,h1]
 ·have:b = 0:=by omega
  subst this
  rw [if_neg (by decide),Z1,h1]
theorem Qsp {x k o:List Nat} {i:Nat} {ex:Env} (hx:El x (2 ^ 52)) (lk:k.length = 32) (xk:∀ x ∈ k,x < 256) (hi:i < 256) (ho:El o (2 ^ 52)) (hp:fe o = Go.Fp.pow (fe x) (num 256 k / 2 ^ (i + 1))) :
  ∃ r,Xa T 0 Qbj (pwI x k o i ex) = some (.normal,pwI x k r ((i:Int) - 1) []) ∧ El r (2 ^ 52) ∧ fe r = Go.Fp.pow (fe x) (num 256 k / 2 ^ i):=by
 obtain ⟨b,hb⟩:∃ b,k[i / 8]? = some b:=⟨_,Qq (by omega)⟩
 have hbv:=Gr (B:=256) (by decide) xk hb
 have hbc:=Ud hb
 have hbit:b / 2 ^ (i % 8) % 2 = num 256 k / 2 ^ i % 2:=by
  rw [← hbv,show (256:Nat) = 2 ^ 8 from rfl,Qma (Jn _ (by decide)),Vn]
 obtain ⟨r1,m1,g1,g2⟩:=Wq ho ho
 obtain ⟨r2,m2,g3,g4⟩:=Wq g1 hx
 have hlt:=Qdw (num 256 k) i
 have hnum:num 256 k / 2 ^ i = 2 * (num 256 k / 2 ^ (i + 1)) + num 256 k / 2 ^ i % 2:=by
  rw [K8,← V5]
  omega
 have hstep:=Qpp (fe x) (num 256 k / 2 ^ (i + 1)) (num 256 k / 2 ^ i % 2) hlt
 rw [← hnum,← hp] at hstep
 have s1:(2:Int) ^ min (i % 8) IntKind.u8.bits = ((2 ^ (i % 8):Nat):Int):=D7 (W2 (Jn _ (by decide)))
 have w2:IntKind.i64.wrap ((i / 8:Nat):Int) = ((i / 8:Nat):Int):=Vt (by omega)
 have w3:IntKind.i64.wrap ((i:Int) - 1) = (i:Int) - 1:=Ya (by omega) (by omega)
 have e1:((0:Int) ≤ (i:Int)) = True:=eq_true (by omega)
 have e3:(((i / 8:Nat):Int) < 32) = True:=eq_true (by omega)
 have e4:(((i % 8:Nat):Int) < 0) = False:=eq_false (by omega)
 have l1:=hx.len
 have l2:=ho.len
 have l3:=g1.len
 have l4:=g3.len
 have l0:([0,0,0,0,0]:List Nat).length = 5:=rfl
 generalize hB:num 256 k / 2 ^ i % 2 = B at *
 by_cases hB1:B = 1
 ·have hbq:((B:Int) == 1) = true:=by rw [hB1]; rfl
  rw [if_pos hB1] at hstep
  refine ⟨r2,?_,g3,by rw [hstep,g4,g2]⟩
  simp only [pwI,Qbj,J2,quiet,cF,↓pF,reduceCtorEq,Qc,Qp,Ja,X4,↓Z0,↓Zz,↓Jr,↓Ju,↓Js,↓Jt,cL,Qo,Qn,Q1,Q0,Qx,Qs,Qr,Qz,Qd,Q5,Q6,Qy,Qj,Qi,Qh,Qw,Qv,Qu,Qm,Ql,cJ,cU,hbc,hbit,s1,w2,w3,e1,e3,e4,m1,m2,hbq,Kv,Vf,Yq,Vg,K3,l1,l2,l3,l4,Yt]
 ·have hbq:((B:Int) == 1) = false:=by
   have:B = 0:=by omega
   rw [this]; rfl
  rw [if_neg hB1] at hstep
  refine ⟨r1,?_,g1,by rw [hstep,g2]⟩
  simp only [pwI,Qbj,J2,quiet,cF,↓pF,reduceCtorEq,Qc,Qp,Ja,X4,↓Z0,↓Zz,↓Jr,↓Ju,↓Js,↓Jt,cL,Qo,Qn,Q1,Q0,Qx,Qs,Qr,Qz,Qd,Q5,Q6,Qy,Qj,Qi,Qh,Qw,Qv,Qu,Qm,Ql,cJ,cU,hbc,hbit,s1,w2,w3,e1,e3,e4,m1,m2,hbq,Kv,Vf,Yq,Vg,K3,l1,l2,l3,l4,Yt]
theorem Qsq {x k:List Nat} (hx:El x (2 ^ 52)) (lk:k.length = 32) (xk:∀ x ∈ k,x < 256):∃ r,V7 T 61 [eV x,.agg (u8s k).toArray] = some (eV r) ∧ El r (2 ^ 52) ∧ fe r = Go.Fp.pow (fe x) (num 256 k):=by
 have hK:=num_lt xk
 rw [lk,show (256:Nat) ^ 32 = 2 ^ 256 from by rw [show (256:Nat) = 2 ^ 8 from rfl,← Ye]] at hK
 obtain ⟨st,hb,r,rfl,hr1,hr2⟩:=Yn (T:=T) (base:=0) (id:=0) (body:=Qbj)
  (fun j st => ∃ r:List Nat,st = pwI x k r ((255:Int) - j) [] ∧ El r (2 ^ 52) ∧ fe r = Go.Fp.pow (fe x) (num 256 k / 2 ^ (256 - j)))
  (Q:=fun st => ∃ r:List Nat,st = pwI x k r (-1) [(9,.bool false)] ∧ El r (2 ^ 52) ∧ fe r = Go.Fp.pow (fe x) (num 256 k))
  256 (s:=pwI x k [1,0,0,0,0] 255 []) ⟨_,rfl,Qa8,by rw [Qa7,Xj,Wy hK]; rfl⟩
  (fun j st hj hs => by
   obtain ⟨r,rfl,h1,h2⟩:=hs
   obtain ⟨i,hi⟩:∃ i,256 - j = i + 1:=⟨255 - j,by omega⟩
   rw [hi] at h2
   obtain ⟨r',g1,g2,g3⟩:=Qsp (ex:=[]) hx lk xk (i:=i) (by omega) h1 h2
   rw [show (255:Int) - j = (i:Int) by omega]
   refine ⟨_,g1,r',?_,g2,?_⟩
   ·rw [show (255:Int) - ((j + 1:Nat):Int) = (i:Int) - 1 by omega]
   ·rw [show 256 - (j + 1) = i by omega]; exact g3)
  (fun st hs => by
   obtain ⟨r,rfl,h1,h2⟩:=hs
   rw [V8,Wn,Uz] at h2
   have e:((0:Int) ≤ -1) = False:=by decide
   refine ⟨_,?_,r,rfl,h1,h2⟩
   rw [show (255:Int) - ((256:Nat):Int) = -1 by omega]
   simp only [pwI,Qbj,J2,quiet,cF,↓pF,reduceCtorEq,Qc,Qp,Ja,X4,↓Z0,↓Zz,↓Jr,↓Ju,↓Js,↓Jt,cL,Qo,Qn,Q1,Q0,Qx,Qs,Qr,Qz,Qd,Q5,Q6,Qy,Qj,Qi,Qh,Qw,Qv,Qu,Qm,Ql,e])
 refine ⟨r,?_,hr1,hr2⟩
 have hz5:Qb 5 (Value.int .u64 0) = ns .u64 [0,0,0,0,0]:=rfl
 have hs:=Qcc (n:=1) (by decide)
 have l2:([1,0,0,0,0]:List Nat).length = 5:=rfl
 have l0:([0,0,0,0,0]:List Nat).length = 5:=rfl
 have l1:=hx.len
 have l3:=hr1.len
 simp only [Qlf] at hs
 simp only [pwI,Q3,Q2] at hb
 apply Vc
 apply J4
 rw [J3 (fn:=a83) rfl]
 simp only [a83,J2,quiet,cF,↓pF,reduceCtorEq,Qc,Qp,Ja,X4,↓Z0,↓Zz,↓Jr,↓Ju,↓Js,↓Jt,cL,Qo,Qn,Q1,Q0,Qx,Qs,Qr,Qz,Qd,Q5,Q6,Qy,Qj,Qi,Qh,Qw,Qv,Qu,Qm,Ql,cJ,hz5,hs,hb,pwI,Kv,Vf,Yq,Vg,K3,l0,l1,l2,l3,Yt]
 rfl
def onX (i:Nat):List Nat:=dig (2 ^ 8) 32 (2 ^ i - 1)
def onI (less:Value) (n:Int) (k:List Nat) (i:Nat) (ex:Env):St:=⟨[(1,less),(4,.pointer (some ⟨0,0,none⟩)),(5,.pointer (some ⟨1,0,none⟩)),(7,.int .i64 n),(8,.int .i64 i)] ++ ex,[⟨u8s (dig 256 32 0),true,true,true,1⟩,⟨u8s k,true,true,true,1⟩],[]⟩
theorem Qs5 {less:Value} {n i:Nat} (hn:n ≤ 256) (hi:i < n):Xa T 0 Qdz (onI less n (onX i) i []) = some (.normal,onI less n (onX (i + 1)) (i + 1) []):=by
 have hlen:(onX i).length = 32:=Ku _ _ _
 obtain ⟨y,hy⟩:∃ b,(onX i)[i / 8]? = some b:=⟨_,Qq (by omega)⟩
 have hyc:=Ud hy
 have hy':y < 2 ^ 8:=Bi (by decide) (Zt hy)
 have hsm:(2:Nat) ^ (i % 8) ≤ 2 ^ 7:=Kx (by decide) (by have:=Jn i (by decide:0 < 8); omega)
 have hp:0 < (2:Nat) ^ i:=Y9 (by decide)
 have hput:=Qci (w:=8) (m:=32) (q:=i / 8) (s:=i % 8) (y:=1) (M:=2 ^ i - 1) (by omega) (Jn _ (by decide)) (by rw [Vn]; omega) (by omega)
 rw [Vn,show 2 ^ i - 1 + 1 * 2 ^ i = 2 ^ (i + 1) - 1 by rw [K8]; omega] at hput
 have hgd:(dig (2 ^ 8) 32 (2 ^ i - 1)).getD (i / 8) 0 = y:=by rw [Jp]; unfold onX at hy; rw [hy]; rfl
 rw [hgd,Wr] at hput
 have hset:=Gp (onX i) (i / 8) (y ||| 2 ^ (i % 8))
 rw [show (onX i).set (i / 8) (y ||| 2 ^ (i % 8)) = onX (i + 1) from hput] at hset
 have s1:(2:Int) ^ min (i % 8) IntKind.u8.bits = ((2 ^ (i % 8):Nat):Int):=D7 (W2 (Jn _ (by decide)))
 have o1:Vj .or .u8 (y:Int) ((2 ^ (i % 8):Nat):Int) = ((y ||| 2 ^ (i % 8):Nat):Int):=B0 rfl (by show _ < 256; omega) (by show _ < 256; omega)
 have n1:(2 ^ (i % 8)) % 256 = 2 ^ (i % 8):=Z6 (Bg hsm (by decide))
 have w2:IntKind.i64.wrap ((i / 8:Nat):Int) = ((i / 8:Nat):Int):=Vt (by omega)
 have w3:IntKind.i64.wrap ((i + 1:Nat):Int) = ((i + 1:Nat):Int):=Vt (by omega)
 have e1:((i:Int) < (n:Int)) = True:=eq_true (by omega)
 have e3:(((i / 8:Nat):Int) < 32) = True:=eq_true (by omega)
 have e4:(((i % 8:Nat):Int) < 0) = False:=eq_false (by omega)
 have e6:i / 8 + 1 ≤ 32:=by omega
 have p1:1 * 2 ^ (i % 8) = 2 ^ (i % 8):=Wr _
 simp only [onI,Qdz,J2,quiet,cF,↓pF,reduceCtorEq,Qc,Qp,Ja,X4,↓Z0,↓Zz,↓Jr,↓Ju,↓Js,↓Jt,cL,Qo,Qn,Q1,Q0,Qx,Qs,Qr,Qz,Qd,Q5,Q6,Qy,Qj,Qi,Qh,Qw,Qv,Qu,Qm,Ql,cJ,cU,hyc,s1,o1,n1,w2,w3,e1,e3,e4,e6,p1,hset,Ky,hlen]
theorem Qkf {n less:Nat} (hn:n ≤ 256) (h8:8 ≤ n) (hl:less < 256):V7 T 62 [.int .i64 n,.int .u8 less] = some (.agg (u8s (dig 256 32 (2 ^ n - 1 - less))).toArray):=by
 have hb:=Bc (T:=T) (base:=0) (id:=0) (body:=Qdz) (fun i => onI (.int .u8 less) n (onX i) i []) (s':=onI (.int .u8 less) n (onX n) n [(9,.bool false)]) n (fun i hi => Qs5 hn hi) (by
  have e1:((n:Int) < (n:Int)) = False:=eq_false (by omega)
  simp only [onI,Qdz,J2,quiet,cF,↓pF,reduceCtorEq,Qc,Qp,Ja,X4,↓Z0,↓Zz,↓Jr,↓Ju,↓Js,↓Jt,cL,Qo,Qn,Q1,Q0,Qx,Qs,Qr,Qz,Qd,Q5,Q6,Qy,Qj,Qi,Qh,Qw,Qv,Qu,Qm,Ql,e1])
 rw [show onX 0 = dig 256 32 0 from rfl] at hb
 have hp8:(256:Nat) ≤ 2 ^ n:=by
  have:=Kx (n:=2) (by decide) h8
  exact this
 have hmod:2 ^ n % 256 = 0:=by
  rw [show n = 8 + (n - 8) by omega,Y4]; exact Nat.mul_mod_right _ _
 have h0:(onX n)[0]? = some 255:=by
  unfold onX
  rw [Bz (by decide),Wn,Uz]
  congr 1
  omega
 have h0c:=Ud h0
 have w0:IntKind.u8.wrap (255 - (less:Int)) = ((255 - less:Nat):Int):=by rw [wrap_u8]; omega
 have hset:=Gp (onX n) 0 (255 - less)
 have hfin:(onX n).set 0 (255 - less) = dig 256 32 (2 ^ n - 1 - less):=by
  apply Rp (by rw [X3]; exact Ku _ _ _)
  intro t ht
  by_cases h0t:t = 0
  ·subst h0t
   rw [Km (by rw [show (onX n).length = 32 from Ku _ _ _]; decide),Wn,Uz]
   congr 1
   omega
  ·rw [Xc (Ne.symm h0t)]
   unfold onX
   rw [Bz ht]
   congr 2
   obtain ⟨m,rfl⟩:∃ m,t = m + 1:=⟨t - 1,by omega⟩
   rw [show (2:Nat) ^ 8 = 256 from rfl,K8,K9,← V5,← V5]
   congr 1
   omega
 rw [hfin] at hset
 simp only [Gj] at h0c
 have l1:(dig 256 32 (2 ^ n - 1 - less)).length = 32:=Ku _ _ _
 have l2:(onX n).length = 32:=Ku _ _ _
 have l3:(dig 256 32 0).length = 32:=rfl
 have hz32:Qb 32 (Value.int .u8 0) = u8s (dig 256 32 0):=rfl
 simp only [onI,Q3,Q2,V9] at hb
 apply Vc
 apply J4
 rw [J3 (fn:=a84) rfl]
 simp only [a84,J2,quiet,cF,↓pF,reduceCtorEq,Qc,Qp,Ja,X4,↓Z0,↓Zz,↓Jr,↓Ju,↓Js,↓Jt,cL,Qo,Qn,Q1,Q0,Qx,Qs,Qr,Qz,Qd,Q5,Q6,Qy,Qj,Qi,Qh,Qw,Qv,Qu,Qm,Ql,cJ,hz32,hb,onI,h0c,w0,hset,Ky,l1,l2,l3]
 rfl
theorem Qad {v:Nat}:∀ x ∈ dig 256 32 v,x < 256:=fun _ h => Bi (by decide) h
theorem Tf {x:List Nat} {n less:Nat} (hx:El x (2 ^ 52)) (hn:n ≤ 256) (h8:8 ≤ n) (hl:less < 256):∃ r,V7 T 61 [eV x,.agg (u8s (dig 256 32 (2 ^ n - 1 - less))).toArray] = some (eV r) ∧ El r (2 ^ 52) ∧ fe r = Go.Fp.pow (fe x) (2 ^ n - 1 - less):=by
 obtain ⟨r,h1,h2,h3⟩:=Qsq (k:=dig 256 32 (2 ^ n - 1 - less)) hx (Ku _ _ _) Qad
 refine ⟨r,h1,h2,?_⟩
 rw [h3,Uk (by decide),Z6]
 have h4:(2:Nat) ^ n ≤ 256 ^ 32:=by
  rw [show (256:Nat) ^ 32 = 2 ^ 256 from by rw [show (256:Nat) = 2 ^ 8 from rfl,← Ye]]
  exact Kx (by decide) hn
 have:0 < (2:Nat) ^ n:=Y9 (by decide)
 omega
theorem Qqn {x:List Nat} (hx:El x (2 ^ 52)):∃ r,V7 T 34 [eV x] = some (eV r) ∧ El r (2 ^ 52) ∧ fe r = Go.Fp.iv (fe x):=by
 have h1:=Qkf (n:=255) (less:=20) (by decide) (by decide) (by decide)
 obtain ⟨r,h2,h3,h4⟩:=Tf (n:=255) (less:=20) hx (by decide) (by decide) (by decide)
 refine ⟨r,?_,h3,?_⟩
 ·have hz5:Qb 5 (Value.int .u64 0) = ns .u64 [0,0,0,0,0]:=rfl
  have l0:([0,0,0,0,0]:List Nat).length = 5:=rfl
  have l1:=hx.len
  have l2:=h3.len
  simp only [Gj] at h1
  generalize dig 256 32 (2 ^ 255 - 1 - 20) = K at *
  apply Vc
  apply J4
  rw [J3 (fn:=a56) rfl]
  simp only [a56,J2,quiet,cF,↓pF,reduceCtorEq,Qc,Qp,Ja,X4,↓Z0,↓Zz,↓Jr,↓Ju,↓Js,↓Jt,cL,Qo,Qn,Q1,Q0,Qx,Qs,Qr,Qz,Qd,Q5,Q6,Qy,Qj,Qi,Qh,Qw,Qv,Qu,Qm,Ql,cJ,hz5,h1,h2,Kv,Vf,Yq,Vg,K3,l0,l1,l2,Yt]
  rfl
 ·rw [h4]
  unfold Go.Fp.iv
  rw [Go.Fp.Rd]
end Go.Ev.Ytgacigcbglflkaa
set_option linter.unusedSimpArgs false
set_option linter.unusedVariables false
namespace Go.Ev
section
variable {T:Tab} {b:Nat}
theorem Mb:∀ (o1 o2:List AOper) (s:St) (recs:List Rec),evOps T b (o1 ++ o2) s recs = (evOps T b o1 s recs).bind fun r => evOps T b o2 r.1 r.2
 | [],o2,s,recs => by rw [Kj]; rfl
 | o :: o1,o2,s,recs => by
  rw [Q3,Xz,Xz]
  cases hg:guardOf s.env o.guard with
  | none => rfl
  | some g =>
   cases g with
   | false => exact Mb o1 o2 _ _
   | true =>
    cases hx:Vy T o.op s.env s.h with
    | none => simp [hx]
    | some x =>
     simp only [hx,Qf]
     exact Mb o1 o2 _ _
theorem Tl:∀ (ops:List AOper) (s:St) (recs:List Rec) (s':St),steps T b false ops s = some s' → ∃ m,evOps T b ops s recs = some (s',recs ++ m)
 | [],s,recs,s',h => by
  simp only [steps,Qg] at h
  subst h
  exact ⟨[],by rw [Kj,Kw]⟩
 | o :: r,s,recs,s',h => by
  rw [Xz]
  unfold steps at h
  cases hg:guardOf s.env o.guard with
  | none => simp only [hg] at h; cases h
  | some g =>
   simp only [hg] at h
   cases g with
   | false =>
    obtain ⟨m,h1⟩:=Tl r _ (recs ++ [(some [],[])]) s' h
    exact ⟨(some [],[]) :: m,by rw [h1]; simp⟩
   | true =>
    cases hx:Vy T o.op s.env s.h with
    | none => simp [hx] at h
    | some x =>
     simp only [hx,Qf,Qb9,Zd,if_false] at h
     obtain ⟨m,h1⟩:=Tl r _ (recs ++ [(x.2.2.1,x.2.2.2)]) s' h
     exact ⟨(x.2.2.1,x.2.2.2) :: m,by simp only [hx,Qf]; rw [h1]; simp⟩
theorem Qbs {r1 r2:List Rec}:∀ {pairs:List (Nat × Nat)},(pairs.all fun p => decide (p.1 < r1.length) && decide (p.2 < r1.length)) = true → Va r1 pairs = true → Va (r1 ++ r2) pairs = true
 | [],_,_ => rfl
 | (i,j) :: ps,h,k => by
  simp only [Jm,Vh,decide_eq_true_eq] at h
  simp only [Va,Jm,Vh] at k ⊢
  have ih:=Qbs (r1:=r1) (r2:=r2) (pairs:=ps) h.2 k.2
  simp only [Va] at ih
  refine ⟨?_,ih⟩
  rw [Qe h.1.1,Qe h.1.2]
  exact k.1
def Ba:List (Nat × Nat) → Nat
 | [] => 0
 | (_,j) :: r => if j + 1 ≤ Ba r then Ba r else j + 1
theorem Jd:Ba [] = 0:=rfl
theorem Zy {i j:Nat} {r:List (Nat × Nat)}:Ba ((i,j) :: r) = if j + 1 ≤ Ba r then Ba r else j + 1:=rfl
def Qf6 (T:Tab) (b:Nat) (ops:List AOper) (pairs:List (Nat × Nat)) (s:St):Option St :=
 gate ((pairs.all fun p => decide (p.1 < Ba pairs) && decide (p.2 < Ba pairs)) = true ∧ Ba pairs ≤ ops.length)
  ((steps T b true (ops.take (Ba pairs)) s).bind fun s1 => steps T b false (ops.drop (Ba pairs)) s1)
theorem J5 {ops:List AOper} {pairs:List (Nat × Nat)} {s:St}:Qf6 T b ops pairs s = gate ((pairs.all fun p => decide (p.1 < Ba pairs) && decide (p.2 < Ba pairs)) = true ∧ Ba pairs ≤ ops.length)
  ((steps T b true (ops.take (Ba pairs)) s).bind fun s1 => steps T b false (ops.drop (Ba pairs)) s1):=Eq.trans rfl rfl
theorem Je {ops:List AOper} {keep:Option (List Nat)} {p:Nat × Nat} {ps:List (Nat × Nat)} {s:St}:Xa T b (.region ops keep (p :: ps)) s = Qbr ((Qf6 T b ops (p :: ps) s).bind fun s' => some (.normal,s'.after keep)) (Qqo T b (.region ops keep (p :: ps)) s):=by
 cases hq:Qf6 T b ops (p :: ps) s with
 | none => rfl
 | some s' =>
  simp only [Qf,Qbr]
  unfold Qf6 gate at hq
  split at hq
  ·rename_i hp
   simp only [Qa] at hq
   obtain ⟨s1,k1,k2⟩:=hq
   obtain ⟨recs,h1,h2,h3⟩:=Ht _ s [] s1 k1 (by simp)
   obtain ⟨m,h4⟩:=Tl _ s1 recs s' k2
   simp only [Zp,Zh,Ks,Vx hp.2] at h3
   rw [Jq]
   conv => lhs; rw [← Wl (Ba (p :: ps)) ops]
   rw [Mb,h1]
   simp only [Qf,h4]
   have hpk:=hp.1
   rw [← h3] at hpk
   rw [if_pos (Qbs hpk (Dc h2 hpk))]
  ·cases hq
end
end Go.Ev
set_option linter.unusedSimpArgs false
set_option linter.unusedVariables false
namespace Go.Ev.Ytgacigcbglflkaa
open Go Go.Ev
attribute [local congr] Um Uw Uj Ux W1
set_option maxRecDepth 100000
theorem Vm {cs:List Value} {n:Nat} (h:cs.length = n):cs.take n = cs:=Zq (by omega)
def pL (x y z t:List Nat):List Nat:=x ++ (y ++ (z ++ t))
def pV (x y z t:List Nat):Value := .agg (ns .u64 (pL x y z t)).toArray
theorem Qvv (x y z t:List Nat):rf (pV x y z t) = true:=Qlm _ _
theorem Qh3 (x y z t:List Nat):(pV x y z t).cells.toList = ns .u64 (pL x y z t):=rfl
theorem Qls (x y z t:List Nat):(pV x y z t).cells.size = (pL x y z t).length:=K3 _ _
theorem Qvy (x y z t:List Nat):Vu (pV x y z t) = true:=rfl
theorem Qlt (x y z t:List Nat):Value.agg (ns .u64 (pL x y z t)).toArray = pV x y z t:=rfl
theorem Bw {x y z t:List Nat} {b:Nat} (hx:El x b) (hy:El y b) (hz:El z b) (ht:El t b):(pL x y z t).length = 20:=by
 simp [pL,hx.len,hy.len,hz.len,ht.len]
theorem Qj1 {x y z t:List Nat} {b:Nat} (hx:El x b) (hy:El y b) (hz:El z b) (ht:El t b) :
  Wz 5 (ns .u64 (pL x y z t)) = ns .u64 x ∧ Wz 5 (B1 5 (ns .u64 (pL x y z t))) = ns .u64 y ∧ Wz 5 (B1 10 (ns .u64 (pL x y z t))) = ns .u64 z ∧ Wz 5 (B1 15 (ns .u64 (pL x y z t))) = ns .u64 t:=by
 obtain ⟨a0,a1,a2,a3,a4,rfl,-⟩:=hx.five
 obtain ⟨b0,b1,b2,b3,b4,rfl,-⟩:=hy.five
 obtain ⟨c0,c1,c2,c3,c4,rfl,-⟩:=hz.five
 obtain ⟨d0,d1,d2,d3,d4,rfl,-⟩:=ht.five
 exact ⟨rfl,rfl,rfl,rfl⟩
theorem Qbw {a b:List Nat} {k:Nat} (ha:El a k) (hb:El b k):fillL (Qb 10 (Value.int .u64 0)) [(0,5,eV a),(5,5,eV b)] = some (ns .u64 (a ++ b)):=by
 obtain ⟨a0,a1,a2,a3,a4,rfl,-⟩:=ha.five
 obtain ⟨b0,b1,b2,b3,b4,rfl,-⟩:=hb.five
 rfl
theorem Qiz {a b c:List Nat} {k:Nat} (ha:El a k) (hb:El b k) (hc:El c k):fillL (Qb 15 (Value.int .u64 0)) [(0,5,eV a),(5,5,eV b),(10,5,eV c)] = some (ns .u64 [a,b,c].flatten):=by
 obtain ⟨a0,a1,a2,a3,a4,rfl,-⟩:=ha.five
 obtain ⟨b0,b1,b2,b3,b4,rfl,-⟩:=hb.five
 obtain ⟨c0,c1,c2,c3,c4,rfl,-⟩:=hc.five
 rfl
theorem Qbv {a b c d:List Nat} {k:Nat} (ha:El a k) (hb:El b k) (hc:El c k) (hd:El d k):fillL (Qb 20 (Value.int .u64 0)) [(0,5,eV a),(5,5,eV b),(10,5,eV c),(15,5,eV d)] = some (ns .u64 (pL a b c d)):=by
 obtain ⟨a0,a1,a2,a3,a4,rfl,-⟩:=ha.five
 obtain ⟨b0,b1,b2,b3,b4,rfl,-⟩:=hb.five
 obtain ⟨c0,c1,c2,c3,c4,rfl,-⟩:=hc.five
 obtain ⟨d0,d1,d2,d3,d4,rfl,-⟩:=hd.five
 rfl
theorem Qlu (a b c d:List Nat):pL a b c d = [a,b,c,d].flatten:=by simp [pL]
theorem Qov:El [2,0,0,0,0] (2 ^ 52):=Tv (by decide)
theorem Qot:V7 T 28 [.int .u32 2] = some (eV [2,0,0,0,0]):=Qcc (n:=2) (by decide)
theorem Qjr:fe [2,0,0,0,0] = 2:=by rw [Tu]; rfl
theorem Qw9 {x1 y1 z1 t1 x2 y2 z2 t2 d:List Nat} (Ex1:El x1 (2 ^ 52)) (Ey1:El y1 (2 ^ 52)) (Ez1:El z1 (2 ^ 52)) (Et1:El t1 (2 ^ 52)) (Ex2:El x2 (2 ^ 52)) (Ey2:El y2 (2 ^ 52)) (Ez2:El z2 (2 ^ 52)) (Et2:El t2 (2 ^ 52)) (Ed:El d (2 ^ 52)) :
  ∃ x y z t,V7 T 33 [pV x1 y1 z1 t1,pV x2 y2 z2 t2,eV d] = some (pV x y z t) ∧ El x (2 ^ 52) ∧ El y (2 ^ 52) ∧ El z (2 ^ 52) ∧ El t (2 ^ 52) ∧
   ∃ a b c e:Go.Fp.Fe,a = (fe y1 - fe x1) * (fe y2 - fe x2) ∧ b = (fe y1 + fe x1) * (fe y2 + fe x2) ∧ c = 1 * 2 * fe d * fe t1 * fe t2 ∧ e = 1 * 2 * fe z1 * fe z2 ∧
    fe x = (b - a) * (e - c) ∧ fe y = (e + c) * (b + a) ∧ fe z = (e - c) * (e + c) ∧ fe t = (b - a) * (b + a):=by
 obtain ⟨two,htwo⟩:∃ two:List Nat,two = [2,0,0,0,0]:=⟨_,rfl⟩
 have Etwo:El two (2 ^ 52):=by rw [htwo]; exact Qov
 have vtwo:V7 T 28 [.int .u32 2] = some (eV two):=by rw [htwo]; exact Qot
 have ftwo:fe two = 2:=by rw [htwo]; exact Qjr
 clear htwo
 obtain ⟨r1,hr1,Er1,fr1⟩:=Qbo Ey1 Ex1
 obtain ⟨r2,hr2,Er2,fr2⟩:=Qbo Ey2 Ex2
 obtain ⟨r3,hr3,Er3,fr3⟩:=Wq Er1 Er2
 obtain ⟨r4,sr4,hr4,Er4,fr4⟩:=H4 (H:=[⟨ns .u64 (pL x1 y1 z1 t1),true,true,true,1⟩,⟨ns .u64 (pL x2 y2 z2 t2),true,true,true,1⟩,⟨ns .u64 d,true,true,true,1⟩,⟨Qb 20 (.int .u64 0),true,true,true,1⟩,⟨ns .u64 r3,true,true,true,1⟩,⟨ns .u64 (y1 ++ x1),true,true,true,1⟩]) (id:=5) Ey1 Ex1 rfl
 simp only [Q3,Q2] at hr4
 obtain ⟨r5,sr5,hr5,Er5,fr5⟩:=H4 (H:=[⟨ns .u64 (pL x1 y1 z1 t1),true,true,true,1⟩,⟨ns .u64 (pL x2 y2 z2 t2),true,true,true,1⟩,⟨ns .u64 d,true,true,true,1⟩,⟨Qb 20 (.int .u64 0),true,true,true,1⟩,⟨ns .u64 r3,true,true,true,1⟩,⟨ns .u64 (y1 ++ x1),true,true,true,1⟩,⟨ns .u64 r4,true,true,true,1⟩,⟨ns .u64 sr4,true,true,true,1⟩,⟨ns .u64 y1,true,true,true,1⟩,⟨ns .u64 x1,true,true,true,1⟩,⟨ns .u64 (y2 ++ x2),true,true,true,1⟩]) (id:=10) Ey2 Ex2 rfl
 simp only [Q3,Q2] at hr5
 obtain ⟨r6,hr6,Er6,fr6⟩:=Wq Er4 Er5
 obtain ⟨r7,hr7,Er7,fr7⟩:=D6 (H:=[⟨ns .u64 (pL x1 y1 z1 t1),true,true,true,1⟩,⟨ns .u64 (pL x2 y2 z2 t2),true,true,true,1⟩,⟨ns .u64 d,true,true,true,1⟩,⟨Qb 20 (.int .u64 0),true,true,true,1⟩,⟨ns .u64 r3,true,true,true,1⟩,⟨ns .u64 (y1 ++ x1),true,true,true,1⟩,⟨ns .u64 r4,true,true,true,1⟩,⟨ns .u64 sr4,true,true,true,1⟩,⟨ns .u64 y1,true,true,true,1⟩,⟨ns .u64 x1,true,true,true,1⟩,⟨ns .u64 (y2 ++ x2),true,true,true,1⟩,⟨ns .u64 r5,true,true,true,1⟩,⟨ns .u64 sr5,true,true,true,1⟩,⟨ns .u64 y2,true,true,true,1⟩,⟨ns .u64 x2,true,true,true,1⟩,⟨ns .u64 r6,true,true,true,1⟩,⟨ns .u64 [two,d,t1,t2].flatten,true,true,true,1⟩]) (id:=16) (n:=4) (xs:=[two,d,t1,t2]) rfl (by decide) (by intro w hw; simp only [Wm,Ws,or_false] at hw; rcases hw with rfl | rfl | rfl | rfl <;> assumption) rfl
 simp only [Q3,Q2,Yf,Wo,Wp,Bt] at hr7 fr7
 obtain ⟨r8,hr8,Er8,fr8⟩:=D6 (H:=[⟨ns .u64 (pL x1 y1 z1 t1),true,true,true,1⟩,⟨ns .u64 (pL x2 y2 z2 t2),true,true,true,1⟩,⟨ns .u64 d,true,true,true,1⟩,⟨Qb 20 (.int .u64 0),true,true,true,1⟩,⟨ns .u64 r3,true,true,true,1⟩,⟨ns .u64 (y1 ++ x1),true,true,true,1⟩,⟨ns .u64 r4,true,true,true,1⟩,⟨ns .u64 sr4,true,true,true,1⟩,⟨ns .u64 y1,true,true,true,1⟩,⟨ns .u64 x1,true,true,true,1⟩,⟨ns .u64 (y2 ++ x2),true,true,true,1⟩,⟨ns .u64 r5,true,true,true,1⟩,⟨ns .u64 sr5,true,true,true,1⟩,⟨ns .u64 y2,true,true,true,1⟩,⟨ns .u64 x2,true,true,true,1⟩,⟨ns .u64 r6,true,true,true,1⟩,⟨ns .u64 [two,d,t1,t2].flatten,true,true,true,1⟩,⟨ns .u64 r7,true,true,true,1⟩,⟨ns .u64 r7,true,true,true,1⟩,⟨ns .u64 two,true,true,true,1⟩,⟨ns .u64 d,true,true,true,1⟩,⟨ns .u64 t1,true,true,true,1⟩,⟨ns .u64 t2,true,true,true,1⟩,⟨ns .u64 r7,true,true,true,1⟩,⟨ns .u64 [two,z1,z2].flatten,true,true,true,1⟩]) (id:=24) (n:=3) (xs:=[two,z1,z2]) rfl (by decide) (by intro w hw; simp only [Wm,Ws,or_false] at hw; rcases hw with rfl | rfl | rfl <;> assumption) rfl
 simp only [Q3,Q2,Yf,Wo,Wp,Bt] at hr8 fr8
 obtain ⟨r9,hr9,Er9,fr9⟩:=Qbo Er6 Er3
 obtain ⟨r10,hr10,Er10,fr10⟩:=Qbo Er8 Er7
 obtain ⟨r11,sr11,hr11,Er11,fr11⟩:=H4 (H:=[⟨ns .u64 (pL x1 y1 z1 t1),true,true,true,1⟩,⟨ns .u64 (pL x2 y2 z2 t2),true,true,true,1⟩,⟨ns .u64 d,true,true,true,1⟩,⟨Qb 20 (.int .u64 0),true,true,true,1⟩,⟨ns .u64 r3,true,true,true,1⟩,⟨ns .u64 (y1 ++ x1),true,true,true,1⟩,⟨ns .u64 r4,true,true,true,1⟩,⟨ns .u64 sr4,true,true,true,1⟩,⟨ns .u64 y1,true,true,true,1⟩,⟨ns .u64 x1,true,true,true,1⟩,⟨ns .u64 (y2 ++ x2),true,true,true,1⟩,⟨ns .u64 r5,true,true,true,1⟩,⟨ns .u64 sr5,true,true,true,1⟩,⟨ns .u64 y2,true,true,true,1⟩,⟨ns .u64 x2,true,true,true,1⟩,⟨ns .u64 r6,true,true,true,1⟩,⟨ns .u64 [two,d,t1,t2].flatten,true,true,true,1⟩,⟨ns .u64 r7,true,true,true,1⟩,⟨ns .u64 r7,true,true,true,1⟩,⟨ns .u64 two,true,true,true,1⟩,⟨ns .u64 d,true,true,true,1⟩,⟨ns .u64 t1,true,true,true,1⟩,⟨ns .u64 t2,true,true,true,1⟩,⟨ns .u64 r7,true,true,true,1⟩,⟨ns .u64 [two,z1,z2].flatten,true,true,true,1⟩,⟨ns .u64 r8,true,true,true,1⟩,⟨ns .u64 r8,true,true,true,1⟩,⟨ns .u64 two,true,true,true,1⟩,⟨ns .u64 z1,true,true,true,1⟩,⟨ns .u64 z2,true,true,true,1⟩,⟨ns .u64 r8,true,true,true,1⟩,⟨ns .u64 (r8 ++ r7),true,true,true,1⟩]) (id:=31) Er8 Er7 rfl
 simp only [Q3,Q2] at hr11
 obtain ⟨r12,sr12,hr12,Er12,fr12⟩:=H4 (H:=[⟨ns .u64 (pL x1 y1 z1 t1),true,true,true,1⟩,⟨ns .u64 (pL x2 y2 z2 t2),true,true,true,1⟩,⟨ns .u64 d,true,true,true,1⟩,⟨Qb 20 (.int .u64 0),true,true,true,1⟩,⟨ns .u64 r3,true,true,true,1⟩,⟨ns .u64 (y1 ++ x1),true,true,true,1⟩,⟨ns .u64 r4,true,true,true,1⟩,⟨ns .u64 sr4,true,true,true,1⟩,⟨ns .u64 y1,true,true,true,1⟩,⟨ns .u64 x1,true,true,true,1⟩,⟨ns .u64 (y2 ++ x2),true,true,true,1⟩,⟨ns .u64 r5,true,true,true,1⟩,⟨ns .u64 sr5,true,true,true,1⟩,⟨ns .u64 y2,true,true,true,1⟩,⟨ns .u64 x2,true,true,true,1⟩,⟨ns .u64 r6,true,true,true,1⟩,⟨ns .u64 [two,d,t1,t2].flatten,true,true,true,1⟩,⟨ns .u64 r7,true,true,true,1⟩,⟨ns .u64 r7,true,true,true,1⟩,⟨ns .u64 two,true,true,true,1⟩,⟨ns .u64 d,true,true,true,1⟩,⟨ns .u64 t1,true,true,true,1⟩,⟨ns .u64 t2,true,true,true,1⟩,⟨ns .u64 r7,true,true,true,1⟩,⟨ns .u64 [two,z1,z2].flatten,true,true,true,1⟩,⟨ns .u64 r8,true,true,true,1⟩,⟨ns .u64 r8,true,true,true,1⟩,⟨ns .u64 two,true,true,true,1⟩,⟨ns .u64 z1,true,true,true,1⟩,⟨ns .u64 z2,true,true,true,1⟩,⟨ns .u64 r8,true,true,true,1⟩,⟨ns .u64 (r8 ++ r7),true,true,true,1⟩,⟨ns .u64 r11,true,true,true,1⟩,⟨ns .u64 sr11,true,true,true,1⟩,⟨ns .u64 r8,true,true,true,1⟩,⟨ns .u64 r7,true,true,true,1⟩,⟨ns .u64 (r6 ++ r3),true,true,true,1⟩]) (id:=36) Er6 Er3 rfl
 simp only [Q3,Q2] at hr12
 obtain ⟨r13,hr13,Er13,fr13⟩:=Wq Er9 Er10
 obtain ⟨r14,hr14,Er14,fr14⟩:=Wq Er11 Er12
 obtain ⟨r15,hr15,Er15,fr15⟩:=Wq Er10 Er11
 obtain ⟨r16,hr16,Er16,fr16⟩:=Wq Er9 Er12
 refine ⟨r13,r14,r15,r16,?_,Er13,Er14,Er15,Er16,fe r3,fe r6,fe r7,fe r8,?_⟩
 ·obtain ⟨q10,q11,q12,q13⟩:=Qj1 Ex1 Ey1 Ez1 Et1
  obtain ⟨q20,q21,q22,q23⟩:=Qj1 Ex2 Ey2 Ez2 Et2
  have p1:=Bw Ex1 Ey1 Ez1 Et1
  have p2:=Bw Ex2 Ey2 Ez2 Et2
  have p3:=Bw Er13 Er14 Er15 Er16
  have k4:=Qbv Etwo Ed Et1 Et2
  rw [Qlu] at k4
  have k3:=Qiz Etwo Ez1 Ez2
  have kp:=Qbv Er13 Er14 Er15 Er16
  have m1:=Qbw Ey1 Ex1
  have m2:=Qbw Ey2 Ex2
  have m3:=Qbw Er8 Er7
  have m4:=Qbw Er6 Er3
  have Lx1:=Ex1.len
  have Ly1:=Ey1.len
  have Lz1:=Ez1.len
  have Lt1:=Et1.len
  have Lx2:=Ex2.len
  have Ly2:=Ey2.len
  have Lz2:=Ez2.len
  have Lt2:=Et2.len
  have Ld:=Ed.len
  have Ltwo:=Etwo.len
  have Lr1:=Er1.len
  have Lr2:=Er2.len
  have Lr3:=Er3.len
  have Lr4:=Er4.len
  have Lr5:=Er5.len
  have Lr6:=Er6.len
  have Lr7:=Er7.len
  have Lr8:=Er8.len
  have Lr9:=Er9.len
  have Lr10:=Er10.len
  have Lr11:=Er11.len
  have Lr12:=Er12.len
  have Lr13:=Er13.len
  have Lr14:=Er14.len
  have Lr15:=Er15.len
  have Lr16:=Er16.len
  apply Vc
  apply J4
  rw [J3 (fn:=a54) rfl]
  simp only [a54,J2,quiet,cF,↓pF,reduceCtorEq,Qc,Qp,Ja,Je,J5,Jd,Zy,Q7,Zf,Q4,Zc,Zl,Zk,↓Z0,↓Zz,↓Jr,↓Ju,↓Js,↓Jt,cL,Qo,Qn,Q1,Q0,Qx,Qs,Qr,Qz,Qd,Q5,Q6,Qy,Qj,Qi,Qh,Qw,Qv,Qu,Qm,Ql,cJ,Zi,Vm,Qh3,Qls,Qvy,Qlt,Qvv,Kv,Vf,Yq,Vg,Yt,K3,q10,q11,q12,q13,q20,q21,q22,q23,p1,p2,p3,k4,k3,kp,m1,m2,m3,m4,vtwo,hr1,hr2,hr3,hr4,hr5,hr6,hr7,hr8,hr9,hr10,hr11,hr12,hr13,hr14,hr15,hr16,Lx1,Ly1,Lz1,Lt1,Lx2,Ly2,Lz2,Lt2,Ld,Ltwo,Lr1,Lr2,Lr3,Lr4,Lr5,Lr6,Lr7,Lr8,Lr9,Lr10,Lr11,Lr12,Lr13,Lr14,Lr15,Lr16]
  rfl
 ·refine ⟨?_,?_,?_,?_,?_,?_,?_,?_⟩
  ·rw [fr3,fr1,fr2]
  ·rw [fr6,fr4,fr5]
  ·rw [fr7,ftwo]
  ·rw [fr8,ftwo]
  ·rw [fr13,fr9,fr10]
  ·rw [fr14,fr11,fr12]
  ·rw [fr15,fr10,fr11]
  ·rw [fr16,fr9,fr12]
theorem Qse {x1 y1 z1 t1:List Nat} (Ex1:El x1 (2 ^ 52)) (Ey1:El y1 (2 ^ 52)) (Ez1:El z1 (2 ^ 52)) (Et1:El t1 (2 ^ 52)) :
  ∃ x y z t,V7 T 32 [pV x1 y1 z1 t1] = some (pV x y z t) ∧ El x (2 ^ 52) ∧ El y (2 ^ 52) ∧ El z (2 ^ 52) ∧ El t (2 ^ 52) ∧
   ∃ a b c h e g f:Go.Fp.Fe,a = fe x1 * fe x1 ∧ b = fe y1 * fe y1 ∧ c = 1 * 2 * fe z1 * fe z1 ∧ h = a + b ∧ e = h - (fe x1 + fe y1) * (fe x1 + fe y1) ∧ g = a - b ∧ f = c + g ∧
    fe x = e * f ∧ fe y = g * h ∧ fe z = f * g ∧ fe t = e * h:=by
 obtain ⟨two,htwo⟩:∃ two:List Nat,two = [2,0,0,0,0]:=⟨_,rfl⟩
 have Etwo:El two (2 ^ 52):=by rw [htwo]; exact Qov
 have vtwo:V7 T 28 [.int .u32 2] = some (eV two):=by rw [htwo]; exact Qot
 have ftwo:fe two = 2:=by rw [htwo]; exact Qjr
 clear htwo
 obtain ⟨r1,hr1,Er1,fr1⟩:=Wq Ex1 Ex1
 obtain ⟨r2,hr2,Er2,fr2⟩:=Wq Ey1 Ey1
 obtain ⟨r3,hr3,Er3,fr3⟩:=D6 (H:=[⟨ns .u64 (pL x1 y1 z1 t1),true,true,true,1⟩,⟨Qb 20 (.int .u64 0),true,true,true,1⟩,⟨ns .u64 r1,true,true,true,1⟩,⟨ns .u64 r2,true,true,true,1⟩,⟨ns .u64 [two,z1,z1].flatten,true,true,true,1⟩]) (id:=4) (n:=3) (xs:=[two,z1,z1]) rfl (by decide) (by intro w hw; simp only [Wm,Ws,or_false] at hw; rcases hw with rfl | rfl | rfl <;> assumption) rfl
 simp only [Q3,Q2,Yf,Wo,Wp,Bt] at hr3 fr3
 obtain ⟨r4,sr4,hr4,Er4,fr4⟩:=H4 (H:=[⟨ns .u64 (pL x1 y1 z1 t1),true,true,true,1⟩,⟨Qb 20 (.int .u64 0),true,true,true,1⟩,⟨ns .u64 r1,true,true,true,1⟩,⟨ns .u64 r2,true,true,true,1⟩,⟨ns .u64 [two,z1,z1].flatten,true,true,true,1⟩,⟨ns .u64 r3,true,true,true,1⟩,⟨ns .u64 r3,true,true,true,1⟩,⟨ns .u64 two,true,true,true,1⟩,⟨ns .u64 z1,true,true,true,1⟩,⟨ns .u64 z1,true,true,true,1⟩,⟨ns .u64 r3,true,true,true,1⟩,⟨ns .u64 (r1 ++ r2),true,true,true,1⟩]) (id:=11) Er1 Er2 rfl
 simp only [Q3,Q2] at hr4
 obtain ⟨r5,sr5,hr5,Er5,fr5⟩:=H4 (H:=[⟨ns .u64 (pL x1 y1 z1 t1),true,true,true,1⟩,⟨Qb 20 (.int .u64 0),true,true,true,1⟩,⟨ns .u64 r1,true,true,true,1⟩,⟨ns .u64 r2,true,true,true,1⟩,⟨ns .u64 [two,z1,z1].flatten,true,true,true,1⟩,⟨ns .u64 r3,true,true,true,1⟩,⟨ns .u64 r3,true,true,true,1⟩,⟨ns .u64 two,true,true,true,1⟩,⟨ns .u64 z1,true,true,true,1⟩,⟨ns .u64 z1,true,true,true,1⟩,⟨ns .u64 r3,true,true,true,1⟩,⟨ns .u64 (r1 ++ r2),true,true,true,1⟩,⟨ns .u64 r4,true,true,true,1⟩,⟨ns .u64 sr4,true,true,true,1⟩,⟨ns .u64 r1,true,true,true,1⟩,⟨ns .u64 r2,true,true,true,1⟩,⟨ns .u64 r4,true,true,true,1⟩,⟨ns .u64 (x1 ++ y1),true,true,true,1⟩]) (id:=17) Ex1 Ey1 rfl
 simp only [Q3,Q2] at hr5
 obtain ⟨r6,hr6,Er6,fr6⟩:=Wq Er5 Er5
 obtain ⟨r7,hr7,Er7,fr7⟩:=Qbo Er4 Er6
 obtain ⟨r8,hr8,Er8,fr8⟩:=Qbo Er1 Er2
 obtain ⟨r9,sr9,hr9,Er9,fr9⟩:=H4 (H:=[⟨ns .u64 (pL x1 y1 z1 t1),true,true,true,1⟩,⟨Qb 20 (.int .u64 0),true,true,true,1⟩,⟨ns .u64 r1,true,true,true,1⟩,⟨ns .u64 r2,true,true,true,1⟩,⟨ns .u64 [two,z1,z1].flatten,true,true,true,1⟩,⟨ns .u64 r3,true,true,true,1⟩,⟨ns .u64 r3,true,true,true,1⟩,⟨ns .u64 two,true,true,true,1⟩,⟨ns .u64 z1,true,true,true,1⟩,⟨ns .u64 z1,true,true,true,1⟩,⟨ns .u64 r3,true,true,true,1⟩,⟨ns .u64 (r1 ++ r2),true,true,true,1⟩,⟨ns .u64 r4,true,true,true,1⟩,⟨ns .u64 sr4,true,true,true,1⟩,⟨ns .u64 r1,true,true,true,1⟩,⟨ns .u64 r2,true,true,true,1⟩,⟨ns .u64 r4,true,true,true,1⟩,⟨ns .u64 (x1 ++ y1),true,true,true,1⟩,⟨ns .u64 r5,true,true,true,1⟩,⟨ns .u64 sr5,true,true,true,1⟩,⟨ns .u64 x1,true,true,true,1⟩,⟨ns .u64 y1,true,true,true,1⟩,⟨ns .u64 r5,true,true,true,1⟩,⟨ns .u64 r7,true,true,true,1⟩,⟨ns .u64 r8,true,true,true,1⟩,⟨ns .u64 (r3 ++ r8),true,true,true,1⟩]) (id:=25) Er3 Er8 rfl
 simp only [Q3,Q2] at hr9
 obtain ⟨r10,hr10,Er10,fr10⟩:=Wq Er7 Er9
 obtain ⟨r11,hr11,Er11,fr11⟩:=Wq Er8 Er4
 obtain ⟨r12,hr12,Er12,fr12⟩:=Wq Er9 Er8
 obtain ⟨r13,hr13,Er13,fr13⟩:=Wq Er7 Er4
 refine ⟨r10,r11,r12,r13,?_,Er10,Er11,Er12,Er13,fe r1,fe r2,fe r3,fe r4,fe r7,fe r8,fe r9,?_⟩
 ·obtain ⟨q10,q11,q12,q13⟩:=Qj1 Ex1 Ey1 Ez1 Et1
  have p1:=Bw Ex1 Ey1 Ez1 Et1
  have p3:=Bw Er10 Er11 Er12 Er13
  have k3:=Qiz Etwo Ez1 Ez1
  have kp:=Qbv Er10 Er11 Er12 Er13
  have m1:=Qbw Er1 Er2
  have m2:=Qbw Ex1 Ey1
  have m3:=Qbw Er3 Er8
  have Lx1:=Ex1.len
  have Ly1:=Ey1.len
  have Lz1:=Ez1.len
  have Lt1:=Et1.len
  have Ltwo:=Etwo.len
  have Lr1:=Er1.len
  have Lr2:=Er2.len
  have Lr3:=Er3.len
  have Lr4:=Er4.len
  have Lr5:=Er5.len
  have Lr6:=Er6.len
  have Lr7:=Er7.len
  have Lr8:=Er8.len
  have Lr9:=Er9.len
  have Lr10:=Er10.len
  have Lr11:=Er11.len
  have Lr12:=Er12.len
  have Lr13:=Er13.len
  apply Vc
  apply J4
  rw [J3 (fn:=a53) rfl]
  simp only [a53,J2,quiet,cF,↓pF,reduceCtorEq,Qc,Qp,Ja,Je,J5,Jd,Zy,Q7,Zf,Q4,Zc,Zl,Zk,↓Z0,↓Zz,↓Jr,↓Ju,↓Js,↓Jt,cL,Qo,Qn,Q1,Q0,Qx,Qs,Qr,Qz,Qd,Q5,Q6,Qy,Qj,Qi,Qh,Qw,Qv,Qu,Qm,Ql,cJ,Zi,Vm,Qh3,Qls,Qvy,Qlt,Qvv,Kv,Vf,Yq,Vg,Yt,K3,q10,q11,q12,q13,p1,p3,k3,kp,m1,m2,m3,vtwo,hr1,hr2,hr3,hr4,hr5,hr6,hr7,hr8,hr9,hr10,hr11,hr12,hr13,Lx1,Ly1,Lz1,Lt1,Ltwo,Lr1,Lr2,Lr3,Lr4,Lr5,Lr6,Lr7,Lr8,Lr9,Lr10,Lr11,Lr12,Lr13]
  rfl
 ·refine ⟨fr1,fr2,by rw [fr3,ftwo],fr4,by rw [fr7,fr6,fr5],fr8,fr9,?_,?_,?_,?_⟩
  ·rw [fr10]
  ·rw [fr11]
  ·rw [fr12]
  ·rw [fr13]
structure Rep (x y z t:List Nat) (p:Go.Cv.Pt Go.Fp.P Go.Fp.d):Prop where
 ex:El x (2 ^ 52)
 ey:El y (2 ^ 52)
 ez:El z (2 ^ 52)
 et:El t (2 ^ 52)
 nz:fe z ≠ 0
 x:fe x = p.x * fe z
 y:fe y = p.y * fe z
 t:fe t = p.x * p.y * fe z
abbrev Uf (p q:Go.Cv.Pt Go.Fp.P Go.Fp.d):Go.Cv.Pt Go.Fp.P Go.Fp.d:=Go.Cv.Pt.add Go.Fp.fld p q
abbrev Yl (k:Nat) (p:Go.Cv.Pt Go.Fp.P Go.Fp.d):Go.Cv.Pt Go.Fp.P Go.Fp.d:=Go.Cv.Pt.mul Go.Fp.fld k p
abbrev U0:Go.Cv.Pt Go.Fp.P Go.Fp.d:=Go.Cv.Pt.zero
theorem Qfc {x1 y1 z1 t1 x2 y2 z2 t2 dd a b c e x y z t px py qx qy rx ry:Go.Fp.Fe} (hx1:x1 = px * z1) (hy1:y1 = py * z1) (ht1:t1 = px * py * z1) (hx2:x2 = qx * z2) (hy2:y2 = qy * z2) (ht2:t2 = qx * qy * z2)
  (ha:a = (y1 - x1) * (y2 - x2)) (hb:b = (y1 + x1) * (y2 + x2)) (hc:c = 1 * 2 * dd * t1 * t2) (he:e = 1 * 2 * z1 * z2) (hx:x = (b - a) * (e - c)) (hy:y = (e + c) * (b + a)) (hz:z = (e - c) * (e + c)) (ht:t = (b - a) * (b + a))
  (hrx:rx * (1 + dd * px * qx * py * qy) = px * qy + qx * py) (hry:ry * (1 - dd * px * qx * py * qy) = py * qy + px * qx) :
  x = rx * z ∧ y = ry * z ∧ t = rx * ry * z ∧ z = (2 * z1 * z2) * (2 * z1 * z2) * ((1 - dd * px * qx * py * qy) * (1 + dd * px * qx * py * qy)):=by
 have e1:b - a = (2 * z1 * z2) * (px * qy + qx * py):=by rw [hb,ha,hx1,hy1,hx2,hy2]; grobner
 have e2:b + a = (2 * z1 * z2) * (py * qy + px * qx):=by rw [hb,ha,hx1,hy1,hx2,hy2]; grobner
 have e3:e - c = (2 * z1 * z2) * (1 - dd * px * qx * py * qy):=by rw [he,hc,ht1,ht2]; grobner
 have e4:e + c = (2 * z1 * z2) * (1 + dd * px * qx * py * qy):=by rw [he,hc,ht1,ht2]; grobner
 rw [e1,← hrx,e3] at hx
 rw [e4,e2,← hry] at hy
 rw [e3,e4] at hz
 rw [e1,e2,← hrx,← hry] at ht
 clear hx1 hy1 ht1 hx2 hy2 ht2 ha hb hc he hrx hry e1 e2 e3 e4
 generalize 1 + dd * px * qx * py * qy = k at *
 generalize 1 - dd * px * qx * py * qy = m at *
 generalize 2 * z1 * z2 = w at *
 subst hx hy hz ht
 refine ⟨?_,?_,?_,?_⟩ <;> grobner
theorem Rep.plus {x1 y1 z1 t1 x2 y2 z2 t2 d:List Nat} {p q:Go.Cv.Pt Go.Fp.P Go.Fp.d} (h1:Rep x1 y1 z1 t1 p) (h2:Rep x2 y2 z2 t2 q) (Ed:El d (2 ^ 52)) (hd:fe d = Go.Fp.d) :
  ∃ x y z t,V7 T 33 [pV x1 y1 z1 t1,pV x2 y2 z2 t2,eV d] = some (pV x y z t) ∧ Rep x y z t (Uf p q):=by
 obtain ⟨x,y,z,t,hv,Ex,Ey,Ez,Et,a,b,c,e,ha,hb,hc,he,hx,hy,hz,ht⟩:=Qw9 h1.ex h1.ey h1.ez h1.et h2.ex h2.ey h2.ez h2.et Ed
 rw [hd] at hc
 obtain ⟨g1,g2,g3,g4⟩:=Qfc h1.x h1.y h1.t h2.x h2.y h2.t ha hb hc he hx hy hz ht (Go.Cv.Qaj Go.Fp.fld p q) (Go.Cv.Qai Go.Fp.fld p q)
 refine ⟨x,y,z,t,hv,Ex,Ey,Ez,Et,?_,g1,g2,g3⟩
 rw [g4]
 have F:=Go.Fp.fld
 have w:=F.mul_ne (F.mul_ne F.two h1.nz) h2.nz
 exact F.mul_ne (F.mul_ne w w) (F.mul_ne (F.denM p.on q.on) (F.denP p.on q.on))
theorem Qjt {x1 y1 z1 dd a b c h e g f x y z t px py rx ry:Go.Fp.Fe} (hx1:x1 = px * z1) (hy1:y1 = py * z1) (on : -(px * px) + py * py = 1 + dd * (px * px) * (py * py))
  (ha:a = x1 * x1) (hb:b = y1 * y1) (hc:c = 1 * 2 * z1 * z1) (hh:h = a + b) (he:e = h - (x1 + y1) * (x1 + y1)) (hg:g = a - b) (hf:f = c + g) (hx:x = e * f) (hy:y = g * h) (hz:z = f * g) (ht:t = e * h)
  (hrx:rx * (1 + dd * px * px * py * py) = px * py + px * py) (hry:ry * (1 - dd * px * px * py * py) = py * py + px * px) :
  x = rx * z ∧ y = ry * z ∧ t = rx * ry * z ∧ z = -((z1 * z1) * (z1 * z1) * ((1 - dd * px * px * py * py) * (1 + dd * px * px * py * py))):=by
 have e1:e = -((z1 * z1) * (px * py + px * py)):=by rw [he,hh,ha,hb,hx1,hy1]; grobner
 have e2:h = (z1 * z1) * (py * py + px * px):=by rw [hh,ha,hb,hx1,hy1]; grobner
 have e3:g = -((z1 * z1) * (1 + dd * px * px * py * py)):=by
  have:1 + dd * px * px * py * py = py * py - px * px:=by
   clear hx1 hy1 ha hb hc hh he hg hf hx hy hz ht hrx hry e1 e2
   grobner
  rw [this,hg,ha,hb,hx1,hy1]; grobner
 have e4:f = (z1 * z1) * (1 - dd * px * px * py * py):=by
  rw [hf,e3,hc]
  clear hx1 hy1 on ha hb hc hh he hg hf hx hy hz ht hrx hry e1 e2 e3
  grobner
 rw [← hrx] at e1
 rw [← hry] at e2
 clear hx1 hy1 on ha hb hc hh he hg hf hrx hry
 generalize 1 + dd * px * px * py * py = k at *
 generalize 1 - dd * px * px * py * py = m at *
 generalize z1 * z1 = w at *
 subst e1 e2 e3 e4 hx hy hz ht
 refine ⟨?_,?_,?_,?_⟩ <;> grobner
theorem Rep.twice {x1 y1 z1 t1:List Nat} {p:Go.Cv.Pt Go.Fp.P Go.Fp.d} (h1:Rep x1 y1 z1 t1 p):∃ x y z t,V7 T 32 [pV x1 y1 z1 t1] = some (pV x y z t) ∧ Rep x y z t (Uf p p):=by
 obtain ⟨x,y,z,t,hv,Ex,Ey,Ez,Et,a,b,c,h,e,g,f,ha,hb,hc,hh,he,hg,hf,hx,hy,hz,ht⟩:=Qse h1.ex h1.ey h1.ez h1.et
 obtain ⟨g1,g2,g3,g4⟩:=Qjt h1.x h1.y p.on ha hb hc hh he hg hf hx hy hz ht (Go.Cv.Qaj Go.Fp.fld p p) (Go.Cv.Qai Go.Fp.fld p p)
 refine ⟨x,y,z,t,hv,Ex,Ey,Ez,Et,?_,g1,g2,g3⟩
 rw [g4]
 have F:=Go.Fp.fld
 have w:=F.mul_ne h1.nz h1.nz
 have n:=F.mul_ne (F.mul_ne w w) (F.mul_ne (F.denM p.on p.on) (F.denP p.on p.on))
 intro h0
 exact n (by grobner)
def RepL (l:List Nat) (p:Go.Cv.Pt Go.Fp.P Go.Fp.d):Prop:=∃ x y z t,l = pL x y z t ∧ Rep x y z t p
theorem RepL.len {l:List Nat} {p:Go.Cv.Pt Go.Fp.P Go.Fp.d} (h:RepL l p):l.length = 20:=by
 obtain ⟨x,y,z,t,rfl,h⟩:=h
 exact Bw h.ex h.ey h.ez h.et
theorem Qvx {l m d:List Nat} {p q:Go.Cv.Pt Go.Fp.P Go.Fp.d} (h1:RepL l p) (h2:RepL m q) (Ed:El d (2 ^ 52)) (hd:fe d = Go.Fp.d):∃ r,V7 T 33 [eV l,eV m,eV d] = some (eV r) ∧ RepL r (Uf p q):=by
 obtain ⟨x,y,z,t,rfl,h1⟩:=h1
 obtain ⟨x2,y2,z2,t2,rfl,h2⟩:=h2
 obtain ⟨a,b,c,e,h3,h4⟩:=h1.plus h2 Ed hd
 exact ⟨pL a b c e,h3,a,b,c,e,rfl,h4⟩
theorem Qfy {l:List Nat} {p:Go.Cv.Pt Go.Fp.P Go.Fp.d} (h1:RepL l p):∃ r,V7 T 32 [eV l] = some (eV r) ∧ RepL r (Uf p p):=by
 obtain ⟨x,y,z,t,rfl,h1⟩:=h1
 obtain ⟨a,b,c,e,h3,h4⟩:=h1.twice
 exact ⟨pL a b c e,h3,a,b,c,e,rfl,h4⟩
def dK:List Nat:=dig 256 32 Go.Fp.dN
theorem Qx7:num 256 dK = Go.Fp.dN:=by decide +kernel
theorem dK_lt:∀ x ∈ dK,x < 256:=fun _ h => Bi (by decide) h
theorem Qdo:∃ r,V7 T 31 [] = some (eV r) ∧ El r (2 ^ 52) ∧ fe r = Go.Fp.d:=by
 have h:=Qqb (k:=dK) (Ku _ _ _) dK_lt
 refine ⟨dig (2 ^ 51) 5 (num 256 dK % 2 ^ 255),?_,Qif,?_⟩
 rotate_left
 ·unfold fe
  rw [Qc9,Qx7]
  rfl
 ·have hl:(dig (2 ^ 51) 5 (num 256 dK % 2 ^ 255)).length = 5:=Ku _ _ _
  have hf:fillL (Qb 32 (Value.int .u8 0)) [(0,1,.int .u8 163),(1,1,.int .u8 120),(2,1,.int .u8 89),(3,1,.int .u8 19),(4,1,.int .u8 202),(5,1,.int .u8 77),(6,1,.int .u8 235),(7,1,.int .u8 117),(8,1,.int .u8 171),(9,1,.int .u8 216),(10,1,.int .u8 65),(11,1,.int .u8 65),(12,1,.int .u8 77),(13,1,.int .u8 10),(14,1,.int .u8 112),(15,1,.int .u8 0),(16,1,.int .u8 152),(17,1,.int .u8 232),(18,1,.int .u8 121),(19,1,.int .u8 119),(20,1,.int .u8 121),(21,1,.int .u8 64),(22,1,.int .u8 199),(23,1,.int .u8 140),(24,1,.int .u8 115),(25,1,.int .u8 254),(26,1,.int .u8 111),(27,1,.int .u8 43),(28,1,.int .u8 238),(29,1,.int .u8 108),(30,1,.int .u8 3),(31,1,.int .u8 82)] = some (u8s dK):=by
   have:dK = [163,120,89,19,202,77,235,117,171,216,65,65,77,10,112,0,152,232,121,119,121,64,199,140,115,254,111,43,238,108,3,82]:=by decide +kernel
   rw [this]; rfl
  generalize dig (2 ^ 51) 5 (num 256 dK % 2 ^ 255) = D at *
  apply Vc
  apply J4
  rw [J3 (fn:=a52) rfl]
  simp only [a52,J2,quiet,cF,↓pF,reduceCtorEq,Qc,Qp,Ja,Je,J5,Jd,Zy,Q7,Zf,Q4,Zc,Zl,Zk,↓Z0,↓Zz,↓Jr,↓Ju,↓Js,↓Jt,cL,Qo,Qn,Q1,Q0,Qx,Qs,Qr,Qz,Qd,Q5,Q6,Qy,Qj,Qi,Qh,Qw,Qv,Qu,Qm,Ql,cJ,hf,h,Zi,Vm,Kv,Vf,Yq,Vg,Yt,K3,hl]
  rfl
theorem Qp0:V7 T 28 [.int .u32 1] = some (eV [1,0,0,0,0]):=Qcc (n:=1) (by decide)
theorem Qcn:El [0,0,0,0,0] (2 ^ 52):=Tv (by decide)
theorem Qlg:fe [0,0,0,0,0] = 0:=by rw [Tu]; rfl
theorem Qjk:∃ r,V7 T 30 [] = some (eV r) ∧ RepL r U0:=by
 refine ⟨pL [0,0,0,0,0] [1,0,0,0,0] [1,0,0,0,0] [0,0,0,0,0],?_,_,_,_,_,rfl,Qcn,Qa8,Qa8,Qcn,?_,?_,?_,?_⟩
 ·have hf:fillL (Qb 20 (Value.int .u64 0)) [(5,5,eV [1,0,0,0,0]),(10,5,eV [1,0,0,0,0])] = some (ns .u64 (pL [0,0,0,0,0] [1,0,0,0,0] [1,0,0,0,0] [0,0,0,0,0])):=rfl
  have hl:(pL [0,0,0,0,0] [1,0,0,0,0] [1,0,0,0,0] [0,0,0,0,0]).length = 20:=rfl
  have hv:=Qp0
  generalize pL [0,0,0,0,0] [1,0,0,0,0] [1,0,0,0,0] [0,0,0,0,0] = Z at *
  generalize ([1,0,0,0,0]:List Nat) = O at *
  apply Vc
  apply J4
  rw [J3 (fn:=a30) rfl]
  simp only [a30,J2,quiet,cF,↓pF,reduceCtorEq,Qc,Qp,Ja,Je,J5,Jd,Zy,Q7,Zf,Q4,Zc,Zl,Zk,↓Z0,↓Zz,↓Jr,↓Ju,↓Js,↓Jt,cL,Qo,Qn,Q1,Q0,Qx,Qs,Qr,Qz,Qd,Q5,Q6,Qy,Qj,Qi,Qh,Qw,Qv,Qu,Qm,Ql,cJ,hf,hv,Zi,Vm,Kv,Vf,Yq,Vg,Yt,K3,hl]
  rfl
 ·rw [Qa7]; exact Go.Fp.My
 ·rw [Qlg]; simp only [Go.Cv.Pt.zero]; grobner
 ·rw [Qa7]; simp only [Go.Cv.Pt.zero]; grobner
 ·rw [Qlg]; simp only [Go.Cv.Pt.zero]; grobner
theorem Qfb (p:Go.Cv.Pt Go.Fp.P Go.Fp.d) (m b:Nat) (hb:b < 2):Yl (2 * m + b) p = if b = 1 then Uf (Uf (Yl m p) (Yl m p)) p else Uf (Yl m p) (Yl m p):=by
 have h1:Yl (2 * m) p = Uf (Yl m p) (Yl m p):=by rw [show 2 * m = m + m by omega]; exact Go.Cv.mul_add Go.Fp.fld m m p
 by_cases h:b = 1
 ·subst h
  rw [if_pos rfl]
  show Uf (Yl (2 * m) p) p = _
  rw [h1]
 ·have:b = 0:=by omega
  subst this
  rw [if_neg (by decide),Z1,h1]
def muI (l k o d:List Nat) (R:Ob) (i:Int) (ex:Env):St:=⟨[(2,.pointer (some ⟨0,0,none⟩)),(3,.pointer (some ⟨1,0,none⟩)),(4,.pointer (some ⟨2,0,none⟩)),(5,.pointer (some ⟨3,0,none⟩)),(6,.pointer (some ⟨4,0,none⟩)),(7,.int .i64 i)] ++ ex,[⟨ns .u64 l,true,true,true,1⟩,⟨u8s k,true,true,true,1⟩,R,⟨ns .u64 o,true,true,true,1⟩,⟨ns .u64 d,true,true,true,1⟩],[]⟩
theorem Qtm {l k o d:List Nat} {R:Ob} {i:Nat} {p:Go.Cv.Pt Go.Fp.P Go.Fp.d} (hl:RepL l p) (lk:k.length = 32) (xk:∀ x ∈ k,x < 256) (hi:i < 256) (Ed:El d (2 ^ 52)) (hd:fe d = Go.Fp.d) (ho:RepL o (Yl (num 256 k / 2 ^ (i + 1)) p)) :
  ∃ r,Xa T 0 Qbl (muI l k o d R i []) = some (.normal,muI l k r d R ((i:Int) - 1) []) ∧ RepL r (Yl (num 256 k / 2 ^ i) p):=by
 obtain ⟨b,hb⟩:∃ b,k[i / 8]? = some b:=⟨_,Qq (by omega)⟩
 have hbv:=Gr (B:=256) (by decide) xk hb
 have hbc:=Ud hb
 have hbit:b / 2 ^ (i % 8) % 2 = num 256 k / 2 ^ i % 2:=by
  rw [← hbv,show (256:Nat) = 2 ^ 8 from rfl,Qma (Jn _ (by decide)),Vn]
 obtain ⟨r1,m1,g1⟩:=Qfy ho
 obtain ⟨r2,m2,g3⟩:=Qvx g1 hl Ed hd
 have hlt:=Qdw (num 256 k) i
 have hnum:num 256 k / 2 ^ i = 2 * (num 256 k / 2 ^ (i + 1)) + num 256 k / 2 ^ i % 2:=by
  rw [K8,← V5]
  omega
 have hstep:=Qfb p (num 256 k / 2 ^ (i + 1)) (num 256 k / 2 ^ i % 2) hlt
 rw [← hnum] at hstep
 have s1:(2:Int) ^ min (i % 8) IntKind.u8.bits = ((2 ^ (i % 8):Nat):Int):=D7 (W2 (Jn _ (by decide)))
 have w2:IntKind.i64.wrap ((i / 8:Nat):Int) = ((i / 8:Nat):Int):=Vt (by omega)
 have w3:IntKind.i64.wrap ((i:Int) - 1) = (i:Int) - 1:=Ya (by omega) (by omega)
 have e1:((0:Int) ≤ (i:Int)) = True:=eq_true (by omega)
 have e3:(((i / 8:Nat):Int) < 32) = True:=eq_true (by omega)
 have e4:(((i % 8:Nat):Int) < 0) = False:=eq_false (by omega)
 have l1:=hl.len
 have l2:=ho.len
 have l3:=g1.len
 have l4:=g3.len
 have l5:=Ed.len
 generalize hB:num 256 k / 2 ^ i % 2 = B at *
 by_cases hB1:B = 1
 ·have hbq:((B:Int) == 1) = true:=by rw [hB1]; rfl
  rw [if_pos hB1] at hstep
  refine ⟨r2,?_,by rw [hstep]; exact g3⟩
  simp only [muI,Qbl,J2,quiet,cF,↓pF,reduceCtorEq,Qc,Qp,Ja,Je,J5,Jd,Zy,Q7,Zf,Q4,Zc,Zl,Zk,↓Z0,↓Zz,↓Jr,↓Ju,↓Js,↓Jt,cL,Qo,Qn,Q1,Q0,Qx,Qs,Qr,Qz,Qd,Q5,Q6,Qy,Qj,Qi,Qh,Qw,Qv,Qu,Qm,Ql,cJ,cU,hbc,hbit,s1,w2,w3,e1,e3,e4,m1,m2,hbq,Vm,Kv,Vf,Yq,Vg,K3,l1,l2,l3,l4,l5,Yt]
 ·have hbq:((B:Int) == 1) = false:=by
   have:B = 0:=by omega
   rw [this]; rfl
  rw [if_neg hB1] at hstep
  refine ⟨r1,?_,by rw [hstep]; exact g1⟩
  simp only [muI,Qbl,J2,quiet,cF,↓pF,reduceCtorEq,Qc,Qp,Ja,Je,J5,Jd,Zy,Q7,Zf,Q4,Zc,Zl,Zk,↓Z0,↓Zz,↓Jr,↓Ju,↓Js,↓Jt,cL,Qo,Qn,Q1,Q0,Qx,Qs,Qr,Qz,Qd,Q5,Q6,Qy,Qj,Qi,Qh,Qw,Qv,Qu,Qm,Ql,cJ,cU,hbc,hbit,s1,w2,w3,e1,e3,e4,m1,m2,hbq,Vm,Kv,Vf,Yq,Vg,K3,l1,l2,l3,l4,l5,Yt]
theorem G9 {l k:List Nat} {p:Go.Cv.Pt Go.Fp.P Go.Fp.d} (hl:RepL l p) (lk:k.length = 32) (xk:∀ x ∈ k,x < 256):∃ r,V7 T 15 [eV l,.agg (u8s k).toArray] = some (eV r) ∧ RepL r (Yl (num 256 k) p):=by
 have hK:=num_lt xk
 rw [lk,show (256:Nat) ^ 32 = 2 ^ 256 from by rw [show (256:Nat) = 2 ^ 8 from rfl,← Ye]] at hK
 obtain ⟨z,hz,hz2⟩:=Qjk
 obtain ⟨d,hd1,Ed,hd⟩:=Qdo
 obtain ⟨st,hb,r,rfl,hr1⟩:=Yn (T:=T) (base:=0) (id:=0) (body:=Qbl)
  (fun j st => ∃ r:List Nat,st = muI l k r d ⟨Qb 20 (.int .u64 0),true,true,true,1⟩ ((255:Int) - j) [] ∧ RepL r (Yl (num 256 k / 2 ^ (256 - j)) p))
  (Q:=fun st => ∃ r:List Nat,st = muI l k r d ⟨Qb 20 (.int .u64 0),true,true,true,1⟩ (-1) [(11,.bool false)] ∧ RepL r (Yl (num 256 k) p))
  256 (s:=muI l k z d ⟨Qb 20 (.int .u64 0),true,true,true,1⟩ 255 []) ⟨_,rfl,by rw [Xj,Wy hK]; exact hz2⟩
  (fun j st hj hs => by
   obtain ⟨r,rfl,h2⟩:=hs
   obtain ⟨i,hi⟩:∃ i,256 - j = i + 1:=⟨255 - j,by omega⟩
   rw [hi] at h2
   obtain ⟨r',g1,g3⟩:=Qtm (R:=⟨Qb 20 (.int .u64 0),true,true,true,1⟩) hl lk xk (i:=i) (by omega) Ed hd h2
   rw [show (255:Int) - j = (i:Int) by omega]
   refine ⟨_,g1,r',?_,?_⟩
   ·rw [show (255:Int) - ((j + 1:Nat):Int) = (i:Int) - 1 by omega]
   ·rw [show 256 - (j + 1) = i by omega]; exact g3)
  (fun st hs => by
   obtain ⟨r,rfl,h2⟩:=hs
   rw [V8,Wn,Uz] at h2
   have e:((0:Int) ≤ -1) = False:=by decide
   refine ⟨_,?_,r,rfl,h2⟩
   rw [show (255:Int) - ((256:Nat):Int) = -1 by omega]
   simp only [muI,Qbl,J2,quiet,cF,↓pF,reduceCtorEq,Qc,Qp,Ja,Je,J5,Jd,Zy,Q7,Zf,Q4,Zc,Zl,Zk,↓Z0,↓Zz,↓Jr,↓Ju,↓Js,↓Jt,cL,Qo,Qn,Q1,Q0,Qx,Qs,Qr,Qz,Qd,Q5,Q6,Qy,Qj,Qi,Qh,Qw,Qv,Qu,Qm,Ql,e])
 refine ⟨r,?_,hr1⟩
 have l1:=hl.len
 have l2:=hz2.len
 have l3:=hr1.len
 have l4:=Ed.len
 simp only [muI,Q3,Q2] at hb
 apply Vc
 apply J4
 rw [J3 (fn:=a26) rfl]
 simp only [a26,J2,quiet,cF,↓pF,reduceCtorEq,Qc,Qp,Ja,Je,J5,Jd,Zy,Q7,Zf,Q4,Zc,Zl,Zk,↓Z0,↓Zz,↓Jr,↓Ju,↓Js,↓Jt,cL,Qo,Qn,Q1,Q0,Qx,Qs,Qr,Qz,Qd,Q5,Q6,Qy,Qj,Qi,Qh,Qw,Qv,Qu,Qm,Ql,cJ,hz,hd1,hb,muI,Zi,Vm,Kv,Vf,Yq,Vg,K3,l1,l2,l3,l4,Yt]
 rfl
theorem Qxl {l:List Nat} {p:Go.Cv.Pt Go.Fp.P Go.Fp.d} (hl:RepL l p):∃ r,V7 T 23 [eV l] = some (eV r) ∧ RepL r p.neg:=by
 obtain ⟨x,y,z,t,rfl,h⟩:=hl
 obtain ⟨a,ha,Ea,fa⟩:=Qfj h.ex
 obtain ⟨b,hb,Eb,fb⟩:=Qfj h.et
 obtain ⟨q0,q1,q2,q3⟩:=Qj1 h.ex h.ey h.ez h.et
 have hf:=Qbv Ea h.ey h.ez Eb
 have p1:=Bw h.ex h.ey h.ez h.et
 have p2:=Bw Ea h.ey h.ez Eb
 refine ⟨pL a y z b,?_,a,y,z,b,rfl,Ea,h.ey,h.ez,Eb,h.nz,?_,?_,?_⟩
 ·generalize pL x y z t = L at *
  generalize pL a y z b = M at *
  apply Vc
  apply J4
  rw [J3 (fn:=a34) rfl]
  simp only [a34,J2,quiet,cF,↓pF,reduceCtorEq,Qc,Qp,Ja,Je,J5,Jd,Zy,Q7,Zf,Q4,Zc,Zl,Zk,↓Z0,↓Zz,↓Jr,↓Ju,↓Js,↓Jt,cL,Qo,Qn,Q1,Q0,Qx,Qs,Qr,Qz,Qd,Q5,Q6,Qy,Qj,Qi,Qh,Qw,Qv,Qu,Qm,Ql,cJ,q0,q1,q2,q3,ha,hb,hf,Zi,Vm,Kv,Vf,Yq,Vg,K3,p1,p2,Yt]
  rfl
 ·rw [fa,h.x]; simp only [Go.Cv.Pt.neg]; grobner
 ·rw [h.y]; rfl
 ·rw [fb,h.t]; simp only [Go.Cv.Pt.neg]; grobner
instance decPt (p q:Go.Cv.Pt Go.Fp.P Go.Fp.d):Decidable (p = q):=if h:p.x = q.x ∧ p.y = q.y then isTrue (Go.Cv.Pt.ext h.1 h.2) else isFalse (fun e => h (by rw [e]; exact ⟨rfl,rfl⟩))
theorem Qpc {a b z w:Go.Fp.Fe} (hz:z ≠ 0) (hw:w ≠ 0):(a * z * w = b * w * z) = (a = b):=by
 apply propext
 constructor
 ·intro h
  have F:=Go.Fp.fld
  refine F.cancel (F.mul_ne hz hw) ?_
  grobner
 ·intro h; subst h; grobner
theorem Qt9 {l m:List Nat} {p q:Go.Cv.Pt Go.Fp.P Go.Fp.d} (h1:RepL l p) (h2:RepL m q):V7 T 49 [eV l,eV m] = some (.bool (decide (p = q))):=by
 obtain ⟨x1,y1,z1,t1,rfl,h1⟩:=h1
 obtain ⟨x2,y2,z2,t2,rfl,h2⟩:=h2
 obtain ⟨a,ha,Ea,fa⟩:=Wq h1.ex h2.ez
 obtain ⟨b,hb,Eb,fb⟩:=Wq h2.ex h1.ez
 obtain ⟨c,hc,Ec,fc⟩:=Wq h1.ey h2.ez
 obtain ⟨e,he,Ee,fe_⟩:=Wq h2.ey h1.ez
 have q1:=Qua Ea Eb
 have q2:=Qua Ec Ee
 rw [fa,fb,h1.x,h2.x] at q1
 rw [fc,fe_,h1.y,h2.y] at q2
 simp only [Qpc h1.nz h2.nz] at q1 q2
 obtain ⟨u0,u1,u2,u3⟩:=Qj1 h1.ex h1.ey h1.ez h1.et
 obtain ⟨v0,v1,v2,v3⟩:=Qj1 h2.ex h2.ey h2.ez h2.et
 have p1:=Bw h1.ex h1.ey h1.ez h1.et
 have p2:=Bw h2.ex h2.ey h2.ez h2.et
 generalize pL x1 y1 z1 t1 = L at *
 generalize pL x2 y2 z2 t2 = M at *
 by_cases hx:p.x = q.x
 ·rw [decide_eq_true hx] at q1
  have hd:decide (p = q) = decide (p.y = q.y):=by
   by_cases hy:p.y = q.y
   ·rw [decide_eq_true hy,decide_eq_true (Go.Cv.Pt.ext hx hy)]
   ·rw [decide_eq_false hy,decide_eq_false (fun h => hy (by rw [h]))]
  rw [hd]
  apply Vc
  apply J4
  rw [J3 (fn:=a28) rfl]
  simp only [a28,J2,quiet,cF,↓pF,reduceCtorEq,Qc,Qp,Ja,Je,J5,Jd,Zy,Q7,Zf,Q4,Zc,Zl,Zk,↓Z0,↓Zz,↓Jr,↓Ju,↓Js,↓Jt,cL,Qo,Qn,Q1,Q0,Qx,Qs,Qr,Qz,Qd,Q5,Q6,Qy,Qj,Qi,Qh,Qw,Qv,Qu,Qm,Ql,cJ,u0,u1,u2,v0,v1,v2,ha,hb,hc,he,q1,q2,Zi,Vm,Kv,Vf,Yq,Vg,K3,p1,p2,Yt]
  rfl
 ·rw [decide_eq_false hx] at q1
  rw [decide_eq_false (fun h => hx (by rw [h]))]
  apply Vc
  apply J4
  rw [J3 (fn:=a28) rfl]
  simp only [a28,J2,quiet,cF,↓pF,reduceCtorEq,Qc,Qp,Ja,Je,J5,Jd,Zy,Q7,Zf,Q4,Zc,Zl,Zk,↓Z0,↓Zz,↓Jr,↓Ju,↓Js,↓Jt,cL,Qo,Qn,Q1,Q0,Qx,Qs,Qr,Qz,Qd,Q5,Q6,Qy,Qj,Qi,Qh,Qw,Qv,Qu,Qm,Ql,cJ,u0,u1,u2,v0,v1,v2,ha,hb,hc,he,q1,q2,Zi,Vm,Kv,Vf,Yq,Vg,K3,p1,p2,Yt]
  rfl
theorem Qrb (p:Go.Cv.Pt Go.Fp.P Go.Fp.d):Uf (Uf (Uf p p) (Uf p p)) (Uf (Uf p p) (Uf p p)) = Yl 8 p:=by
 have h2:Yl 2 p = Uf p p:=Go.Cv.mul_two Go.Fp.fld p
 have h4:Yl 4 p = Uf (Yl 2 p) (Yl 2 p):=Go.Cv.mul_add Go.Fp.fld 2 2 p
 have h8:Yl 8 p = Uf (Yl 4 p) (Yl 4 p):=Go.Cv.mul_add Go.Fp.fld 4 4 p
 rw [h8,h4,h2]
theorem Qwj {l:List Nat} {p:Go.Cv.Pt Go.Fp.P Go.Fp.d} (h:RepL l p):V7 T 20 [eV l] = some (.bool (decide (Yl 8 p = U0))):=by
 obtain ⟨a,ha,ra⟩:=Qfy h
 obtain ⟨b,hb,rb⟩:=Qfy ra
 obtain ⟨c,hc,rc⟩:=Qfy rb
 obtain ⟨z,hz,rz⟩:=Qjk
 have he:=Qt9 rc rz
 rw [Qrb] at he
 have p1:=h.len
 apply Vc
 apply J4
 rw [J3 (fn:=a39) rfl]
 simp only [a39,J2,quiet,cF,↓pF,reduceCtorEq,Qc,Qp,Ja,Je,J5,Jd,Zy,Q7,Zf,Q4,Zc,Zl,Zk,↓Z0,↓Zz,↓Jr,↓Ju,↓Js,↓Jt,cL,Qo,Qn,Q1,Q0,Qx,Qs,Qr,Qz,Qd,Q5,Q6,Qy,Qj,Qi,Qh,Qw,Qv,Qu,Qm,Ql,cJ,ha,hb,hc,hz,he,Vm,Kv,Vf,Yq,Vg,K3,p1,Yt]
 rfl
def Qbf (p:Go.Cv.Pt Go.Fp.P Go.Fp.d):Nat:=p.y.val + (p.x.val % 2) * 2 ^ 255
def enc (p:Go.Cv.Pt Go.Fp.P Go.Fp.d):List Nat:=dig 256 32 (Qbf p)
theorem Qab (p:Go.Cv.Pt Go.Fp.P Go.Fp.d):(enc p).length = 32:=Ku _ _ _
theorem Qq8 (p:Go.Cv.Pt Go.Fp.P Go.Fp.d):∀ x ∈ enc p,x < 256:=Qad
theorem Qcp (a:Go.Fp.Fe):a.val < 2 ^ 255:=Uy a.isLt (by rw [Go.Fp.Rd]; decide)
theorem Qgv (p:Go.Cv.Pt Go.Fp.P Go.Fp.d):Qbf p < 256 ^ 32:=by
 have h1:=Qcp p.y
 have h2:=Jn p.x.val (by decide:0 < 2)
 unfold Qbf
 have:p.x.val % 2 * 2 ^ 255 ≤ 1 * 2 ^ 255:=Wa _ (by omega)
 have e:(256:Nat) ^ 32 = 2 ^ 255 + 2 ^ 255:=by decide
 omega
theorem Qaa {l:List Nat} {p:Go.Cv.Pt Go.Fp.P Go.Fp.d} (h:RepL l p):V7 T 16 [eV l] = some (.agg (u8s (enc p)).toArray):=by
 obtain ⟨x,y,z,t,rfl,h⟩:=h
 obtain ⟨i,hi,Ei,fi⟩:=Qqn h.ez
 obtain ⟨a,ha,Ea,fa⟩:=Wq h.ey Ei
 obtain ⟨b,hb,Eb,fb⟩:=Wq h.ex Ei
 have hinv:=Go.Fp.Qkt h.nz
 have fa':fe a = p.y:=by rw [fa,fi,h.y]; grobner
 have fb':fe b = p.x:=by rw [fb,fi,h.x]; grobner
 have k1:=Rs Ea
 have k2:=Qqc Eb
 rw [fa'] at k1
 rw [fb'] at k2
 obtain ⟨u0,u1,u2,u3⟩:=Qj1 h.ex h.ey h.ez h.et
 have p1:=Bw h.ex h.ey h.ez h.et
 have L1:=Ei.len
 have lk:(dig 256 32 p.y.val).length = 32:=Ku _ _ _
 have l0:(dig 256 32 0).length = 32:=rfl
 have hz32:Qb 32 (Value.int .u8 0) = u8s (dig 256 32 0):=rfl
 generalize pL x y z t = L at *
 by_cases ho:p.x.val % 2 = 1
 ·rw [decide_eq_true ho] at k2
  have hv:=Qcp p.y
  obtain ⟨w,hw⟩:∃ w,(dig 256 32 p.y.val)[31]? = some w:=⟨_,Qq (by rw [Ku]; decide)⟩
  have hwc:=Ud hw
  have hw':w < 256:=Bi (by decide) (Zt hw)
  have hput:=Qci (w:=8) (m:=32) (q:=31) (s:=7) (y:=1) (M:=p.y.val) (by decide) (by decide) hv (by decide)
  have hgd:(dig (2 ^ 8) 32 p.y.val).getD 31 0 = w:=by rw [Jp]; rw [show (2:Nat) ^ 8 = 256 from rfl,hw]; rfl
  rw [hgd] at hput
  have hset:=Gp (dig 256 32 p.y.val) 31 (w ||| 128)
  rw [show (dig 256 32 p.y.val).set 31 (w ||| 128) = enc p from by rw [enc,Qbf,ho]; exact hput] at hset
  have o1:Vj .or .u8 (w:Int) 128 = ((w ||| 128:Nat):Int):=B0 (k := .u8) (a:=w) (b:=128) rfl hw' (by decide)
  have le:=Qab p
  generalize enc p = E at *
  apply Vc
  apply J4
  rw [J3 (fn:=a29) rfl]
  simp only [a29,J2,quiet,cF,↓pF,reduceCtorEq,Qc,Qp,Ja,Je,J5,Jd,Zy,Q7,Zf,Q4,Zc,Zl,Zk,↓Z0,↓Zz,↓Jr,↓Ju,↓Js,↓Jt,cL,Qo,Qn,Q1,Q0,Qx,Qs,Qr,Qz,Qd,Q5,Q6,Qy,Qj,Qi,Qh,Qw,Qv,Qu,Qm,Ql,cJ,hz32,u0,u1,u2,hi,ha,hb,k1,k2,hwc,o1,hset,Zi,Vm,Kv,Vf,Yq,Vg,K3,Ky,lk,l0,le,p1,L1,Yt]
  rfl
 ·rw [decide_eq_false ho] at k2
  have he:enc p = dig 256 32 p.y.val:=by rw [enc,Qbf,show p.x.val % 2 = 0 by omega,J7,Z1]
  rw [he]
  generalize dig 256 32 p.y.val = E at *
  apply Vc
  apply J4
  rw [J3 (fn:=a29) rfl]
  simp only [a29,J2,quiet,cF,↓pF,reduceCtorEq,Qc,Qp,Ja,Je,J5,Jd,Zy,Q7,Zf,Q4,Zc,Zl,Zk,↓Z0,↓Zz,↓Jr,↓Ju,↓Js,↓Jt,cL,Qo,Qn,Q1,Q0,Qx,Qs,Qr,Qz,Qd,Q5,Q6,Qy,Qj,Qi,Qh,Qw,Qv,Qu,Qm,Ql,cJ,hz32,u0,u1,u2,hi,ha,hb,k1,k2,Zi,Vm,Kv,Vf,Yq,Vg,K3,Ky,lk,l0,p1,L1,Yt]
  rfl
def bxN:Nat:=15112221349535400772501151409588531511454012693041857206046113283949847762202
def byN:Nat:=46316835694926478169428394003475163141307993866256225615783033603165251855960
def We:Go.Cv.Pt Go.Fp.P Go.Fp.d:=⟨Go.Fp.fp bxN,Go.Fp.fp byN,by
 unfold Go.Cv.On Go.Fp.d
 have h:(Go.Fp.fp byN * Go.Fp.fp byN:Go.Fp.Fe) = Go.Fp.fp bxN * Go.Fp.fp bxN + (1 + Go.Fp.fp Go.Fp.dN * (Go.Fp.fp bxN * Go.Fp.fp bxN) * (Go.Fp.fp byN * Go.Fp.fp byN)):=by
  rw [← Go.Fp.Qgt,← Go.Fp.Uh,← Go.Fp.Uh,← Go.Fp.Uh,← Go.Fp.Uh,← Go.Fp.Bm,← Go.Fp.Bm]
  exact Go.Fp.Qdm.2 (by decide +kernel)
 grobner⟩
def bxK:List Nat:=dig 256 32 bxN
def byK:List Nat:=dig 256 32 byN
theorem Quj:num 256 bxK = bxN:=by decide +kernel
theorem Qui:num 256 byK = byN:=by decide +kernel
theorem Qk8:∃ r,V7 T 14 [] = some (eV r) ∧ RepL r We:=by
 have h1:=Qqb (k:=bxK) (Ku _ _ _) Qad
 have h2:=Qqb (k:=byK) (Ku _ _ _) Qad
 have E1:=Qif (V:=num 256 bxK % 2 ^ 255)
 have E2:=Qif (V:=num 256 byK % 2 ^ 255)
 have f1:fe (dig (2 ^ 51) 5 (num 256 bxK % 2 ^ 255)) = Go.Fp.fp bxN:=by unfold fe; rw [Qc9,Quj]; rfl
 have f2:fe (dig (2 ^ 51) 5 (num 256 byK % 2 ^ 255)) = Go.Fp.fp byN:=by unfold fe; rw [Qc9,Qui]; rfl
 generalize dig (2 ^ 51) 5 (num 256 bxK % 2 ^ 255) = X at *
 generalize dig (2 ^ 51) 5 (num 256 byK % 2 ^ 255) = Y at *
 obtain ⟨t,ht,Et,ft⟩:=Wq E1 E2
 have E3:∃ O:List Nat,O = [1,0,0,0,0]:=⟨_,rfl⟩
 obtain ⟨O,hO⟩:=E3
 have E3:El O (2 ^ 52):=by rw [hO]; exact Qa8
 have v1:V7 T 28 [.int .u32 1] = some (eV O):=by rw [hO]; exact Qp0
 have f3:fe O = 1:=by rw [hO]; exact Qa7
 clear hO
 have hf:=Qbv E1 E2 E3 Et
 have p1:=Bw E1 E2 E3 Et
 refine ⟨pL X Y O t,?_,X,Y,O,t,rfl,E1,E2,E3,Et,by rw [f3]; exact Go.Fp.My,by rw [f1,f3]; simp only [We]; grobner,by rw [f2,f3]; simp only [We]; grobner,by rw [ft,f1,f2,f3]; simp only [We]; grobner⟩
 have L1:=E1.len
 have L2:=E2.len
 have g1:fillL (Qb 32 (Value.int .u8 0)) [(0,1,.int .u8 26),(1,1,.int .u8 213),(2,1,.int .u8 37),(3,1,.int .u8 143),(4,1,.int .u8 96),(5,1,.int .u8 45),(6,1,.int .u8 86),(7,1,.int .u8 201),(8,1,.int .u8 178),(9,1,.int .u8 167),(10,1,.int .u8 37),(11,1,.int .u8 149),(12,1,.int .u8 96),(13,1,.int .u8 199),(14,1,.int .u8 44),(15,1,.int .u8 105),(16,1,.int .u8 92),(17,1,.int .u8 220),(18,1,.int .u8 214),(19,1,.int .u8 253),(20,1,.int .u8 49),(21,1,.int .u8 226),(22,1,.int .u8 164),(23,1,.int .u8 192),(24,1,.int .u8 254),(25,1,.int .u8 83),(26,1,.int .u8 110),(27,1,.int .u8 205),(28,1,.int .u8 211),(29,1,.int .u8 54),(30,1,.int .u8 105),(31,1,.int .u8 33)] = some (u8s bxK):=by
  have:bxK = [26,213,37,143,96,45,86,201,178,167,37,149,96,199,44,105,92,220,214,253,49,226,164,192,254,83,110,205,211,54,105,33]:=by decide +kernel
  rw [this]; rfl
 have g2:fillL (Qb 32 (Value.int .u8 0)) [(0,1,.int .u8 88),(1,1,.int .u8 102),(2,1,.int .u8 102),(3,1,.int .u8 102),(4,1,.int .u8 102),(5,1,.int .u8 102),(6,1,.int .u8 102),(7,1,.int .u8 102),(8,1,.int .u8 102),(9,1,.int .u8 102),(10,1,.int .u8 102),(11,1,.int .u8 102),(12,1,.int .u8 102),(13,1,.int .u8 102),(14,1,.int .u8 102),(15,1,.int .u8 102),(16,1,.int .u8 102),(17,1,.int .u8 102),(18,1,.int .u8 102),(19,1,.int .u8 102),(20,1,.int .u8 102),(21,1,.int .u8 102),(22,1,.int .u8 102),(23,1,.int .u8 102),(24,1,.int .u8 102),(25,1,.int .u8 102),(26,1,.int .u8 102),(27,1,.int .u8 102),(28,1,.int .u8 102),(29,1,.int .u8 102),(30,1,.int .u8 102),(31,1,.int .u8 102)] = some (u8s byK):=by
  have:byK = [88,102,102,102,102,102,102,102,102,102,102,102,102,102,102,102,102,102,102,102,102,102,102,102,102,102,102,102,102,102,102,102]:=by decide +kernel
  rw [this]; rfl
 generalize pL X Y O t = Q at *
 apply Vc
 apply J4
 rw [J3 (fn:=a25) rfl]
 simp only [a25,J2,quiet,cF,↓pF,reduceCtorEq,Qc,Qp,Ja,Je,J5,Jd,Zy,Q7,Zf,Q4,Zc,Zl,Zk,↓Z0,↓Zz,↓Jr,↓Ju,↓Js,↓Jt,cL,Qo,Qn,Q1,Q0,Qx,Qs,Qr,Qz,Qd,Q5,Q6,Qy,Qj,Qi,Qh,Qw,Qv,Qu,Qm,Ql,cJ,g1,g2,h1,h2,v1,ht,hf,Zi,Vm,Kv,Vf,Yq,Vg,K3,p1,L1,L2,Yt]
 rfl
theorem Qxb {a b c:List Nat} {n:Nat} (hb:b.length = 20) (ha:a.length = n):Wz 20 (B1 n (ns .u64 (a ++ (b ++ c)))) = ns .u64 b:=by
 simp only [Rk]
 rw [Wk (by rw [K3]; omega),Wc (by rw [K3]; omega),Q2,Yv (by rw [K3]; omega),Zq (by rw [K3]; omega)]
theorem Qoc {H:List Ob} {l:List Ob} {id n i:Nat} {o x r d:List Nat} {R:Ob} {cs:List Value} {g:List Ob} (hi:i < n) (hn:n < 100) (l1:x.length = 20) (l2:o.length = 20) (l4:d.length = 5) (hm:V7 T 33 [eV o,eV x,eV d] = some (eV r)) (l3:r.length = 20)
  (hA:∀ l,(H ++ l)[id]? = some ⟨cs,true,true,true,1⟩) (hcs:(cs.drop (i * 20)).take 20 = ns .u64 x) (hlen:i * 20 + 20 ≤ cs.length) :
  Xa T H.length Qec ⟨[(2,.pointer (some ⟨H.length,0,none⟩)),(3,.pointer (some ⟨H.length + 1,0,none⟩)),(4,.pointer (some ⟨H.length + 2,0,none⟩)),(9,.slice (some ⟨id,0,none⟩) n n),(10,.int .i64 n),(11,.int .i64 i)],H ++ (R :: ⟨ns .u64 o,true,true,true,1⟩ :: ⟨ns .u64 d,true,true,true,1⟩ :: g),[]⟩ =
   some (.normal,⟨[(2,.pointer (some ⟨H.length,0,none⟩)),(3,.pointer (some ⟨H.length + 1,0,none⟩)),(4,.pointer (some ⟨H.length + 2,0,none⟩)),(9,.slice (some ⟨id,0,none⟩) n n),(10,.int .i64 n),(11,.int .i64 ((i + 1:Nat):Int))],H ++ (R :: ⟨ns .u64 r,true,true,true,1⟩ :: ⟨ns .u64 d,true,true,true,1⟩ :: (g ++ [⟨ns .u64 x,true,true,true,1⟩])),[]⟩):=by
 have hz:∃ Z,Qb 20 (Value.int .u64 0) = ns .u64 Z ∧ Z.length = 20:=⟨Qb 20 0,rfl,rfl⟩
 obtain ⟨Z,hz,l0⟩:=hz
 have e1:((i:Int) < (n:Int)) = True:=eq_true (by omega)
 have w3:IntKind.i64.wrap ((i:Int) + 1) = ((i + 1:Nat):Int):=Vt (n:=i + 1) (by omega)
 simp only [Qec,J2,quiet,cF,↓pF,reduceCtorEq,Qc,Qp,Ja,X4,↓Z0,↓Zz,↓Jr,↓Ju,↓Js,↓Jt,cL,Qo,Qn,Q1,Q0,Qx,Qs,Qr,Qz,Qd,Q5,Q6,Qy,Qj,Qi,Qh,Qw,Qv,Qu,Qm,Ql,cJ,Kk,hz,hA,hcs,hlen,hm,Kv,Vf,Yq,Vg,K3,l0,l1,l2,l3,l4,Yt,e1,w3]
inductive Reps:List (List Nat) → List (Go.Cv.Pt Go.Fp.P Go.Fp.d) → Prop
 | nil:Reps [] []
 | cons {x xs p ps}:RepL x p → Reps xs ps → Reps (x :: xs) (p :: ps)
theorem Reps.len {xs:List (List Nat)} {ps:List (Go.Cv.Pt Go.Fp.P Go.Fp.d)} (h:Reps xs ps):xs.length = ps.length:=by
 induction h with
 | nil => rfl
 | cons _ _ ih => simp [ih]
theorem Reps.all {xs:List (List Nat)} {ps:List (Go.Cv.Pt Go.Fp.P Go.Fp.d)} (h:Reps xs ps):∀ x ∈ xs,x.length = 20:=by
 induction h with
 | nil => simp
 | cons h _ ih => intro y hy; rcases Wm.1 hy with rfl | hy; exact h.len; exact ih y hy
theorem Reps.get {xs:List (List Nat)} {ps:List (Go.Cv.Pt Go.Fp.P Go.Fp.d)} (h:Reps xs ps):∀ {i:Nat} {x:List Nat},xs[i]? = some x → ∃ p,ps[i]? = some p ∧ RepL x p:=by
 induction h with
 | nil => intro i x h; simp at h
 | cons h _ ih =>
  intro i x hx
  cases i with
  | zero => simp at hx; subst hx; exact ⟨_,rfl,h⟩
  | succ i => simp at hx; simpa using ih hx
theorem Qq5:∀ (ys:List (List Nat)),(∀ x ∈ ys,x.length = 20) → ys.flatten.length = ys.length * 20:=by
 intro ys hy
 induction ys with
 | nil => rfl
 | cons y ys ih =>
  rw [Ki,Zn,ih (fun x hx => hy x (by simp [hx])),(hy y (by simp)),Zg]; omega
theorem Qu5 {H:List Ob} {id n:Nat} {xs:List (List Nat)} {ps:List (Go.Cv.Pt Go.Fp.P Go.Fp.d)} (hn:xs.length = n) (hN:n < 100) (hx:Reps xs ps) (h:H[id]? = some ⟨ns .u64 xs.flatten,true,true,true,1⟩) :
  ∃ r d,Vl T 22 [.slice (some ⟨id,0,none⟩) n n] H = some (eV r,H ++ (⟨ns .u64 r,true,true,true,1⟩ :: ⟨ns .u64 r,true,true,true,1⟩ :: ⟨ns .u64 d,true,true,true,1⟩ :: xs.map fun x => (⟨ns .u64 x,true,true,true,1⟩:Ob)),[]) ∧ RepL r (ps.foldl Uf U0):=by
 have hid:id < H.length:=(Qt.1 h).1
 have hA:∀ l,(H ++ l)[id]? = some ⟨ns .u64 xs.flatten,true,true,true,1⟩:=fun l => by rw [Qe hid]; exact h
 obtain ⟨d,hd,Ed,fd⟩:=Qdo
 obtain ⟨z,hz,Ez⟩:=Qjk
 have hZ:∃ Z,Qb 20 (Value.int .u64 0) = ns .u64 Z ∧ Z.length = 20:=⟨Qb 20 0,rfl,rfl⟩
 obtain ⟨Z,hZ,l0⟩:=hZ
 obtain ⟨st,hb,r,rfl,hr1⟩:=Yn (T:=T) (base:=H.length) (id:=0) (body:=Qec)
  (fun i st => ∃ r:List Nat,st = ⟨[(2,.pointer (some ⟨H.length,0,none⟩)),(3,.pointer (some ⟨H.length + 1,0,none⟩)),(4,.pointer (some ⟨H.length + 2,0,none⟩)),(9,.slice (some ⟨id,0,none⟩) n n),(10,.int .i64 n),(11,.int .i64 (i:Nat))],H ++ (⟨ns .u64 Z,true,true,true,1⟩ :: ⟨ns .u64 r,true,true,true,1⟩ :: ⟨ns .u64 d,true,true,true,1⟩ :: ((xs.take i).map fun x => (⟨ns .u64 x,true,true,true,1⟩:Ob))),[]⟩ ∧ RepL r ((ps.take i).foldl Uf U0))
  (Q:=fun st => ∃ r:List Nat,st = ⟨[(2,.pointer (some ⟨H.length,0,none⟩)),(3,.pointer (some ⟨H.length + 1,0,none⟩)),(4,.pointer (some ⟨H.length + 2,0,none⟩)),(9,.slice (some ⟨id,0,none⟩) n n),(10,.int .i64 n),(11,.int .i64 n),(12,.bool false)],H ++ (⟨ns .u64 Z,true,true,true,1⟩ :: ⟨ns .u64 r,true,true,true,1⟩ :: ⟨ns .u64 d,true,true,true,1⟩ :: (xs.map fun x => (⟨ns .u64 x,true,true,true,1⟩:Ob))),[]⟩ ∧ RepL r (ps.foldl Uf U0))
  n (s:=⟨[(2,.pointer (some ⟨H.length,0,none⟩)),(3,.pointer (some ⟨H.length + 1,0,none⟩)),(4,.pointer (some ⟨H.length + 2,0,none⟩)),(9,.slice (some ⟨id,0,none⟩) n n),(10,.int .i64 n),(11,.int .i64 0)],H ++ [⟨ns .u64 Z,true,true,true,1⟩,⟨ns .u64 z,true,true,true,1⟩,⟨ns .u64 d,true,true,true,1⟩],[]⟩) ⟨z,rfl,Ez⟩
  (fun i st hi hs => by
   obtain ⟨r,rfl,hr1⟩:=hs
   obtain ⟨x,hxi⟩:∃ y,xs[i]? = some y:=⟨_,Qq (by omega)⟩
   obtain ⟨p,hpi,hxe⟩:=hx.get hxi
   obtain ⟨r',hm,g1⟩:=Qvx hr1 hxe Ed fd
   have hsplit:xs = xs.take i ++ x :: xs.drop (i + 1):=by
    have h1:=Qt.1 hxi
    conv => lhs; rw [← Wl i xs,Us h1.1,h1.2]
   have htl:(xs.take i).flatten.length = i * 20:=by
    rw [Qq5 _ (fun y hy => hx.all y (Vd hy)),Ks,Vx (by omega)]
   have hcs:((ns .u64 xs.flatten).drop (i * 20)).take 20 = ns .u64 x:=by
    conv => lhs; rw [hsplit,V2,Ki]
    exact Qxb hxe.len htl
   have hb:=Qoc (R:=⟨ns .u64 Z,true,true,true,1⟩) (g:=(xs.take i).map fun x => (⟨ns .u64 x,true,true,true,1⟩:Ob)) (l:=[]) hi hN hxe.len hr1.len Ed.len hm g1.len hA hcs (by rw [K3,Qq5 xs hx.all,hn]; omega)
   have htk:xs.take (i + 1) = xs.take i ++ [x]:=by rw [Y6,hxi]; rfl
   have htp:ps.take (i + 1) = ps.take i ++ [p]:=by rw [Y6,hpi]; rfl
   refine ⟨_,hb,r',?_,?_⟩
   ·rw [htk,Uu]; rfl
   ·rw [htp,List.foldl_append]; exact g1)
  (fun st hs => by
   obtain ⟨r,rfl,hr1⟩:=hs
   have e1:((n:Int) < (n:Int)) = False:=eq_false (by omega)
   have ht:xs.take n = xs:=Zq (by omega)
   have ht2:ps.take n = ps:=Zq (by have:=hx.len; omega)
   rw [ht2] at hr1
   rw [ht]
   refine ⟨_,?_,r,rfl,hr1⟩
   simp only [Qec,J2,quiet,cF,↓pF,reduceCtorEq,Qc,Qp,Ja,X4,↓Z0,↓Zz,↓Jr,↓Ju,↓Js,↓Jt,cL,Qo,Qn,Q1,Q0,Qx,Qs,Qr,Qz,Qd,Q5,Q6,Qy,Qj,Qi,Qh,Qw,Qv,Qu,Qm,Ql,e1])
 refine ⟨r,d,?_,hr1⟩
 have l1:=hr1.len
 have l2:=Ez.len
 have l3:=Ed.len
 rw [J3 (fn:=a27) rfl]
 have hz5:Qb 5 (Value.int .u64 0) = ns .u64 [0,0,0,0,0]:=rfl
 have l5:([0,0,0,0,0]:List Nat).length = 5:=rfl
 simp only [a27,J2,quiet,cF,↓pF,reduceCtorEq,Qc,Qp,Ja,X4,↓Z0,↓Zz,↓Jr,↓Ju,↓Js,↓Jt,cL,Qo,Qn,Q1,Q0,Qx,Qs,Qr,Qz,Qd,Q5,Q6,Qy,Qj,Qi,Qh,Qw,Qv,Qu,Qm,Ql,cJ,Kk,hZ,hz5,l5,hd,hz,hb,Kv,Vf,Yq,Vg,K3,l0,l1,l2,l3,Yt]
theorem fold2 {p q:Go.Cv.Pt Go.Fp.P Go.Fp.d}:[p,q].foldl Uf U0 = Uf p q:=by
 show Uf (Uf U0 p) q = _
 rw [show Uf U0 p = p from Go.Cv.zero_add Go.Fp.fld p]
end Go.Ev.Ytgacigcbglflkaa

/- What the law leans on, part 3. -/
import Derived.Test.YtpgphpkjlpkcbaaGreatAt2
import Derived.Test.YtpgphpkjlpkcbaaGreatChecked
import Derived.KernelRfl
import Derived.Laws.Externs
set_option linter.unusedSimpArgs false
set_option linter.unusedVariables false
set_option linter.defProp false
open And renaming intro → Zi
open Array renaming ext_getElem? → Gb, getElem?_toList → Yo
open Bool renaming and_eq_true → Yw, and_self → X7, and_true → Kd, false_and → Qj5, false_eq_true → Jd, not_false → Xf, not_true → Ka, true_and → X6
open Exists renaming intro → Zu
open Int renaming cast_ofNat_Int → U0, fdiv → Qc3, fdiv_eq_ediv_of_nonneg → Ub, le_of_lt → Zby, le_refl → Kr, natCast_add → Gw, natCast_mul → U1, natCast_nonneg → Jq, natCast_one → Hr, natCast_zero → J6, pow_pos → Zf2, reduceAdd → Qy, reduceBEq → Q6, reduceBNe → Q5, reduceEq → Qq, reduceGE → Q2, reduceGT → Q1, reduceLE → Qp, reduceLT → Qo, reduceMul → Qx, reduceNeg → Qw, reducePow → Qr, reduceSub → Qv, reduceTDiv → Ql, reduceTMod → Qk, reduceToNat → Qc, toNat_natCast → Jr
open List renaming all_cons → Xi, all_nil → Kq, append_assoc → Je, append_nil → Xd, cons_append → Ze, drop → W0, drop_append_of_le_length → Y3, drop_drop → Gj, drop_eq_getElem?_toList_append → Yf, drop_eq_getElem_cons → Ui, drop_of_length_le → Vv, drop_succ_cons → Qe, drop_zero → Qz, eq_of_mem_replicate → Qfc, ext_getElem? → Wa, flatten_append → Y9, flatten_cons → Xs, flatten_nil → Y4, foldl_cons → U8, foldl_nil → Dq, getD_eq_getElem?_getD → Jz, getElem?_append_left → Qm, getElem?_append_right → Za, getElem?_cons_succ → Z0, getElem?_cons_zero → Z1, getElem?_drop → Vy, getElem?_eq_getElem → Q3, getElem?_eq_none → Xe, getElem?_eq_some_iff → Q7, getElem?_map → U4, getElem?_set_ne → Z4, getElem?_set_self → Jj, getElem?_take → Ks, getElem?_toArray → Hh, length_append → Zh, length_cons → Jc, length_nil → Jg, length_replicate → Q4, length_set → Jk, length_take → Js, map_append → Hq, map_cons → W7, map_map → Qcr, map_nil → Be, mem_append → J8, mem_cons → Wh, mem_iff_getElem? → Qae, mem_map → Bd, mem_of_getElem? → Zp, mem_of_mem_take → Ki, mem_range'_1 → Qrl, mem_singleton → U7, nil_append → Q9, not_mem_nil → W8, range' → D1, replicate → Qa, replicate_succ → Bi, replicate_succ' → Mt, take → Vt, take_add_one → Ym, take_append_drop → Yn, take_append_of_le_length → Yr, take_of_length_le → Zk, take_succ_cons → Qf, take_zero → Q0
open Nat renaming Coprime → Zf1, add_assoc → Kc, add_comm → Bn, add_mod → Qj2, add_mul → Kw, add_mul_div_right → Qad, add_mul_mod_self_right → Hf, add_zero → Jy, and_lt_two_pow → Ga, and_two_pow_sub_one_eq_mod → Dp, div_add_mod → Ya, div_div_eq_div_mul → Kb, div_eq_of_lt → Uk, div_le_self → Uj, div_lt_iff_lt_mul → Qjb, div_one → Ww, dvd_mul_left → Quu, dvd_of_mod_eq_zero → Tg, dvd_trans → Q7j, eq_zero_or_pos → Wl, gcd → Qkl, le_of_dvd → Dc, le_of_lt → W3, le_refl → Zn, le_trans → Uz, lt_irrefl → Xt, lt_of_le_of_lt → Wv, lt_of_lt_of_le → Xr, lt_or_ge → Yp, lt_trans → Uc, min_eq_left → Vz, mod_eq_of_lt → Z5, mod_eq_zero_of_dvd → Qhu, mod_lt → Jo, mod_mod → Ha, mod_mod_of_dvd → Rx, mod_mul_mod → Qb3, mod_mul_right_div_self → Qcz, mod_one → Quv, mul_add → Mr, mul_assoc → Ye, mul_comm → Ve, mul_le_mul → Um, mul_le_mul_left → Bw, mul_le_mul_right → Yh, mul_left_comm → W9, mul_lt_mul'' → Qus, mul_mod → Mq, mul_one → Kh, mul_zero → Tf, not_lt_zero → J7, one_mul → Ul, or_lt_two_pow → Hy, pow_add → Ud, pow_add_one' → Qur, pow_le_pow_right → Vr, pow_mod → Zf0, pow_mul → Y5, pow_pos → Us, pow_succ → Kv, pow_zero → Yv, reduceAdd → Qg, reduceDiv → Qu, reduceEqDiff → Qb, reduceLT → Qn, reduceLeDiff → Qd, reduceMod → Qt, reduceMul → Qi, reducePow → Qs, reduceSub → Qh, strongRecOn → Qhx, sub_mod_eq_zero_of_mod_eq → Qa9, sub_self → Jw, sub_zero → Xw, two_pow_add_eq_or_of_lt → Mi, zero_add → Z3, zero_mul → Xv
open Option renaming bind_eq_some_iff → Qj, bind_some → Zb, getD_some → Bb, isNone_none → Jm, isSome_none → Jn
open Option.some renaming inj → B0, injEq → Zf
namespace Go.Ev.YtpgphpkjlpkcbaaGreat
open Go Go.Ev
attribute [local congr] Qau
set_option maxRecDepth 100000
structure RInv (V:Nat) (r nx:List Nat):Prop where
 len:r.length=8
 lt:∀ x∈r,x<4294967296
 len2:nx.length=8
 lt2:∀ x∈nx,x<4294967296
 eq:num 4294967296 r=V%ell
theorem Zax:2*ell+1<4294967296^8:=by decide
theorem Qg2:0<ell:=by decide
theorem RInv.step {V c c' b:Nat} {r nx r' nx':List Nat} (h:RInv V r nx) (hc:c≤1) (h1:ShInv 8 c r r' c') (h2:SbInv 8 r' nx' b):(b=0→RInv (2*V+c) nx' r')∧(b≠0→RInv (2*V+c) r' nx'):=by
 have e1:=h1.eq
 have e2:=h2.eq
 have l1:=h.len
 have l2:=h1.len
 have l3:=h2.len
 rw [Zk (by omega)] at e1
 rw [Zk (by omega),Zk (show orderW.length≤8 from Zn _),Zk (by omega),Qyt] at e2
 have b1:=num_lt h1.lt
 have b2:=num_lt h2.lt
 rw [l2] at b1
 rw [l3] at b2
 have hp:=Zax
 have hr:num 4294967296 r<ell:=by rw [h.eq]; exact Jo _ Qg2
 have hV:(2*V+c)%ell=(2*num 4294967296 r+c)%ell:=by
  rw [h.eq,Qj2,Mq,Qj2 (2*(V%ell)),Mq 2 (V%ell),Ha]
 have hle:=h1.cle
 have hbe:=h2.ble
 generalize 4294967296^8=W at *
 have hc0:c'=0:=by
  rcases Yp 0 c' with hh | hh
  ·have:c'=1:=by omega
   subst this
   omega
  ·omega
 subst hc0
 generalize num 4294967296 r=x at *
 generalize hyy:num 4294967296 r'=y at *
 generalize hz:num 4294967296 nx'=z at *
 have hy:y=2*x+c:=by omega
 subst hy
 refine ⟨fun h0=>⟨l3,h2.lt,l2,h1.lt,?_⟩,fun h0=>⟨l2,h1.lt,l3,h2.lt,?_⟩⟩
 ·subst h0
  rw [hV,show 2*x+c=z+ell by omega,Nat.add_mod_right,Z5 (by omega)]
  exact hz
 ·have:b=1:=by omega
  subst this
  have hlt:2*x+c<ell:=by omega
  rw [hV,Z5 hlt]
  exact hyy
theorem Qwd {H:List Ob} {id off n cap i w V:Nat} {ws r nx:List Nat} (hr:Row .u32 H id off ws) (hn:ws.length=n) (hN:n<2^40) (hi:i<32*n) (hw:ws[i/32]?=some w) (hw':w<4294967296) (h:RInv V r nx) :
  ∃ r' nx',RInv (2*V+w/2^(i%32)%2) r' nx'∧(Jl T H.length Mm (⟨[(0,(.slice (some ⟨id,off,none⟩) n cap)),(3,(.slice (some ⟨H.length,0,none⟩) 8 8)),(4,(.slice (some ⟨H.length+1,0,none⟩) 8 8)),(5,(.slice (some ⟨(H.length+2),0,none⟩) 8 8)),(6,.int .i64 ((i:Nat)))],H++[⟨Ke (r),true,true,true,1⟩,⟨Ke orderW,true,true,true,1⟩,⟨Ke (nx),true,true,true,1⟩],[]⟩:St)=some (.normal,(⟨[(0,(.slice (some ⟨id,off,none⟩) n cap)),(3,(.slice (some ⟨H.length,0,none⟩) 8 8)),(4,(.slice (some ⟨H.length+1,0,none⟩) 8 8)),(5,(.slice (some ⟨(H.length+2),0,none⟩) 8 8)),(6,.int .i64 ((i:Int)-1))],H++[⟨Ke (r'),true,true,true,1⟩,⟨Ke orderW,true,true,true,1⟩,⟨Ke (nx'),true,true,true,1⟩],[]⟩:St))∨Jl T H.length Mm (⟨[(0,(.slice (some ⟨id,off,none⟩) n cap)),(3,(.slice (some ⟨H.length,0,none⟩) 8 8)),(4,(.slice (some ⟨H.length+1,0,none⟩) 8 8)),(5,(.slice (some ⟨(H.length+2),0,none⟩) 8 8)),(6,.int .i64 ((i:Nat)))],H++[⟨Ke (r),true,true,true,1⟩,⟨Ke orderW,true,true,true,1⟩,⟨Ke (nx),true,true,true,1⟩],[]⟩:St)=some (.normal,(⟨[(0,(.slice (some ⟨id,off,none⟩) n cap)),(3,(.slice (some ⟨(H.length+2),0,none⟩) 8 8)),(4,(.slice (some ⟨H.length+1,0,none⟩) 8 8)),(5,(.slice (some ⟨H.length,0,none⟩) 8 8)),(6,.int .i64 ((i:Int)-1))],H++[⟨Ke (nx'),true,true,true,1⟩,⟨Ke orderW,true,true,true,1⟩,⟨Ke (r'),true,true,true,1⟩],[]⟩:St))):=by
 have hc:w/2^(i%32)%2≤1:=by omega
 obtain ⟨r1,c1,hb1,i1⟩:=Q2z (H:=H) (s:=(.slice (some ⟨id,off,none⟩) n cap)) (v := .int .i64 (i:Nat)) (nx:=nx) h.len h.lt hc
 obtain ⟨nx1,b,hb2,i2⟩:=Q24 (H:=H) (s:=(.slice (some ⟨id,off,none⟩) n cap)) (v := .int .i64 (i:Nat)) (r:=r1) (nx:=nx) i1.len i1.lt h.len2 h.lt2
 obtain ⟨o,ho,hcell⟩:=hr
 have ho':=Hb (l:=[⟨Ke (r),true,true,true,1⟩,⟨Ke orderW,true,true,true,1⟩,⟨Ke (nx),true,true,true,1⟩]) ho
 have hwc:=hcell (i/32) w hw
 have h1:((i:Int)≥0):=by omega
 have h2:((i/32:Nat):Int)<(n:Int):=by omega
 have h4:¬ (((i%32:Nat):Int)<0):=by omega
 have e1:IntKind.i64.wrap ((i:Int).tdiv 32)=((i/32:Nat):Int):=Yi (n:=i/32) (by omega)
 have e2:((i:Int).tmod 32)=((i%32:Nat):Int):=rfl
 have e3:Qc3 (w:Int) (2^min (i%32) IntKind.u32.bits)=((w/2^(i%32):Nat):Int):=by
  rw [Vz (by show _≤32; omega),Ub _ (Zby (Zf2 (by decide)))]; simp
 have e4:Vx .and .u32 ((w/2^(i%32):Nat):Int) 1=((w/2^(i%32)%2:Nat):Int):=by
  rw [show (1:Int)=((1:Nat):Int) from rfl,T8 (k := .u32) (a:=w/2^(i%32)) (b:=1) rfl (Wv (Uj _ _) hw') (by decide),Nat.and_one_is_mod]
 have e5:IntKind.i64.wrap ((i:Int)-1)=(i:Int)-1:=Kn (by omega) (by omega)
 have e8:((8:Nat):Int)=8:=rfl
 have hst:=h.step hc i1 i2
 generalize w/2^(i%32)%2=c at *
 by_cases hb0:b=0
 ·subst hb0
  have e6:(((0:Nat):Int)==0)=true:=rfl
  refine ⟨nx1,r1,hst.1 rfl,.inr ?_⟩
  simp only [Mm,Zw,Kt,Vc,Vp,Xj,Vd,J1,Vq,Kx,Vs,guardOf,Z6,opd,Uo,Yk,Vu,Env.get,Env.put,Y6,Zb,Q9,Ze,Jp,Yl,Kq,Xi,St.after,Env.keep,if_true,if_false,ite_true,ite_false,Wu,Y0,unV,Yt,Vw,packed,reduceCtorEq,Jm,Jn,Jd,Qg,Qb,Qi,Z3,Jc,Jg,beq_self_eq_true,Ka,Xf,K7,Kz,Kg,Vm,Kp,X9,Vn,Vl,Kj,V7,Va,Xo,Vj,Vo,Kl,Kk,Xc,Kf,Jv,J4,J3,Xm,Xa,Xk,J9,J2,Xn,Xl,Xy,Xb,Ky,X0,K9,Vk,Xz,Vb,Xg,Ob.fresh,Uf,Ut,Uy,Jq,and_self,true_and,and_true,Jr,Kh,Yc,Wd,V8,Xp,Yj,Xq,Xt,false_and,decide_true,decide_false,Jy,Qq,Qo,Qp,Qc,Qn,Qh,Wx,Xx,Y8,Kd,X6,X7,Z1,Z0,Gq,Gp,Gn,Gm,Zn,Kr,J7,Xw,Xv,V6,Xh,h1,h2,h4,ho',hwc,e1,e2,e3,e4,e5,e6,e8,hb1,hb2]
 ·have hb1':b=1:=by have:=i2.ble; omega
  subst hb1'
  have e6:(((1:Nat):Int)==0)=false:=rfl
  refine ⟨r1,nx1,hst.2 (by decide),.inl ?_⟩
  simp only [Mm,Zw,Kt,Vc,Vp,Xj,Vd,J1,Vq,Kx,Vs,guardOf,Z6,opd,Uo,Yk,Vu,Env.get,Env.put,Y6,Zb,Q9,Ze,Jp,Yl,Kq,Xi,St.after,Env.keep,if_true,if_false,ite_true,ite_false,Wu,Y0,unV,Yt,Vw,packed,reduceCtorEq,Jm,Jn,Jd,Qg,Qb,Qi,Z3,Jc,Jg,beq_self_eq_true,Ka,Xf,K7,Kz,Kg,Vm,Kp,X9,Vn,Vl,Kj,V7,Va,Xo,Vj,Vo,Kl,Kk,Xc,Kf,Jv,J4,J3,Xm,Xa,Xk,J9,J2,Xn,Xl,Xy,Xb,Ky,X0,K9,Vk,Xz,Vb,Xg,Ob.fresh,Uf,Ut,Uy,Jq,and_self,true_and,and_true,Jr,Kh,Yc,Wd,V8,Xp,Yj,Xq,Xt,false_and,decide_true,decide_false,Jy,Qq,Qo,Qp,Qc,Qn,Qh,Wx,Xx,Y8,Kd,X6,X7,Z1,Z0,Gq,Gp,Gn,Gm,Zn,Kr,J7,Xw,Xv,V6,Xh,h1,h2,h4,ho',hwc,e1,e2,e3,e4,e5,e6,e8,hb1,hb2]
theorem Qwc {H:List Ob} {id off n cap i w V:Nat} {ws r nx:List Nat} (hr:Row .u32 H id off ws) (hn:ws.length=n) (hN:n<2^40) (hi:i<32*n) (hw:ws[i/32]?=some w) (hw':w<4294967296) (h:RInv V r nx) :
  ∃ r' nx',RInv (2*V+w/2^(i%32)%2) r' nx'∧(Jl T H.length Mm (⟨[(0,(.slice (some ⟨id,off,none⟩) n cap)),(3,(.slice (some ⟨(H.length+2),0,none⟩) 8 8)),(4,(.slice (some ⟨H.length+1,0,none⟩) 8 8)),(5,(.slice (some ⟨H.length,0,none⟩) 8 8)),(6,.int .i64 ((i:Nat)))],H++[⟨Ke (nx),true,true,true,1⟩,⟨Ke orderW,true,true,true,1⟩,⟨Ke (r),true,true,true,1⟩],[]⟩:St)=some (.normal,(⟨[(0,(.slice (some ⟨id,off,none⟩) n cap)),(3,(.slice (some ⟨(H.length+2),0,none⟩) 8 8)),(4,(.slice (some ⟨H.length+1,0,none⟩) 8 8)),(5,(.slice (some ⟨H.length,0,none⟩) 8 8)),(6,.int .i64 ((i:Int)-1))],H++[⟨Ke (nx'),true,true,true,1⟩,⟨Ke orderW,true,true,true,1⟩,⟨Ke (r'),true,true,true,1⟩],[]⟩:St))∨Jl T H.length Mm (⟨[(0,(.slice (some ⟨id,off,none⟩) n cap)),(3,(.slice (some ⟨(H.length+2),0,none⟩) 8 8)),(4,(.slice (some ⟨H.length+1,0,none⟩) 8 8)),(5,(.slice (some ⟨H.length,0,none⟩) 8 8)),(6,.int .i64 ((i:Nat)))],H++[⟨Ke (nx),true,true,true,1⟩,⟨Ke orderW,true,true,true,1⟩,⟨Ke (r),true,true,true,1⟩],[]⟩:St)=some (.normal,(⟨[(0,(.slice (some ⟨id,off,none⟩) n cap)),(3,(.slice (some ⟨H.length,0,none⟩) 8 8)),(4,(.slice (some ⟨H.length+1,0,none⟩) 8 8)),(5,(.slice (some ⟨(H.length+2),0,none⟩) 8 8)),(6,.int .i64 ((i:Int)-1))],H++[⟨Ke (r'),true,true,true,1⟩,⟨Ke orderW,true,true,true,1⟩,⟨Ke (nx'),true,true,true,1⟩],[]⟩:St))):=by
 have hc:w/2^(i%32)%2≤1:=by omega
 obtain ⟨r1,c1,hb1,i1⟩:=Q2y (H:=H) (s:=(.slice (some ⟨id,off,none⟩) n cap)) (v := .int .i64 (i:Nat)) (nx:=nx) h.len h.lt hc
 obtain ⟨nx1,b,hb2,i2⟩:=Q23 (H:=H) (s:=(.slice (some ⟨id,off,none⟩) n cap)) (v := .int .i64 (i:Nat)) (r:=r1) (nx:=nx) i1.len i1.lt h.len2 h.lt2
 obtain ⟨o,ho,hcell⟩:=hr
 have ho':=Hb (l:=[⟨Ke (nx),true,true,true,1⟩,⟨Ke orderW,true,true,true,1⟩,⟨Ke (r),true,true,true,1⟩]) ho
 have hwc:=hcell (i/32) w hw
 have h1:((i:Int)≥0):=by omega
 have h2:((i/32:Nat):Int)<(n:Int):=by omega
 have h4:¬ (((i%32:Nat):Int)<0):=by omega
 have e1:IntKind.i64.wrap ((i:Int).tdiv 32)=((i/32:Nat):Int):=Yi (n:=i/32) (by omega)
 have e2:((i:Int).tmod 32)=((i%32:Nat):Int):=rfl
 have e3:Qc3 (w:Int) (2^min (i%32) IntKind.u32.bits)=((w/2^(i%32):Nat):Int):=by
  rw [Vz (by show _≤32; omega),Ub _ (Zby (Zf2 (by decide)))]; simp
 have e4:Vx .and .u32 ((w/2^(i%32):Nat):Int) 1=((w/2^(i%32)%2:Nat):Int):=by
  rw [show (1:Int)=((1:Nat):Int) from rfl,T8 (k := .u32) (a:=w/2^(i%32)) (b:=1) rfl (Wv (Uj _ _) hw') (by decide),Nat.and_one_is_mod]
 have e5:IntKind.i64.wrap ((i:Int)-1)=(i:Int)-1:=Kn (by omega) (by omega)
 have e8:((8:Nat):Int)=8:=rfl
 have hst:=h.step hc i1 i2
 generalize w/2^(i%32)%2=c at *
 by_cases hb0:b=0
 ·subst hb0
  have e6:(((0:Nat):Int)==0)=true:=rfl
  refine ⟨nx1,r1,hst.1 rfl,.inr ?_⟩
  simp only [Mm,Zw,Kt,Vc,Vp,Xj,Vd,J1,Vq,Kx,Vs,guardOf,Z6,opd,Uo,Yk,Vu,Env.get,Env.put,Y6,Zb,Q9,Ze,Jp,Yl,Kq,Xi,St.after,Env.keep,if_true,if_false,ite_true,ite_false,Wu,Y0,unV,Yt,Vw,packed,reduceCtorEq,Jm,Jn,Jd,Qg,Qb,Qi,Z3,Jc,Jg,beq_self_eq_true,Ka,Xf,K7,Kz,Kg,Vm,Kp,X9,Vn,Vl,Kj,V7,Va,Xo,Vj,Vo,Kl,Kk,Xc,Kf,Jv,J4,J3,Xm,Xa,Xk,J9,J2,Xn,Xl,Xy,Xb,Ky,X0,K9,Vk,Xz,Vb,Xg,Ob.fresh,Uf,Ut,Uy,Jq,and_self,true_and,and_true,Jr,Kh,Yc,Wd,V8,Xp,Yj,Xq,Xt,false_and,decide_true,decide_false,Jy,Qq,Qo,Qp,Qc,Qn,Qh,Wx,Xx,Y8,Kd,X6,X7,Z1,Z0,Gq,Gp,Gn,Gm,Zn,Kr,J7,Xw,Xv,V6,Xh,h1,h2,h4,ho',hwc,e1,e2,e3,e4,e5,e6,e8,hb1,hb2]
 ·have hb1':b=1:=by have:=i2.ble; omega
  subst hb1'
  have e6:(((1:Nat):Int)==0)=false:=rfl
  refine ⟨r1,nx1,hst.2 (by decide),.inl ?_⟩
  simp only [Mm,Zw,Kt,Vc,Vp,Xj,Vd,J1,Vq,Kx,Vs,guardOf,Z6,opd,Uo,Yk,Vu,Env.get,Env.put,Y6,Zb,Q9,Ze,Jp,Yl,Kq,Xi,St.after,Env.keep,if_true,if_false,ite_true,ite_false,Wu,Y0,unV,Yt,Vw,packed,reduceCtorEq,Jm,Jn,Jd,Qg,Qb,Qi,Z3,Jc,Jg,beq_self_eq_true,Ka,Xf,K7,Kz,Kg,Vm,Kp,X9,Vn,Vl,Kj,V7,Va,Xo,Vj,Vo,Kl,Kk,Xc,Kf,Jv,J4,J3,Xm,Xa,Xk,J9,J2,Xn,Xl,Xy,Xb,Ky,X0,K9,Vk,Xz,Vb,Xg,Ob.fresh,Uf,Ut,Uy,Jq,and_self,true_and,and_true,Jr,Kh,Yc,Wd,V8,Xp,Yj,Xq,Xt,false_and,decide_true,decide_false,Jy,Qq,Qo,Qp,Qc,Qn,Qh,Wx,Xx,Y8,Kd,X6,X7,Z1,Z0,Gq,Gp,Gn,Gm,Zn,Kr,J7,Xw,Xv,V6,Xh,h1,h2,h4,ho',hwc,e1,e2,e3,e4,e5,e6,e8,hb1,hb2]
def Qlz (H:List Ob) (s:Value) (p:Bool) (v:Int) (r nx:List Nat):St:=match p with
 | false=>(⟨[(0,s),(3,(.slice (some ⟨H.length,0,none⟩) 8 8)),(4,(.slice (some ⟨H.length+1,0,none⟩) 8 8)),(5,(.slice (some ⟨(H.length+2),0,none⟩) 8 8)),(6,.int .i64 (v))],H++[⟨Ke (r),true,true,true,1⟩,⟨Ke orderW,true,true,true,1⟩,⟨Ke (nx),true,true,true,1⟩],[]⟩:St)
 | true=>(⟨[(0,s),(3,(.slice (some ⟨(H.length+2),0,none⟩) 8 8)),(4,(.slice (some ⟨H.length+1,0,none⟩) 8 8)),(5,(.slice (some ⟨H.length,0,none⟩) 8 8)),(6,.int .i64 (v))],H++[⟨Ke (nx),true,true,true,1⟩,⟨Ke orderW,true,true,true,1⟩,⟨Ke (r),true,true,true,1⟩],[]⟩:St)
def Ql0 (H:List Ob) (s:Value) (p:Bool) (r nx:List Nat):St:=match p with
 | false=>(⟨[(0,s),(3,(.slice (some ⟨H.length,0,none⟩) 8 8)),(4,(.slice (some ⟨H.length+1,0,none⟩) 8 8)),(5,(.slice (some ⟨(H.length+2),0,none⟩) 8 8)),(6,.int .i64 (-1)),(19,.bool false)],H++[⟨Ke (r),true,true,true,1⟩,⟨Ke orderW,true,true,true,1⟩,⟨Ke (nx),true,true,true,1⟩],[]⟩:St)
 | true=>(⟨[(0,s),(3,(.slice (some ⟨(H.length+2),0,none⟩) 8 8)),(4,(.slice (some ⟨H.length+1,0,none⟩) 8 8)),(5,(.slice (some ⟨H.length,0,none⟩) 8 8)),(6,.int .i64 (-1)),(19,.bool false)],H++[⟨Ke (nx),true,true,true,1⟩,⟨Ke orderW,true,true,true,1⟩,⟨Ke (r),true,true,true,1⟩],[]⟩:St)
theorem Q0j {H:List Ob} {id off n cap i w V:Nat} {ws r nx:List Nat} (p:Bool) (hr:Row .u32 H id off ws) (hn:ws.length=n) (hN:n<2^40) (hi:i<32*n) (hw:ws[i/32]?=some w) (hw':w<4294967296) (h:RInv V r nx) :
  ∃ q r' nx',RInv (2*V+w/2^(i%32)%2) r' nx'∧Jl T H.length Mm (Qlz H (.slice (some ⟨id,off,none⟩) n cap) p (i:Nat) r nx)=some (.normal,Qlz H (.slice (some ⟨id,off,none⟩) n cap) q ((i:Int)-1) r' nx'):=by
 cases p with
 | false =>
  obtain ⟨r',nx',h1,h2⟩:=Qwd (cap:=cap) hr hn hN hi hw hw' h
  rcases h2 with h2 | h2
  ·exact ⟨false,r',nx',h1,h2⟩
  ·exact ⟨true,r',nx',h1,h2⟩
 | true =>
  obtain ⟨r',nx',h1,h2⟩:=Qwc (cap:=cap) hr hn hN hi hw hw' h
  rcases h2 with h2 | h2
  ·exact ⟨true,r',nx',h1,h2⟩
  ·exact ⟨false,r',nx',h1,h2⟩
theorem Zej {ws:List Nat} {i w:Nat} (hws:∀ x∈ws,x<4294967296) (hw:ws[i/32]?=some w):2*(num 4294967296 ws/2^(i+1))+w/2^(i%32)%2=num 4294967296 ws/2^i:=by
 have h1:=G8 (B:=4294967296) (by decide) hws hw
 generalize num 4294967296 ws=v at *
 have h2:w/2^(i%32)%2=v/2^i%2:=by
  have e1:(4294967296:Nat)^(i/32)=2^(32*(i/32)):=by rw [show (4294967296:Nat)=2^32 from rfl,←Y5]
  rw [←h1,e1]
  have e2:(2:Nat)^i=2^(32*(i/32))*2^(i%32):=by rw [←Ud]; congr 1; omega
  rw [e2,←Kb]
  generalize v/2^(32*(i/32))=u
  have e3:(4294967296:Nat)=2^(i%32)*2^(32-i%32):=by rw [←Ud]; rw [show i%32+(32-i%32)=32 by omega]
  rw [e3,Qcz,Rx]
  exact ⟨2^(31-i%32),by rw [←Qur]; congr 1; omega⟩
 rw [h2,Kv,←Kb]
 omega
theorem Qwe {H:List Ob} {id off n cap:Nat} {ws:List Nat} (hr:Row .u32 H id off ws) (hn:ws.length=n) (hn0:0<n) (hN:n<2^40) (hws:∀ x∈ws,x<4294967296) :
  ∃ k l,Yd T 120 [.slice (some ⟨id,off,none⟩) n cap] H=some (.slice (some ⟨k,0,none⟩) 8 8,H++l,[])∧Row .u32 (H++l) k 0 (dig 4294967296 8 (num 4294967296 ws%ell)):=by
 have h0:RInv (num 4294967296 ws/2^(32*n)) (dig 4294967296 8 0) (dig 4294967296 8 0):=by
  refine ⟨Km _ _ _,fun x hx=>Dh (by decide) hx,Km _ _ _,fun x hx=>Dh (by decide) hx,?_⟩
  have h1:=num_lt hws
  rw [hn,show (4294967296:Nat)=2^32 from rfl,←Y5] at h1
  rw [Bq (by decide),show (4294967296:Nat)=2^32 from rfl,Uk h1]
  simp
 obtain ⟨s',hb,q,r,nx,rfl,hinv⟩:=Vi (T:=T) (base:=H.length) (id:=0) (body:=Mm)
  (fun j s=>∃ p r nx,s=Qlz H (.slice (some ⟨id,off,none⟩) n cap) p (((32*n-j:Nat):Int)-1) r nx∧RInv (num 4294967296 ws/2^(32*n-j)) r nx)
  (Q:=fun s=>∃ p r nx,s=Ql0 H (.slice (some ⟨id,off,none⟩) n cap) p r nx∧RInv (num 4294967296 ws) r nx)
  (32*n) (s:=Qlz H (.slice (some ⟨id,off,none⟩) n cap) false (((32*n-0:Nat):Int)-1) (dig 4294967296 8 0) (dig 4294967296 8 0)) ⟨false,_,_,rfl,h0⟩
  (fun j s hj hs=>by
   obtain ⟨p,r,nx,rfl,hI⟩:=hs
   obtain ⟨i,hi⟩:∃ i,32*n-j=i+1:=⟨32*n-j-1,by omega⟩
   obtain ⟨w,hw⟩:∃ w,ws[i/32]?=some w:=⟨_,Q3 (by omega)⟩
   rw [hi] at hI
   obtain ⟨q,r',nx',g1,g2⟩:=Q0j (cap:=cap) p hr hn hN (by omega) hw (hws w (Zp hw)) hI
   rw [Zej hws hw] at g1
   refine ⟨_,?_,q,r',nx',rfl,by rw [show 32*n-(j+1)=i by omega]; exact g1⟩
   rw [hi,show 32*n-(j+1)=i by omega,show (((i+1:Nat):Int)-1)=(i:Nat) by omega]
   exact g2)
  (fun s hs=>by
   obtain ⟨p,r,nx,rfl,hI⟩:=hs
   rw [Jw,Yv,Ww] at hI
   refine ⟨_,?_,p,r,nx,rfl,hI⟩
   rw [Jw]
   have h1:¬ ((-1:Int)≥0):=by decide
   cases p with
   | false =>
    rw [show Qlz H (.slice (some ⟨id,off,none⟩) n cap) false (((0:Nat):Int)-1) r nx=(⟨[(0,.slice (some ⟨id,off,none⟩) n cap),(3,(.slice (some ⟨H.length,0,none⟩) 8 8)),(4,(.slice (some ⟨H.length+1,0,none⟩) 8 8)),(5,(.slice (some ⟨(H.length+2),0,none⟩) 8 8)),(6,.int .i64 (-1))],H++[⟨Ke (r),true,true,true,1⟩,⟨Ke orderW,true,true,true,1⟩,⟨Ke (nx),true,true,true,1⟩],[]⟩:St) from rfl]
    simp only [Mm,Zw,Kt,Vc,Vp,Xj,Vd,J1,Vq,Kx,Vs,guardOf,Z6,opd,Uo,Yk,Vu,Env.get,Env.put,Y6,Zb,Q9,Ze,Jp,Yl,Kq,Xi,St.after,Env.keep,if_true,if_false,ite_true,ite_false,Wu,Y0,unV,Yt,Vw,packed,reduceCtorEq,Jm,Jn,Jd,Qg,Qb,Qi,Z3,Jc,Jg,beq_self_eq_true,Ka,Xf,K7,Kz,Kg,Vm,Kp,X9,Vn,Vl,Kj,V7,Va,Xo,Vj,Vo,Kl,Kk,Xc,Kf,Jv,J4,J3,Xm,Xa,Xk,J9,J2,Xn,Xl,Xy,Xb,Ky,X0,K9,Vk,Xz,Vb,Xg,Ob.fresh,Uf,Ut,Uy,Jq,and_self,true_and,and_true,Jr,Kh,Yc,Wd,V8,Xp,Yj,Xq,Xt,false_and,decide_true,decide_false,Jy,Qq,Qo,Qp,Qc,Qn,Qh,Wx,Xx,Y8,Kd,X6,X7,Z1,Z0,Gq,Gp,Gn,Gm,Zn,Kr,J7,Xw,Xv,V6,Xh,h1,Ql0]
   | true =>
    rw [show Qlz H (.slice (some ⟨id,off,none⟩) n cap) true (((0:Nat):Int)-1) r nx=(⟨[(0,.slice (some ⟨id,off,none⟩) n cap),(3,(.slice (some ⟨(H.length+2),0,none⟩) 8 8)),(4,(.slice (some ⟨H.length+1,0,none⟩) 8 8)),(5,(.slice (some ⟨H.length,0,none⟩) 8 8)),(6,.int .i64 (-1))],H++[⟨Ke (nx),true,true,true,1⟩,⟨Ke orderW,true,true,true,1⟩,⟨Ke (r),true,true,true,1⟩],[]⟩:St) from rfl]
    simp only [Mm,Zw,Kt,Vc,Vp,Xj,Vd,J1,Vq,Kx,Vs,guardOf,Z6,opd,Uo,Yk,Vu,Env.get,Env.put,Y6,Zb,Q9,Ze,Jp,Yl,Kq,Xi,St.after,Env.keep,if_true,if_false,ite_true,ite_false,Wu,Y0,unV,Yt,Vw,packed,reduceCtorEq,Jm,Jn,Jd,Qg,Qb,Qi,Z3,Jc,Jg,beq_self_eq_true,Ka,Xf,K7,Kz,Kg,Vm,Kp,X9,Vn,Vl,Kj,V7,Va,Xo,Vj,Vo,Kl,Kk,Xc,Kf,Jv,J4,J3,Xm,Xa,Xk,J9,J2,Xn,Xl,Xy,Xb,Ky,X0,K9,Vk,Xz,Vb,Xg,Ob.fresh,Uf,Ut,Uy,Jq,and_self,true_and,and_true,Jr,Kh,Yc,Wd,V8,Xp,Yj,Xq,Xt,false_and,decide_true,decide_false,Jy,Qq,Qo,Qp,Qc,Qn,Qh,Wx,Xx,Y8,Kd,X6,X7,Z1,Z0,Gq,Gp,Gn,Gm,Zn,Kr,J7,Xw,Xv,V6,Xh,h1,Ql0])
 obtain ⟨m,hm⟩:∃ m:Int,m=((32*n-0:Nat):Int)-1:=⟨_,rfl⟩
 rw [←hm,show Qlz H (.slice (some ⟨id,off,none⟩) n cap) false m (dig 4294967296 8 0) (dig 4294967296 8 0)=(⟨[(0,.slice (some ⟨id,off,none⟩) n cap),(3,(.slice (some ⟨H.length,0,none⟩) 8 8)),(4,(.slice (some ⟨H.length+1,0,none⟩) 8 8)),(5,(.slice (some ⟨(H.length+2),0,none⟩) 8 8)),(6,.int .i64 (m))],H++[⟨Ke (dig 4294967296 8 0),true,true,true,1⟩,⟨Ke orderW,true,true,true,1⟩,⟨Ke (dig 4294967296 8 0),true,true,true,1⟩],[]⟩:St) from rfl] at hb
 have e1:IntKind.i64.wrap (IntKind.i64.wrap (32*(n:Int))-1)=m:=by rw [Kn (x:=32*(n:Int)) (by omega) (by omega),Kn (by omega) (by omega)]; omega
 have h1:((8:Int)*((4:Nat):Int)≤2^47):=by decide
 have h2:(0:Nat)<4:=by decide
 have h3:((0:Int)≤8):=by decide
 have hz:Qa 8 (Value.int .u32 0)=Ke (dig 4294967296 8 0):=rfl
 have horder:=Qlr (H++[⟨Ke (dig 4294967296 8 0),true,true,true,1⟩])
 simp only [Zh,Jc,Jg,Z3,Je,Ze,Q9,Ob.fresh] at horder
 have hdig:r=dig 4294967296 8 (num 4294967296 ws%ell):=by rw [←hinv.eq,←hinv.len,Tc (by decide) hinv.lt]
 cases q with
 | false =>
  refine ⟨H.length,[⟨Ke r,true,true,true,1⟩,⟨Ke orderW,true,true,true,1⟩,⟨Ke nx,true,true,true,1⟩],?_,?_⟩
  ·rw [Zz (fn:=a41) rfl]
   simp only [a41,Zw,Kt,Vc,Vp,Xj,Vd,J1,Vq,Kx,Vs,guardOf,Z6,opd,Uo,Yk,Vu,Env.get,Env.put,Y6,Zb,Q9,Ze,Jp,Yl,Kq,Xi,St.after,Env.keep,if_true,if_false,ite_true,ite_false,Wu,Y0,unV,Yt,Vw,packed,reduceCtorEq,Jm,Jn,Jd,Qg,Qb,Qi,Z3,Jc,Jg,beq_self_eq_true,Ka,Xf,K7,Kz,Kg,Vm,Kp,X9,Vn,Vl,Kj,V7,Va,Xo,Vj,Vo,Kl,Kk,Xc,Kf,Jv,J4,J3,Xm,Xa,Xk,J9,J2,Xn,Xl,Xy,Xb,Ky,X0,K9,Vk,Xz,Vb,Xg,Ob.fresh,Uf,Ut,Uy,Jq,and_self,true_and,and_true,Jr,Kh,Yc,Wd,V8,Xp,Yj,Xq,Xt,false_and,decide_true,decide_false,Jy,Qq,Qo,Qp,Qc,Qn,Qh,Wx,Xx,Y8,Kd,X6,X7,Z1,Z0,Gq,Gp,Gn,Gm,Zn,Kr,J7,Xw,Xv,V6,Xh,e1,h1,h2,h3,Kr,Qbx,hz,horder,Zh,Je,hb,Ql0]
  ·exact ⟨_,Uf,fun i x hx=>by rw [Z3]; exact Gl (by rw [hdig]; exact hx)⟩
 | true =>
  refine ⟨H.length+2,[⟨Ke nx,true,true,true,1⟩,⟨Ke orderW,true,true,true,1⟩,⟨Ke r,true,true,true,1⟩],?_,?_⟩
  ·rw [Zz (fn:=a41) rfl]
   simp only [a41,Zw,Kt,Vc,Vp,Xj,Vd,J1,Vq,Kx,Vs,guardOf,Z6,opd,Uo,Yk,Vu,Env.get,Env.put,Y6,Zb,Q9,Ze,Jp,Yl,Kq,Xi,St.after,Env.keep,if_true,if_false,ite_true,ite_false,Wu,Y0,unV,Yt,Vw,packed,reduceCtorEq,Jm,Jn,Jd,Qg,Qb,Qi,Z3,Jc,Jg,beq_self_eq_true,Ka,Xf,K7,Kz,Kg,Vm,Kp,X9,Vn,Vl,Kj,V7,Va,Xo,Vj,Vo,Kl,Kk,Xc,Kf,Jv,J4,J3,Xm,Xa,Xk,J9,J2,Xn,Xl,Xy,Xb,Ky,X0,K9,Vk,Xz,Vb,Xg,Ob.fresh,Uf,Ut,Uy,Jq,and_self,true_and,and_true,Jr,Kh,Yc,Wd,V8,Xp,Yj,Xq,Xt,false_and,decide_true,decide_false,Jy,Qq,Qo,Qp,Qc,Qn,Qh,Wx,Xx,Y8,Kd,X6,X7,Z1,Z0,Gq,Gp,Gn,Gm,Zn,Kr,J7,Xw,Xv,V6,Xh,e1,h1,h2,h3,Kr,Qbx,hz,horder,Zh,Je,hb,Ql0]
  ·exact ⟨_,Uy,fun i x hx=>by rw [Z3]; exact Gl (by rw [hdig]; exact hx)⟩
theorem Qca {cs v:List Value} (h:v.length=cs.length):splice cs 0 v=v:=by
 rw [Ht _ _ _ (by omega),Q0,Q9,Z3,h,List.drop_length,Xd]
theorem Za1 {v w i:Nat} (hw:v/4294967296^(i/4)%4294967296=w):w/2^(8*(i%4))%256=v/256^i%256:=by
 subst hw
 have e1:(4294967296:Nat)^(i/4)=2^(32*(i/4)):=by rw [show (4294967296:Nat)=2^32 from rfl,←Y5]
 have e2:(256:Nat)^i=2^(32*(i/4))*2^(8*(i%4)):=by
  rw [show (256:Nat)=2^8 from rfl,←Y5,←Ud]; congr 1; omega
 rw [e1,e2,←Kb]
 generalize v/2^(32*(i/4))=u
 have e3:(4294967296:Nat)=2^(8*(i%4))*2^(32-8*(i%4)):=by rw [←Ud]; rw [show 8*(i%4)+(32-8*(i%4))=32 by omega]
 rw [e3,Qcz,Rx]
 exact ⟨2^(24-8*(i%4)),by rw [show (256:Nat)=2^8 from rfl,←Ud]; congr 1; omega⟩
def byI (H:List Ob) (s:Value) (i:Int) (k:List Nat) (ex:Env):St :=
 ⟨[(0,s),(2,.pointer (some ⟨H.length,0,none⟩)),(3,.pointer (some ⟨H.length+1,0,none⟩)),(5,.int .i64 i)]++ex,H++[⟨u8s (dig 256 32 0),true,true,true,1⟩,⟨u8s k,true,true,true,1⟩],[]⟩
theorem Za2 {H:List Ob} {id off cap i w:Nat} {ws k:List Nat} (hr:Row .u32 H id off ws) (hn:ws.length=8) (hi:i<32) (hw:ws[i/4]?=some w) (hl:k.length=32) :
  Jl T H.length Qnk (byI H (.slice (some ⟨id,off,none⟩) 8 cap) (i:Nat) k [])=some (.normal,byI H (.slice (some ⟨id,off,none⟩) 8 cap) ((i+1:Nat):Int) (k.set i (w/2^(8*(i%4))%256)) []):=by
 obtain ⟨o,ho,hcell⟩:=hr
 have ho':=Hb (l:=[⟨u8s (dig 256 32 0),true,true,true,1⟩,⟨u8s k,true,true,true,1⟩]) ho
 have hwc:=hcell (i/4) w hw
 have h1:((i:Int)<32):=by omega
 have h1':((i:Int)<((32:Nat):Int)):=by omega
 have h2:((i/4:Nat):Int)<((8:Nat):Int):=by omega
 have h2':((i/4:Nat):Int)<(8:Int):=by omega
 have h4:¬ (((8*(i%4):Nat):Int)<0):=by omega
 have e1:IntKind.i64.wrap ((i:Int).tdiv 4)=((i/4:Nat):Int):=Yi (n:=i/4) (by omega)
 have e2:((i:Int).tmod 4)=((i%4:Nat):Int):=rfl
 have e3:IntKind.i64.wrap (8*((i%4:Nat):Int))=((8*(i%4):Nat):Int):=Yi (n:=8*(i%4)) (by omega)
 have e4:Qc3 (w:Int) (2^min (8*(i%4)) IntKind.u32.bits)=((w/2^(8*(i%4)):Nat):Int):=by
  rw [Vz (by show _≤32; omega),Ub _ (Zby (Zf2 (by decide)))]; simp
 have e5:IntKind.u8.wrap ((w/2^(8*(i%4)):Nat):Int)=((w/2^(8*(i%4))%256:Nat):Int):=by rw [wrap_u8]; rfl
 have e6:IntKind.i64.wrap ((i:Int)+1)=((i+1:Nat):Int):=Yi (n:=i+1) (by omega)
 have h5:i+1≤(u8s k).length:=by rw [Zv,hl]; omega
 simp only [byI,Qnk,Zw,Kt,Vc,Vp,Xj,Vd,J1,Vq,Kx,Vs,guardOf,Z6,opd,Uo,Yk,Vu,Env.get,Env.put,Y6,Zb,Q9,Ze,Jp,Yl,Kq,Xi,St.after,Env.keep,if_true,if_false,ite_true,ite_false,Wu,Y0,unV,Yt,Vw,packed,reduceCtorEq,Jm,Jn,Jd,Qg,Qb,Qi,Z3,Jc,Jg,beq_self_eq_true,Ka,Xf,K7,Kz,Kg,Vm,Kp,X9,Vn,Vl,Kj,V7,Va,Xo,Vj,Vo,Kl,Kk,Xc,Kf,Jv,J4,J3,Xm,Xa,Xk,J9,J2,Xn,Xl,Xy,Xb,Ky,X0,K9,Vk,Xz,Vb,Xg,Ob.fresh,Uf,Ut,Uy,Jq,and_self,true_and,and_true,Jr,Kh,Yc,Wd,V8,Xp,Yj,Xq,Xt,false_and,decide_true,decide_false,Jy,Qq,Qo,Qp,Qc,Qn,Qh,Wx,Xx,Y8,Kd,X6,X7,Z1,Z0,Gq,Gp,Gn,Gm,Zn,Kr,J7,Xw,Xv,V6,Xh,h1,h1',h2,h2',h4,ho',hwc,e1,e2,e3,e4,e5,e6,h5,Qr5,Ba]
theorem Qg8 {H:List Ob} {id off cap v:Nat} (hr:Row .u32 H id off (dig 4294967296 8 v)) :
  ∃ l,Yd T 121 [.slice (some ⟨id,off,none⟩) 8 cap] H=some (.agg (u8s (dig 256 32 v)).toArray,H++l,[]):=by
 obtain ⟨s',hb,k,rfl,hlen,hk⟩:=Vi (T:=T) (base:=H.length) (id:=0) (body:=Qnk)
  (fun i s=>∃ k,s=byI H (.slice (some ⟨id,off,none⟩) 8 cap) (i:Nat) k []∧k.length=32∧∀ t,t<i→k[t]?=some (v/256^t%256))
  (Q:=fun s=>∃ k,s=byI H (.slice (some ⟨id,off,none⟩) 8 cap) 32 k [(6,.bool false)]∧k.length=32∧∀ t,t<32→k[t]?=some (v/256^t%256))
  32 (s:=byI H (.slice (some ⟨id,off,none⟩) 8 cap) ((0:Nat):Int) (dig 256 32 0) []) ⟨_,rfl,Km _ _ _,fun t ht=>by omega⟩
  (fun i s hi hs=>by
   obtain ⟨k,rfl,hl,hk⟩:=hs
   refine ⟨_,Za2 hr (Km _ _ _) hi (B6 (by omega)) hl,_,rfl,by rw [Jk]; exact hl,fun t ht => ?_⟩
   by_cases h:t=i
   ·subst h
    rw [Jj (by omega),Za1 rfl]
   ·rw [Z4 (by omega)]
    exact hk t (by omega))
  (fun s hs=>by
   obtain ⟨k,rfl,hl,hk⟩:=hs
   have h1:¬ (((32:Nat):Int)<(32:Int)):=by omega
   refine ⟨_,?_,k,rfl,hl,hk⟩
   simp only [byI,Qnk,Zw,Kt,Vc,Vp,Xj,Vd,J1,Vq,Kx,Vs,guardOf,Z6,opd,Uo,Yk,Vu,Env.get,Env.put,Y6,Zb,Q9,Ze,Jp,Yl,Kq,Xi,St.after,Env.keep,if_true,if_false,ite_true,ite_false,Wu,Y0,unV,Yt,Vw,packed,reduceCtorEq,Jm,Jn,Jd,Qg,Qb,Qi,Z3,Jc,Jg,beq_self_eq_true,Ka,Xf,K7,Kz,Kg,Vm,Kp,X9,Vn,Vl,Kj,V7,Va,Xo,Vj,Vo,Kl,Kk,Xc,Kf,Jv,J4,J3,Xm,Xa,Xk,J9,J2,Xn,Xl,Xy,Xb,Ky,X0,K9,Vk,Xz,Vb,Xg,Ob.fresh,Uf,Ut,Uy,Jq,and_self,true_and,and_true,Jr,Kh,Yc,Wd,V8,Xp,Yj,Xq,Xt,false_and,decide_true,decide_false,Jy,Qq,Qo,Qp,Qc,Qn,Qh,Wx,Xx,Y8,Kd,X6,X7,Z1,Z0,Gq,Gp,Gn,Gm,Zn,Kr,J7,Xw,Xv,V6,Xh,h1]
   rfl)
 have hkk:k=dig 256 32 v:=Qet hlen fun i hi=>hk i hi
 subst hkk
 have hz:Qa 32 (Value.int .u8 0)=u8s (dig 256 32 0):=rfl
 have h1:0+32≤(u8s (dig 256 32 v)).length:=by rw [Zv,Km]; omega
 have h1':32≤(u8s (dig 256 32 v)).length:=by rw [Zv,Km]; omega
 have h2:((u8s (dig 256 32 v)).drop 0).take 32=u8s (dig 256 32 v):=by rw [Qz,Zk (by rw [Zv,Km]; omega)]
 have h3:(u8s (dig 256 32 v)).length=32:=by rw [Zv,Km]
 have h4:0+(u8s (dig 256 32 v)).length≤(u8s (dig 256 32 0)).length:=by rw [Zv,Zv,Km,Km]; omega
 have h5:splice (u8s (dig 256 32 0)) 0 (u8s (dig 256 32 v))=u8s (dig 256 32 v):=Qca (by rw [Zv,Zv,Km,Km])
 have h6:=Hj (H:=H) (r:=[⟨u8s (dig 256 32 v),true,true,true,1⟩]) (e:=true) (s:=1) h4
 rw [h5] at h6
 refine ⟨[⟨u8s (dig 256 32 v),true,true,true,1⟩,⟨u8s (dig 256 32 v),true,true,true,1⟩],?_⟩
 rw [show byI H (.slice (some ⟨id,off,none⟩) 8 cap) ((0:Nat):Int) (dig 256 32 0) []=⟨[(0,.slice (some ⟨id,off,none⟩) 8 cap),(2,.pointer (some ⟨H.length,0,none⟩)),(3,.pointer (some ⟨H.length+1,0,none⟩)),(5,.int .i64 0)],H++[⟨u8s (dig 256 32 0),true,true,true,1⟩,⟨u8s (dig 256 32 0),true,true,true,1⟩],[]⟩ from rfl] at hb
 rw [Zz (fn:=a42) rfl]
 simp only [a42,Zw,Kt,Vc,Vp,Xj,Vd,J1,Vq,Kx,Vs,guardOf,Z6,opd,Uo,Yk,Vu,Env.get,Env.put,Y6,Zb,Q9,Ze,Jp,Yl,Kq,Xi,St.after,Env.keep,if_true,if_false,ite_true,ite_false,Wu,Y0,unV,Yt,Vw,packed,reduceCtorEq,Jm,Jn,Jd,Qg,Qb,Qi,Z3,Jc,Jg,beq_self_eq_true,Ka,Xf,K7,Kz,Kg,Vm,Kp,X9,Vn,Vl,Kj,V7,Va,Xo,Vj,Vo,Kl,Kk,Xc,Kf,Jv,J4,J3,Xm,Xa,Xk,J9,J2,Xn,Xl,Xy,Xb,Ky,X0,K9,Vk,Xz,Vb,Xg,Ob.fresh,Uf,Ut,Uy,Jq,and_self,true_and,and_true,Jr,Kh,Yc,Wd,V8,Xp,Yj,Xq,Xt,false_and,decide_true,decide_false,Jy,Qq,Qo,Qp,Qc,Qn,Qh,Wx,Xx,Y8,Kd,X6,X7,Z1,Z0,Gq,Gp,Gn,Gm,Zn,Kr,J7,Xw,Xv,V6,Xh,hz,hb,byI,h1,h1',h2,V6,Xh,h3,h6,Zh,Je]
theorem Qak {H:List Ob} {ws:List Nat}:Row .u32 (H++[Ob.fresh (Ke ws)]) H.length 0 ws:=⟨_,Uf,fun i x hx=>by rw [Z3]; exact Gl hx⟩
theorem Q3g {H:List Ob} {ws:List Nat} {o:Ob}:Row .u32 (H++[⟨Ke ws,true,true,true,1⟩,o]) H.length 0 ws:=⟨_,Uf,fun i x hx=>by rw [Z3]; exact Gl hx⟩
def Q0q (l:List Nat):Value := .agg (u8s l).toArray
theorem Zce:Wz 32 32 none none none=some (0,32,32):=rfl
theorem Qar {n v:Nat}:∀ x∈dig 4294967296 n v,x<4294967296:=fun x hx=>Dh (by decide) hx
theorem Qkd {l:List Nat} (hl:l.length=32) (h:∀ x∈l,x<256):num 256 l<4294967296^8:=by
 have:=num_lt h
 rw [hl] at this
 rw [show (4294967296:Nat)^8=256^32 from by decide]; exact this
theorem Qwb {H:List Ob} {a b c:List Nat} (ha:Row .u8 H 0 0 a) (hb:Row .u8 H 1 0 b) (hc:Row .u8 H 2 0 c) (la:a.length=32) (lb:b.length=32) (lc:c.length=32)
    (xa:∀ x∈a,x<256) (xb:∀ x∈b,x<256) (xc:∀ x∈c,x<256) :
    ∃ k l l2,Yd T 97 [.slice (some ⟨0,0,none⟩) 32 32] H=some (.slice (some ⟨H.length,0,none⟩) 8 8,H++[Ob.fresh (Ke (dig 4294967296 8 (num 256 a)))],[]) ∧
      (let H5:=H++[Ob.fresh (Ke (dig 4294967296 8 (num 256 a)))]
       let H6:=H5++[Ob.fresh (Ke (dig 4294967296 8 (num 256 b)))]
       let H7:=H6++[Ob.fresh (Ke (dig 4294967296 16 (num 256 a*num 256 b)))]
       let H8:=H7++[Ob.fresh (Ke (dig 4294967296 8 (num 256 c)))]
       let H10:=H8++[⟨Ke (dig 4294967296 17 (num 256 a*num 256 b+num 256 c)),true,true,true,1⟩,⟨[.int .u32 0],true,true,true,1⟩]
       Yd T 97 [.slice (some ⟨1,0,none⟩) 32 32] H5=some (.slice (some ⟨H5.length,0,none⟩) 8 8,H6,[]) ∧
       Yd T 118 [.slice (some ⟨H.length,0,none⟩) 8 8,.slice (some ⟨H5.length,0,none⟩) 8 8] H6=some (.slice (some ⟨H6.length,0,none⟩) 16 16,H7,[]) ∧
       Yd T 97 [.slice (some ⟨2,0,none⟩) 32 32] H7=some (.slice (some ⟨H7.length,0,none⟩) 8 8,H8,[]) ∧
       Yd T 119 [.slice (some ⟨H6.length,0,none⟩) 16 16,.slice (some ⟨H7.length,0,none⟩) 8 8] H8=some (.slice (some ⟨H8.length,0,none⟩) 17 17,H10,[]) ∧
       Yd T 120 [.slice (some ⟨H8.length,0,none⟩) 17 17] H10=some (.slice (some ⟨k,0,none⟩) 8 8,H10++l,[]) ∧
       Yd T 121 [.slice (some ⟨k,0,none⟩) 8 8] (H10++l)=some (Q0q (dig 256 32 ((num 256 a*num 256 b+num 256 c)%ell)),H10++l++l2,[])):=by
  have na:=Qkd la xa
  have nb:=Qkd lb xb
  have nc:=Qkd lc xc
  have h1:=Qo4 (c:=32) ha la (by decide) xa
  have h2:=Qo4 (c:=32) (hb.app (l:=[Ob.fresh (Ke (dig 4294967296 8 (num 256 a)))])) lb (by decide) xb
  have r1:=(Qak (H:=H) (ws:=dig 4294967296 8 (num 256 a))).app (l:=[Ob.fresh (Ke (dig 4294967296 8 (num 256 b)))])
  have r2:=Qak (H:=H++[Ob.fresh (Ke (dig 4294967296 8 (num 256 a)))]) (ws:=dig 4294967296 8 (num 256 b))
  have h3:=Q2q (c1:=8) (c2:=8) r1 r2 (Km _ _ _) (Km _ _ _) (by decide) Qar Qar
  rw [Bq (by decide),Bq (by decide),Z5 na,Z5 nb] at h3
  have h4:=Qo4 (c:=32) (((hc.app (l:=[Ob.fresh (Ke (dig 4294967296 8 (num 256 a)))])).app (l:=[Ob.fresh (Ke (dig 4294967296 8 (num 256 b)))])).app (l:=[Ob.fresh (Ke (dig 4294967296 16 (num 256 a*num 256 b)))])) lc (by decide) xc
  have r3:=(Qak (H:=H++[Ob.fresh (Ke (dig 4294967296 8 (num 256 a)))]++[Ob.fresh (Ke (dig 4294967296 8 (num 256 b)))]) (ws:=dig 4294967296 16 (num 256 a*num 256 b))).app (l:=[Ob.fresh (Ke (dig 4294967296 8 (num 256 c)))])
  have r4:=Qak (H:=H++[Ob.fresh (Ke (dig 4294967296 8 (num 256 a)))]++[Ob.fresh (Ke (dig 4294967296 8 (num 256 b)))]++[Ob.fresh (Ke (dig 4294967296 16 (num 256 a*num 256 b)))]) (ws:=dig 4294967296 8 (num 256 c))
  have h5:=Q8z (c1:=16) (c2:=8) r3 r4 (Km _ _ _) (Km _ _ _) (by decide) (by decide) (by decide) Qar Qar
  have nab:num 256 a*num 256 b<4294967296^16:=by
    rw [show (4294967296:Nat)^16=4294967296^8*4294967296^8 from by decide]
    exact Qus na nb
  rw [Bq (by decide),Bq (by decide),Z5 nab,Z5 nc] at h5
  have r5:=Q3g (H:=H++[Ob.fresh (Ke (dig 4294967296 8 (num 256 a)))]++[Ob.fresh (Ke (dig 4294967296 8 (num 256 b)))]++[Ob.fresh (Ke (dig 4294967296 16 (num 256 a*num 256 b)))]++[Ob.fresh (Ke (dig 4294967296 8 (num 256 c)))]) (ws:=dig 4294967296 17 (num 256 a*num 256 b+num 256 c)) (o:=⟨[.int .u32 0],true,true,true,1⟩)
  obtain ⟨k,l,h6,r6⟩:=Qwe (cap:=17) r5 (Km _ _ _) (by decide) (by decide) Qar
  have nabc:num 256 a*num 256 b+num 256 c<4294967296^17:=by
    have:(4294967296:Nat)^16+4294967296^8≤4294967296^17:=by decide
    omega
  rw [Bq (by decide),Z5 nabc] at r6
  obtain ⟨l2,h7⟩:=Qg8 (cap:=8) r6
  exact ⟨k,l,l2,h1,h2,h3,h4,h5,h6,h7⟩
theorem Q0i {a b c:List Nat} (la:a.length=32) (lb:b.length=32) (lc:c.length=32) (xa:∀ x∈a,x<256) (xb:∀ x∈b,x<256) (xc:∀ x∈c,x<256) :
  ∃ l,Yd T 65 [Q0q a,Q0q b,Q0q c] []=some (Q0q (dig 256 32 ((num 256 a*num 256 b+num 256 c)%ell)),l,[]):=by
 have hz:Qa 32 (Value.int .u8 0)=u8s (dig 256 32 0):=rfl
 obtain ⟨H,hH⟩:∃ H:List Ob,H=[⟨u8s a,true,true,true,1⟩,⟨u8s b,true,true,true,1⟩,⟨u8s c,true,true,true,1⟩,⟨u8s (dig 256 32 0),true,true,true,1⟩]:=⟨_,rfl⟩
 have ra:Row .u8 H 0 0 a:=by subst hH; exact ⟨_,rfl,fun i x hx=>by rw [Z3]; exact Wy hx⟩
 have rb:Row .u8 H 1 0 b:=by subst hH; exact ⟨_,rfl,fun i x hx=>by rw [Z3]; exact Wy hx⟩
 have rc:Row .u8 H 2 0 c:=by subst hH; exact ⟨_,rfl,fun i x hx=>by rw [Z3]; exact Wy hx⟩
 obtain ⟨k,l,l2,h1,h2,h3,h4,h5,h6,h7⟩:=Qwb ra rb rc la lb lc xa xb xc
 generalize hR:dig 256 32 ((num 256 a*num 256 b+num 256 c)%ell)=R at *
 have lR:(u8s R).length=32:=by rw [Zv,←hR,Km]
 generalize hH5:H++[Ob.fresh (Ke (dig 4294967296 8 (num 256 a)))]=H5 at h1 h2 h3 h4 h5 h6 h7
 generalize hH6:H5++[Ob.fresh (Ke (dig 4294967296 8 (num 256 b)))]=H6 at h2 h3 h4 h5 h6 h7
 generalize hH7:H6++[Ob.fresh (Ke (dig 4294967296 16 (num 256 a*num 256 b)))]=H7 at h3 h4 h5 h6 h7
 generalize hH8:H7++[Ob.fresh (Ke (dig 4294967296 8 (num 256 c)))]=H8 at h4 h5 h6 h7
 generalize hH10:H8++[⟨Ke (dig 4294967296 17 (num 256 a*num 256 b+num 256 c)),true,true,true,1⟩,⟨[.int .u32 0],true,true,true,1⟩]=H10 at h5 h6 h7
 generalize hH11:H10++l=H11 at h6 h7
 generalize hG:H11++l2=G at h7
 obtain ⟨t,hGt⟩:∃ t,G=⟨u8s a,true,true,true,1⟩::⟨u8s b,true,true,true,1⟩::⟨u8s c,true,true,true,1⟩::⟨u8s (dig 256 32 0),true,true,true,1⟩::t:=by
  rw [←hG,←hH11,←hH10,←hH8,←hH7,←hH6,←hH5,hH]; exact ⟨_,rfl⟩
 have hst:storeAt G ⟨3,0,none⟩ (u8s R)=some (⟨u8s a,true,true,true,1⟩::⟨u8s b,true,true,true,1⟩::⟨u8s c,true,true,true,1⟩::⟨u8s R,true,true,true,1⟩::t):=by
  rw [hGt]
  have h8:=Hj (H:=[⟨u8s a,true,true,true,1⟩,⟨u8s b,true,true,true,1⟩,⟨u8s c,true,true,true,1⟩]) (r:=t) (cs:=u8s (dig 256 32 0)) (e:=true) (s:=1) (off:=0) (v:=u8s R) (by rw [lR,Zv,Km]; omega)
  rw [Qca (by rw [lR,Zv,Km])] at h8
  exact h8
 have hlv:liveAt (⟨u8s a,true,true,true,1⟩::⟨u8s b,true,true,true,1⟩::⟨u8s c,true,true,true,1⟩::⟨u8s R,true,true,true,1⟩::t) 3=some ⟨u8s R,true,true,true,1⟩:=rfl
 have h9:((u8s R).drop 0).take 32=u8s R:=by rw [Qz,Zk (by omega)]
 refine ⟨⟨u8s a,true,true,true,1⟩::⟨u8s b,true,true,true,1⟩::⟨u8s c,true,true,true,1⟩::⟨u8s R,true,true,true,1⟩::t,?_⟩
 rw [Zz (fn:=a19) rfl]
 simp only [Q0q] at h7 ⊢
 simp only [a19,Zw,Kt,Vc,Vp,Xj,Vd,J1,Vq,Kx,Vs,guardOf,Z6,opd,Uo,Yk,Vu,Env.get,Env.put,Y6,Zb,Q9,Ze,Jp,Yl,Kq,Xi,St.after,Env.keep,if_true,if_false,ite_true,ite_false,Wu,Y0,unV,Yt,Vw,packed,reduceCtorEq,Jm,Jn,Jd,Qg,Qb,Qi,Z3,Jc,Jg,beq_self_eq_true,Ka,Xf,K7,Kz,Kg,Vm,Kp,X9,Vn,Vl,Kj,V7,Va,Xo,Vj,Vo,Kl,Kk,Xc,Kf,Jv,J4,J3,Xm,Xa,Xk,J9,J2,Xn,Xl,Xy,Xb,Ky,X0,K9,Vk,Xz,Vb,Xg,Ob.fresh,Uf,Ut,Uy,Jq,and_self,true_and,and_true,Jr,Kh,Yc,Wd,V8,Xp,Yj,Xq,Xt,false_and,decide_true,decide_false,Jy,Qq,Qo,Qp,Qc,Qn,Qh,Wx,Xx,Y8,Kd,X6,X7,Z1,Z0,Gq,Gp,Gn,Gm,Zn,Kr,J7,Xw,Xv,V6,Xh,hz,←hH,Zce,h1,h2,h3,h4,h5,h6,h7,lR,hst,hlv,h9]
def k1 (n:Nat):List Nat:=n::Qa 31 0
def Hd (a:List Nat) (x y:Nat):List Nat:=(a.set 0 (x&&&248)).set 31 ((y&&&127)|||64)
theorem Zbq {a b:Nat} (h:a<256):a&&&b<256:=Wv Nat.and_le_left h
theorem Qt8 {a:List Nat} {x y:Nat} (la:a.length=32) (hx:a[0]?=some x) (hy:a[31]?=some y) (hx':x<256) (hy':y<256) :
  ∃ l,Yd T 71 [.agg (u8s a).toArray] []=some (.agg (u8s (Hd a x y)).toArray,l,[]):=by
 have hz:Qa 32 (Value.int .u8 0)=u8s (dig 256 32 0):=rfl
 have hxc:=Wy hx
 have hyc:=Wy (l:=a.set 0 (x&&&248)) (i:=31) (x:=y) (by rw [Z4 (by decide)]; exact hy)
 have e1:Vx .and .u8 (x:Int) 248=((x&&&248:Nat):Int):=T8 (k := .u8) (a:=x) (b:=248) rfl hx' (by decide)
 have e2:Vx .and .u8 (y:Int) 127=((y&&&127:Nat):Int):=T8 (k := .u8) (a:=y) (b:=127) rfl hy' (by decide)
 have e3:Vx .or .u8 ((y&&&127:Nat):Int) 64=(((y&&&127)|||64:Nat):Int):=Hg (k := .u8) (a:=y&&&127) (b:=64) rfl (Zbq hy') (by decide)
 have l1:(u8s a).length=32:=by rw [Zv,la]
 have l2:(u8s (a.set 0 (x&&&248))).length=32:=by rw [Zv,Jk,la]
 have l3:(u8s (Hd a x y)).length=32:=by rw [Zv,Hd,Jk,Jk,la]
 have s1:=Hj (H:=[]) (r:=[⟨u8s (dig 256 32 0),true,true,true,1⟩]) (cs:=u8s a) (e:=true) (s:=1) (off:=0) (v:=[.int .u8 ((x&&&248:Nat):Int)]) (by rw [l1]; simp)
 rw [Xq,Ba] at s1
 have s2:=Hj (H:=[]) (r:=[⟨u8s (dig 256 32 0),true,true,true,1⟩]) (cs:=u8s (a.set 0 (x&&&248))) (e:=true) (s:=1) (off:=31) (v:=[.int .u8 (((y&&&127)|||64:Nat):Int)]) (by rw [l2]; simp)
 rw [Xq,Ba] at s2
 have s3:=Qr5 (H:=[]) (a:=⟨u8s (Hd a x y),true,true,true,1⟩) (r:=[]) (cs:=u8s (dig 256 32 0)) (e:=true) (s:=1) (off:=0) (v:=u8s (Hd a x y)) (by rw [l3,Zv,Km]; decide)
 rw [Qca (by rw [l3,Zv,Km])] at s3
 have t3:((u8s (Hd a x y)).drop 0).take 32=u8s (Hd a x y):=by rw [Qz,Zk (by omega)]
 have v0:∀ (p q:List Value),liveAt [⟨p,true,true,true,1⟩,⟨q,true,true,true,1⟩] 0=some ⟨p,true,true,true,1⟩:=fun _ _=>rfl
 have v1:∀ (p q:List Value),liveAt [⟨p,true,true,true,1⟩,⟨q,true,true,true,1⟩] 1=some ⟨q,true,true,true,1⟩:=fun _ _=>rfl
 have i0:((0:Int)<((32:Nat):Int)):=by decide
 have i31:((31:Int)<((32:Nat):Int)):=by decide
 simp only [Q9,Jg] at s1 s2 s3
 rw [show (a.set 0 (x&&&248)).set 31 ((y&&&127)|||64)=Hd a x y from rfl] at s2
 simp only [Z3] at s3
 refine ⟨[⟨u8s (Hd a x y),true,true,true,1⟩,⟨u8s (Hd a x y),true,true,true,1⟩],?_⟩
 rw [Zz (fn:=a16) rfl]
 simp only [a16,Zw,Kt,Vc,Vp,Xj,Vd,J1,Vq,Kx,Vs,guardOf,Z6,opd,Uo,Yk,Vu,Env.get,Env.put,Y6,Zb,Q9,Ze,Jp,Yl,Kq,Xi,St.after,Env.keep,if_true,if_false,ite_true,ite_false,Wu,Y0,unV,Yt,Vw,packed,reduceCtorEq,Jm,Jn,Jd,Qg,Qb,Qi,Z3,Jc,Jg,beq_self_eq_true,Ka,Xf,K7,Kz,Kg,Vm,Kp,X9,Vn,Vl,Kj,V7,Va,Xo,Vj,Vo,Kl,Kk,Xc,Kf,Jv,J4,J3,Xm,Xa,Xk,J9,J2,Xn,Xl,Xy,Xb,Ky,X0,K9,Vk,Xz,Vb,Xg,Ob.fresh,Uf,Ut,Uy,Jq,and_self,true_and,and_true,Jr,Kh,Yc,Wd,V8,Xp,Yj,Xq,Xt,false_and,decide_true,decide_false,Jy,Qq,Qo,Qp,Qc,Qn,Qh,Wx,Xx,Y8,Kd,X6,X7,Z1,Z0,Gq,Gp,Gn,Gm,Zn,Kr,J7,Xw,Xv,V6,Xh,hz,hxc,hyc,e1,e2,e3,i0,i31,v0,v1,s1,s2,l3,t3,s3]
theorem Qxy (b:Bool):rf (.bool b)=true:=rfl
theorem v0 (p q:List Value):liveAt [⟨p,true,true,true,1⟩,⟨q,true,true,true,1⟩] 0=some ⟨p,true,true,true,1⟩:=rfl
theorem v1 (p q:List Value):liveAt [⟨p,true,true,true,1⟩,⟨q,true,true,true,1⟩] 1=some ⟨q,true,true,true,1⟩:=rfl
structure LessInv (k:Nat) (ws os:List Nat) (b:Nat):Prop where
 ble:b≤1
 eq:∃ z,z<4294967296^k∧num 4294967296 (ws.take k)+b*4294967296^k=num 4294967296 (os.take k)+z
theorem LessInv.step {k b x y:Nat} {ws os:List Nat} (h:LessInv k ws os b) (hx:ws[k]?=some x) (hy:os[k]?=some y) (hx':x<4294967296) (hy':y<4294967296):LessInv (k+1) ws os (Qfa x y b):=by
 have hb:=h.ble
 have hd:Qe9 x y b<4294967296∧x+4294967296*Qfa x y b=y+b+Qe9 x y b∧Qfa x y b≤1:=by
  unfold Qe9 Qfa; split<;>omega
 refine ⟨hd.2.2,?_⟩
 obtain ⟨z,hz,h2⟩:=h.eq
 rw [Uh hx,Uh hy]
 have h3:=hd.2.1
 have h4:=hd.1
 generalize Qe9 x y b=d,Qfa x y b=q at *
 refine ⟨z+d*4294967296^k,?_,?_⟩
 ·have:(d+1)*4294967296^k≤4294967296*4294967296^k:=Yh _ h4
  rw [Kw,Ul] at this
  rw [Kv,Ve (4294967296^k)]
  omega
 ·have e2:q*4294967296^(k+1)=4294967296*q*4294967296^k:=by
   rw [Kv]; simp only [Ye,W9,Ve]
  have e3:(x+4294967296*q)*4294967296^k=(y+b+d)*4294967296^k:=by rw [h3]
  rw [Kw,Kw,Kw] at e3
  rw [e2]
  omega
def Qgx (H:List Ob) (s1 s2:Value) (n b k:Nat) (ex:Env):St:=⟨[(0,s1),(1,s2),(5,.int .u32 b),(8,.int .i64 n),(9,.int .i64 k)]++ex,H,[]⟩
theorem Q0o {H:List Ob} {id1 off1 c1 id2 off2 c2 n b k x y:Nat} {ws os:List Nat} (hr1:Row .u32 H id1 off1 ws) (hr2:Row .u32 H id2 off2 os) (hN:n<2^40) (hk:k<n) (hx:ws[k]?=some x) (hy:os[k]?=some y) (hx':x<4294967296) (hy':y<4294967296) (hb:b≤1) :
  Jl T H.length Qne (Qgx H (.slice (some ⟨id1,off1,none⟩) n c1) (.slice (some ⟨id2,off2,none⟩) n c2) n b k [])=some (.normal,Qgx H (.slice (some ⟨id1,off1,none⟩) n c1) (.slice (some ⟨id2,off2,none⟩) n c2) n (Qfa x y b) (k+1) []):=by
 obtain ⟨o1,ho1,hc1⟩:=hr1
 obtain ⟨o2,ho2,hc2⟩:=hr2
 have hxc:=hc1 k x hx
 have hyc:=hc2 k y hy
 have h1:((k:Int)<(n:Int)):=by omega
 have hsub:=Qkz hx' hy' hb
 have e10:IntKind.i64.wrap ((k:Int)+1)=((k+1:Nat):Int):=Yi (n:=k+1) (by omega)
 simp only [Qgx,Qne,Zw,Kt,Vc,Vp,Xj,Vd,J1,Vq,Kx,Vs,guardOf,Z6,opd,Uo,Yk,Vu,Env.get,Env.put,Y6,Zb,Q9,Ze,Jp,Yl,Kq,Xi,St.after,Env.keep,if_true,if_false,ite_true,ite_false,Wu,Y0,unV,Yt,Vw,packed,reduceCtorEq,Jm,Jn,Jd,Qg,Qb,Qi,Z3,Jc,Jg,beq_self_eq_true,Ka,Xf,K7,Kz,Kg,Vm,Kp,X9,Vn,Vl,Kj,V7,Va,Xo,Vj,Vo,Kl,Kk,Xc,Kf,Jv,J4,J3,Xm,Xa,Xk,J9,J2,Xn,Xl,Xy,Xb,Ky,X0,K9,Vk,Xz,Vb,Xg,Ob.fresh,Uf,Ut,Uy,Jq,and_self,true_and,and_true,Jr,Kh,Yc,Wd,V8,Xp,Yj,Xq,Xt,false_and,decide_true,decide_false,Jy,Qq,Qo,Qp,Qc,Qn,Qh,Wx,Xx,Y8,Kd,X6,X7,Z1,Z0,Gq,Gp,Gn,Gm,Zn,Kr,J7,Xw,Xv,V6,Xh,h1,ho1,ho2,hxc,hyc,hsub,e10]
theorem Q92 {H:List Ob} {id1 off1 c1 id2 off2 c2 n:Nat} {ws os:List Nat} (hr1:Row .u32 H id1 off1 ws) (hr2:Row .u32 H id2 off2 os) (hn:ws.length=n) (hm:os.length=n) (hN:n<2^40) (hws:∀ x∈ws,x<4294967296) (hos:∀ x∈os,x<4294967296) :
  Yd T 98 [.slice (some ⟨id1,off1,none⟩) n c1,.slice (some ⟨id2,off2,none⟩) n c2] H=some (.bool (decide (num 4294967296 ws<num 4294967296 os)),H,[]):=by
 obtain ⟨s',hb,b,rfl,hinv⟩:=Vi (T:=T) (base:=H.length) (id:=0) (body:=Qne)
  (fun k s=>∃ b,s=Qgx H (.slice (some ⟨id1,off1,none⟩) n c1) (.slice (some ⟨id2,off2,none⟩) n c2) n b k []∧LessInv k ws os b)
  (Q:=fun s=>∃ b,s=Qgx H (.slice (some ⟨id1,off1,none⟩) n c1) (.slice (some ⟨id2,off2,none⟩) n c2) n b n [(10,.bool false)]∧LessInv n ws os b)
  n (s:=Qgx H (.slice (some ⟨id1,off1,none⟩) n c1) (.slice (some ⟨id2,off2,none⟩) n c2) n 0 0 []) ⟨_,rfl,⟨by decide,0,by decide,by simp [num]⟩⟩
  (fun k s hk hs=>by
   obtain ⟨b,rfl,hI⟩:=hs
   obtain ⟨x,hx⟩:∃ x,ws[k]?=some x:=⟨_,Q3 (by omega)⟩
   obtain ⟨y,hy⟩:∃ y,os[k]?=some y:=⟨_,Q3 (by omega)⟩
   have hx':=hws x (Zp hx)
   have hy':=hos y (Zp hy)
   exact ⟨_,Q0o hr1 hr2 hN hk hx hy hx' hy' hI.ble,_,rfl,hI.step hx hy hx' hy'⟩)
  (fun s hs=>by
   obtain ⟨b,rfl,hI⟩:=hs
   have h1:¬ ((n:Int)<(n:Int)):=by omega
   refine ⟨_,?_,b,rfl,hI⟩
   simp only [Qgx,Qne,Zw,Kt,Vc,Vp,Xj,Vd,J1,Vq,Kx,Vs,guardOf,Z6,opd,Uo,Yk,Vu,Env.get,Env.put,Y6,Zb,Q9,Ze,Jp,Yl,Kq,Xi,St.after,Env.keep,if_true,if_false,ite_true,ite_false,Wu,Y0,unV,Yt,Vw,packed,reduceCtorEq,Jm,Jn,Jd,Qg,Qb,Qi,Z3,Jc,Jg,beq_self_eq_true,Ka,Xf,K7,Kz,Kg,Vm,Kp,X9,Vn,Vl,Kj,V7,Va,Xo,Vj,Vo,Kl,Kk,Xc,Kf,Jv,J4,J3,Xm,Xa,Xk,J9,J2,Xn,Xl,Xy,Xb,Ky,X0,K9,Vk,Xz,Vb,Xg,Ob.fresh,Uf,Ut,Uy,Jq,and_self,true_and,and_true,Jr,Kh,Yc,Wd,V8,Xp,Yj,Xq,Xt,false_and,decide_true,decide_false,Jy,Qq,Qo,Qp,Qc,Qn,Qh,Wx,Xx,Y8,Kd,X6,X7,Z1,Z0,Gq,Gp,Gn,Gm,Zn,Kr,J7,Xw,Xv,V6,Xh,h1])
 rw [show Qgx H (.slice (some ⟨id1,off1,none⟩) n c1) (.slice (some ⟨id2,off2,none⟩) n c2) n 0 0 []=⟨[(0,.slice (some ⟨id1,off1,none⟩) n c1),(1,.slice (some ⟨id2,off2,none⟩) n c2),(5,.int .u32 0),(8,.int .i64 n),(9,.int .i64 0)],H,[]⟩ from rfl] at hb
 obtain ⟨z,hz,h2⟩:=hinv.eq
 rw [Zk (by omega),Zk (by omega)] at h2
 have h3:=num_lt hws
 rw [hn] at h3
 have hble:=hinv.ble
 have hres:(((b:Nat):Int)==1)=decide (num 4294967296 ws<num 4294967296 os):=by
  rcases Yp 0 b with h | h
  ·have hb1:b=1:=by omega
   subst hb1
   have:num 4294967296 ws<num 4294967296 os:=by omega
   simp [this]
  ·have hb0:b=0:=by omega
   subst hb0
   have:¬ num 4294967296 ws<num 4294967296 os:=by omega
   simp [this]
 rw [Zz (fn:=a46) rfl]
 simp only [a46,Zw,Kt,Vc,Vp,Xj,Vd,J1,Vq,Kx,Vs,guardOf,Z6,opd,Uo,Yk,Vu,Env.get,Env.put,Y6,Zb,Q9,Ze,Jp,Yl,Kq,Xi,St.after,Env.keep,if_true,if_false,ite_true,ite_false,Wu,Y0,unV,Yt,Vw,packed,reduceCtorEq,Jm,Jn,Jd,Qg,Qb,Qi,Z3,Jc,Jg,beq_self_eq_true,Ka,Xf,K7,Kz,Kg,Vm,Kp,X9,Vn,Vl,Kj,V7,Va,Xo,Vj,Vo,Kl,Kk,Xc,Kf,Jv,J4,J3,Xm,Xa,Xk,J9,J2,Xn,Xl,Xy,Xb,Ky,X0,K9,Vk,Xz,Vb,Xg,Ob.fresh,Uf,Ut,Uy,Jq,and_self,true_and,and_true,Jr,Kh,Yc,Wd,V8,Xp,Yj,Xq,Xt,false_and,decide_true,decide_false,Jy,Qq,Qo,Qp,Qc,Qn,Qh,Wx,Xx,Y8,Kd,X6,X7,Z1,Z0,Gq,Gp,Gn,Gm,Zn,Kr,J7,Xw,Xv,V6,Xh,hb,Qgx,hres]
end Go.Ev.YtpgphpkjlpkcbaaGreat
namespace Go.Ev.YtpgphpkjlpkcbaaGreat
open Go Go.Ev
attribute [local congr] Qau
set_option maxRecDepth 100000
theorem Qra {a:List Nat} (la:a.length=32) (xa:∀ x∈a,x<256):∃ l,Yd T 47 [.agg (u8s a).toArray] []=some (.bool (decide (num 256 a<ell)),l,[]):=by
 obtain ⟨H,hH⟩:∃ H:List Ob,H=[⟨u8s a,true,true,true,1⟩]:=⟨_,rfl⟩
 have ra:Row .u8 H 0 0 a:=by subst hH; exact ⟨_,rfl,fun i x hx=>by rw [Z3]; exact Wy hx⟩
 have h1:=Qo4 (c:=32) ra la (by decide) xa
 have r1:=(Qak (H:=H) (ws:=dig 4294967296 8 (num 256 a))).app (l:=[Ob.fresh (Ke orderW)])
 have h2:=Qlr (H++[Ob.fresh (Ke (dig 4294967296 8 (num 256 a)))])
 have r2:=Qak (H:=H++[Ob.fresh (Ke (dig 4294967296 8 (num 256 a)))]) (ws:=orderW)
 have h3:=Q92 (c1:=8) (c2:=8) r1 r2 (Km _ _ _) rfl (by decide) Qar Qgr
 rw [Bq (by decide),Z5 (Qkd la xa),Qyt] at h3
 change Yd T 97 _ H=some (.slice (some ⟨H.length,0,none⟩) 8 8,H++[Ob.fresh (Ke (dig 4294967296 8 (num 256 a)))],[]) at h1
 generalize hH5:H++[Ob.fresh (Ke (dig 4294967296 8 (num 256 a)))]=H5 at h1 h2 h3
 generalize hH6:H5++[Ob.fresh (Ke orderW)]=H6 at h2 h3
 refine ⟨H6,?_⟩
 rw [Zz (fn:=a21) rfl]
 simp only [a21,Zw,Kt,Vc,Vp,Xj,Vd,J1,Vq,Kx,Vs,guardOf,Z6,opd,Uo,Yk,Vu,Env.get,Env.put,Y6,Zb,Q9,Ze,Jp,Yl,Kq,Xi,St.after,Env.keep,if_true,if_false,ite_true,ite_false,Wu,Y0,unV,Yt,Vw,packed,reduceCtorEq,Jm,Jn,Jd,Qg,Qb,Qi,Z3,Jc,Jg,beq_self_eq_true,Ka,Xf,K7,Kz,Kg,Vm,Kp,X9,Vn,Vl,Kj,V7,Va,Xo,Vj,Vo,Kl,Kk,Xc,Kf,Jv,J4,J3,Xm,Xa,Xk,J9,J2,Xn,Xl,Xy,Xb,Ky,X0,K9,Vk,Xz,Vb,Xg,Ob.fresh,Uf,Ut,Uy,Jq,and_self,true_and,and_true,Jr,Kh,Yc,Wd,V8,Xp,Yj,Xq,Xt,false_and,decide_true,decide_false,Jy,Qq,Qo,Qp,Qc,Qn,Qh,Wx,Xx,Y8,Kd,X6,X7,Z1,Z0,Gq,Gp,Gn,Gm,Zn,Kr,J7,Xw,Xv,V6,Xh,←hH,Zce,h1,h2,h3]
def Q7i (k:IntKind) (H:List Ob) (id off:Nat) (ps:List (List Nat)):Prop :=
 ∃ o,liveAt H id=some o∧∀ (i:Nat) (p:List Nat),ps[i]?=some p→∃ v,o.cells[off+i]?=some v∧Sl k H v p
def Qqi (R s pv:Value) (n i:Nat) (H:List Ob) (ex:Env):St:=⟨[(2,R),(3,s),(6,pv),(7,.int .i64 n),(8,.int .i64 i)]++ex,H,[]⟩
theorem Qpj {ps:List (List Nat)} {i:Nat} {p:List Nat} (h:ps[i]?=some p):(ps.take (i+1)).flatten=(ps.take i).flatten++p:=by
 rw [Ym,h]; simp
theorem Q6b {ps:List (List Nat)} {i:Nat} {p:List Nat} (h:ps[i]?=some p):(ps.take i).flatten.length+p.length≤ps.flatten.length:=by
 have h1:=congrArg List.length (Qpj h)
 rw [Zh] at h1
 rw [←h1]
 conv=>rhs; rw [←Yn (i+1) ps,Y9,Zh]
 omega
theorem Q3q {H Hc:List Ob} {R s:Value} {id off c n i:Nat} {ps:List (List Nat)} {p:List Nat} (hp:Q7i .u8 H id off ps) (hi:i<n) (hN:n<2^40) (hpi:ps[i]?=some p) (hS:ps.flatten.length≤2^40)
  (hB:H.length+1≤Hc.length) (hc:∀ j,j<H.length→Hc[j]?=H[j]?) (hg:Grown .u8 (H.length+1) Hc s ((ps.take i).flatten)) :
  ∃ s' H',Jl T H.length Qnr (Qqi R s (.slice (some ⟨id,off,none⟩) n c) n i Hc [])=some (.normal,Qqi R s' (.slice (some ⟨id,off,none⟩) n c) n (i+1) H' []) ∧
   H.length+1≤H'.length∧(∀ j,j<H.length+1→H'[j]?=Hc[j]?)∧Grown .u8 (H.length+1) H' s' ((ps.take (i+1)).flatten):=by
 obtain ⟨o,ho,hps⟩:=hp
 obtain ⟨v,hv,hsl⟩:=hps i p hpi
 have ho':liveAt Hc id=some o:=by rw [Qch (hc _ (Qo9 ho))]; exact ho
 have hsl':=hsl.congr hc
 have hlen:=Q6b hpi
 obtain ⟨s',H',M,ha,hg',hM,hL,hK⟩:=hg.append (bytes:=1) hB hsl'.lenV hsl'.elems (by omega) (by decide)
 have h1:((i:Int)<(n:Int)):=by omega
 have e10:IntKind.i64.wrap ((i:Int)+1)=((i+1:Nat):Int):=Yi (n:=i+1) (by omega)
 have hm:Jp H.length [] M=[]:=Xu fun j hj=>by have:=hM j hj; omega
 refine ⟨s',H',?_,by omega,hK,by rw [Qpj hpi]; exact hg'⟩
 simp only [Qqi,Qnr,Zw,Kt,Vc,Vp,Xj,Vd,J1,Vq,Kx,Vs,guardOf,Z6,opd,Uo,Yk,Vu,Env.get,Env.put,Y6,Zb,Q9,Ze,Jp,Yl,Kq,Xi,St.after,Env.keep,if_true,if_false,ite_true,ite_false,Wu,Y0,unV,Yt,Vw,packed,reduceCtorEq,Jm,Jn,Jd,Qg,Qb,Qi,Z3,Jc,Jg,beq_self_eq_true,Ka,Xf,K7,Kz,Kg,Vm,Kp,X9,Vn,Vl,Kj,V7,Va,Xo,Vj,Vo,Kl,Kk,Xc,Kf,Jv,J4,J3,Xm,Xa,Xk,J9,J2,Xn,Xl,Xy,Xb,Ky,X0,K9,Vk,Xz,Vb,Xg,Ob.fresh,Uf,Ut,Uy,Jq,and_self,true_and,and_true,Jr,Kh,Yc,Wd,V8,Xp,Yj,Xq,Xt,false_and,decide_true,decide_false,Jy,Qq,Qo,Qp,Qc,Qn,Qh,Wx,Xx,Y8,Kd,X6,X7,Z1,Z0,Gq,Gp,Gn,Gm,Zn,Kr,J7,Xw,Xv,V6,Xh,h1,ho',hv,e10,ha,hm]
theorem of_nil (H:List Ob):Yd T 97 [.slice none 0 0] H=some (.slice (some ⟨H.length,0,none⟩) 0 0,H++[Ob.fresh []],[]):=by
 have hl:Jl T H.length (.loop Qf5) ⟨[(3,.slice (some ⟨H.length,0,none⟩) 0 0),(11,.slice none 0 0),(12,.int .i64 0),(13,.int .i64 0)],H++[⟨[],true,true,true,1⟩],[]⟩=some (.exit 0,⟨[(3,.slice (some ⟨H.length,0,none⟩) 0 0),(11,.slice none 0 0),(12,.int .i64 0),(13,.int .i64 0),(14,.bool false)],H++[⟨[],true,true,true,1⟩],[]⟩):=by
  rw [Wr]
  simp only [Qf5,Zw,Kt,Vc,Vp,Xj,Vd,J1,Vq,Kx,Vs,guardOf,Z6,opd,Uo,Yk,Vu,Env.get,Env.put,Y6,Zb,Q9,Ze,Jp,Yl,Kq,Xi,St.after,Env.keep,if_true,if_false,ite_true,ite_false,Wu,Y0,unV,Yt,Vw,packed,reduceCtorEq,Jm,Jn,Jd,Qg,Qb,Qi,Z3,Jc,Jg,beq_self_eq_true,Ka,Xf,K7,Kz,Kg,Vm,Kp,X9,Vn,Vl,Kj,V7,Va,Xo,Vj,Vo,Kl,Kk,Xc,Kf,Jv,J4,J3,Xm,Xa,Xk,J9,J2,Xn,Xl,Xy,Xb,Ky,X0,K9,Vk,Xz,Vb,Xg,Ob.fresh,Uf,Ut,Uy,Jq,and_self,true_and,and_true,Jr,Kh,Yc,Wd,V8,Xp,Yj,Xq,Xt,false_and,decide_true,decide_false,Jy,Qq,Qo,Qp,Qc,Qn,Qh,Wx,Xx,Y8,Kd,X6,X7,Z1,Z0,Gq,Gp,Gn,Gm,Zn,Kr,J7,Xw,Xv,V6,Xh,cL,Qp,Qo,Qy,Qx,Qv,Ql,Qk,Qw,Qc,Q1,Q2,Qr,Qg,Qi,Qh,Qu,Qt,Qs,Qn,Qd]
 rw [Zz (fn:=a40) rfl]
 simp only [a40,Zw,Kt,Vc,Vp,Xj,Vd,J1,Vq,Kx,Vs,guardOf,Z6,opd,Uo,Yk,Vu,Env.get,Env.put,Y6,Zb,Q9,Ze,Jp,Yl,Kq,Xi,St.after,Env.keep,if_true,if_false,ite_true,ite_false,Wu,Y0,unV,Yt,Vw,packed,reduceCtorEq,Jm,Jn,Jd,Qg,Qb,Qi,Z3,Jc,Jg,beq_self_eq_true,Ka,Xf,K7,Kz,Kg,Vm,Kp,X9,Vn,Vl,Kj,V7,Va,Xo,Vj,Vo,Kl,Kk,Xc,Kf,Jv,J4,J3,Xm,Xa,Xk,J9,J2,Xn,Xl,Xy,Xb,Ky,X0,K9,Vk,Xz,Vb,Xg,Ob.fresh,Uf,Ut,Uy,Jq,and_self,true_and,and_true,Jr,Kh,Yc,Wd,V8,Xp,Yj,Xq,Xt,false_and,decide_true,decide_false,Jy,Qq,Qo,Qp,Qc,Qn,Qh,Wx,Xx,Y8,Kd,X6,X7,Z1,Z0,Gq,Gp,Gn,Gm,Zn,Kr,J7,Xw,Xv,V6,Xh,cL,Qp,Qo,Qy,Qx,Qv,Ql,Qk,Qw,Qc,Q1,Q2,Qr,Qg,Qi,Qh,Qu,Qt,Qs,Qn,Qd,List.replicate_zero,Y4,hl]
theorem Q9v (H:List Ob) (id:Nat):Yd T 120 [.slice (some ⟨id,0,none⟩) 0 0] H=some (.slice (some ⟨H.length,0,none⟩) 8 8,H++[⟨Ke (dig 4294967296 8 0),true,true,true,1⟩,⟨Ke orderW,true,true,true,1⟩,⟨Ke (dig 4294967296 8 0),true,true,true,1⟩],[]):=by
 have hz:(Qa 8 [Value.int .u32 0]).flatten=Ke (dig 4294967296 8 0):=rfl
 have ho:=Qlr (H++[⟨Ke (dig 4294967296 8 0),true,true,true,1⟩])
 have hl:Jl T H.length (.loop Mm) ⟨[(0,.slice (some ⟨id,0,none⟩) 0 0),(3,.slice (some ⟨H.length,0,none⟩) 8 8),(4,.slice (some ⟨H.length+1,0,none⟩) 8 8),(5,.slice (some ⟨H.length+2,0,none⟩) 8 8),(6,.int .i64 (-1))],H++[⟨Ke (dig 4294967296 8 0),true,true,true,1⟩,⟨Ke orderW,true,true,true,1⟩,⟨Ke (dig 4294967296 8 0),true,true,true,1⟩],[]⟩=some (.exit 0,⟨[(0,.slice (some ⟨id,0,none⟩) 0 0),(3,.slice (some ⟨H.length,0,none⟩) 8 8),(4,.slice (some ⟨H.length+1,0,none⟩) 8 8),(5,.slice (some ⟨H.length+2,0,none⟩) 8 8),(6,.int .i64 (-1)),(19,.bool false)],H++[⟨Ke (dig 4294967296 8 0),true,true,true,1⟩,⟨Ke orderW,true,true,true,1⟩,⟨Ke (dig 4294967296 8 0),true,true,true,1⟩],[]⟩):=by
  rw [Wr]
  have e:((0:Int) ≤ -1)=False:=by decide
  simp only [Mm,Zw,Kt,Vc,Vp,Xj,Vd,J1,Vq,Kx,Vs,guardOf,Z6,opd,Uo,Yk,Vu,Env.get,Env.put,Y6,Zb,Q9,Ze,Jp,Yl,Kq,Xi,St.after,Env.keep,if_true,if_false,ite_true,ite_false,Wu,Y0,unV,Yt,Vw,packed,reduceCtorEq,Jm,Jn,Jd,Qg,Qb,Qi,Z3,Jc,Jg,beq_self_eq_true,Ka,Xf,K7,Kz,Kg,Vm,Kp,X9,Vn,Vl,Kj,V7,Va,Xo,Vj,Vo,Kl,Kk,Xc,Kf,Jv,J4,J3,Xm,Xa,Xk,J9,J2,Xn,Xl,Xy,Xb,Ky,X0,K9,Vk,Xz,Vb,Xg,Ob.fresh,Uf,Ut,Uy,Jq,and_self,true_and,and_true,Jr,Kh,Yc,Wd,V8,Xp,Yj,Xq,Xt,false_and,decide_true,decide_false,Jy,Qq,Qo,Qp,Qc,Qn,Qh,Wx,Xx,Y8,Kd,X6,X7,Z1,Z0,Gq,Gp,Gn,Gm,Zn,Kr,J7,Xw,Xv,V6,Xh,cL,Qp,Qo,Qy,Qx,Qv,Ql,Qk,Qw,Qc,Q1,Q2,Qr,Qg,Qi,Qh,Qu,Qt,Qs,Qn,Qd,e]
 rw [Zz (fn:=a41) rfl]
 simp only [a41,Zw,Kt,Vc,Vp,Xj,Vd,J1,Vq,Kx,Vs,guardOf,Z6,opd,Uo,Yk,Vu,Env.get,Env.put,Y6,Zb,Q9,Ze,Jp,Yl,Kq,Xi,St.after,Env.keep,if_true,if_false,ite_true,ite_false,Wu,Y0,unV,Yt,Vw,packed,reduceCtorEq,Jm,Jn,Jd,Qg,Qb,Qi,Z3,Jc,Jg,beq_self_eq_true,Ka,Xf,K7,Kz,Kg,Vm,Kp,X9,Vn,Vl,Kj,V7,Va,Xo,Vj,Vo,Kl,Kk,Xc,Kf,Jv,J4,J3,Xm,Xa,Xk,J9,J2,Xn,Xl,Xy,Xb,Ky,X0,K9,Vk,Xz,Vb,Xg,Ob.fresh,Uf,Ut,Uy,Jq,and_self,true_and,and_true,Jr,Kh,Yc,Wd,V8,Xp,Yj,Xq,Xt,false_and,decide_true,decide_false,Jy,Qq,Qo,Qp,Qc,Qn,Qh,Wx,Xx,Y8,Kd,X6,X7,Z1,Z0,Gq,Gp,Gn,Gm,Zn,Kr,J7,Xw,Xv,V6,Xh,cL,Qp,Qo,Qy,Qx,Qv,Ql,Qk,Qw,Qc,Q1,Q2,Qr,Qg,Qi,Qh,Qu,Qt,Qs,Qn,Qd,hz,ho,hl,Zh,Je,Kc,Ob.fresh]
theorem Qzo {H:List Ob} {id:Nat} {bs:List Nat} (h:H[id]?=some (Ob.fresh (ns .u8 bs))):Row .u8 H id 0 bs :=
 ⟨_,V9 h rfl,fun i x hx=>by rw [Z3]; exact Yy hx⟩
theorem Qzn {H:List Ob} {id:Nat} {bs:List Nat} (h:H[id]?=some (Ob.grown 1 (ns .u8 bs))):Row .u8 H id 0 bs :=
 ⟨_,V9 h rfl,fun i x hx=>by rw [Z3]; exact Yy hx⟩
theorem Q3p {B:Nat} {H:List Ob} {s:Value} {bs:List Nat} (hg:Grown .u8 B H s bs) (hb:∀ x∈bs,x<256) (hN:bs.length<2^40) :
  ∃ v1 v2 l1 l2 l3,Yd T 97 [s] H=some (v1,H++l1,[])∧Yd T 120 [v1] (H++l1)=some (v2,H++l1++l2,[])∧Yd T 121 [v2] (H++l1++l2)=some (.agg (u8s (dig 256 32 (num 256 bs%ell))).toArray,H++l1++l2++l3,[]):=by
 cases hg with
 | nil =>
  have h1:=of_nil H
  have h2:=Q9v (H++[Ob.fresh []]) H.length
  have r:Row .u32 (H++[Ob.fresh []]++[⟨Ke (dig 4294967296 8 0),true,true,true,1⟩,⟨Ke orderW,true,true,true,1⟩,⟨Ke (dig 4294967296 8 0),true,true,true,1⟩]) (H++[Ob.fresh []]).length 0 (dig 4294967296 8 0) :=
   ⟨_,Uf,fun i x hx=>by rw [Z3]; exact Gl hx⟩
  obtain ⟨l3,h3⟩:=Qg8 (cap:=8) r
  exact ⟨_,_,_,_,l3,h1,h2,h3⟩
 | @own id _ g1 g2 g3 =>
  have h1:=Qo4 (c:=bs.length) (Qzn g3) rfl hN hb
  have hlt:num 256 bs<4294967296^((bs.length+3)/4):=by
   refine Xr (num_lt hb) ?_
   rw [show (4294967296:Nat)=256^4 from by decide,←Y5]
   exact Vr (by decide) (by omega)
  obtain ⟨k,l2,h2,r2⟩:=Qwe (cap:=(bs.length+3)/4) (Qak (H:=H) (ws:=dig 4294967296 ((bs.length+3)/4) (num 256 bs))) (Km _ _ _) (by omega) (by omega) Qar
  rw [Bq (by decide),Z5 hlt] at r2
  obtain ⟨l3,h3⟩:=Qg8 (cap:=8) r2
  exact ⟨_,_,_,l2,l3,h1,h2,h3⟩
 | @new id _ g1 g2 g3 =>
  have h1:=Qo4 (c:=bs.length) (Qzo g3) rfl hN hb
  have hlt:num 256 bs<4294967296^((bs.length+3)/4):=by
   refine Xr (num_lt hb) ?_
   rw [show (4294967296:Nat)=256^4 from by decide,←Y5]
   exact Vr (by decide) (by omega)
  obtain ⟨k,l2,h2,r2⟩:=Qwe (cap:=(bs.length+3)/4) (Qak (H:=H) (ws:=dig 4294967296 ((bs.length+3)/4) (num 256 bs))) (Km _ _ _) (by omega) (by omega) Qar
  rw [Bq (by decide),Z5 hlt] at r2
  obtain ⟨l3,h3⟩:=Qg8 (cap:=8) r2
  exact ⟨_,_,_,l2,l3,h1,h2,h3⟩
theorem Qzt {H:List Ob} {id off c n:Nat} {ps:List (List Nat)} (hp:Q7i .u8 H id off ps) (hn:ps.length=n) (hN:n<2^40) (hS:ps.flatten.length<2^40) (hb:∀ x∈ps.flatten,x<256) :
  ∃ l,Yd T 101 [.slice (some ⟨id,off,none⟩) n c] H=some (.agg (u8s (dig 256 32 (num 256 ps.flatten%ell))).toArray,H++l,[]):=by
 have hz:Qa 32 (Value.int .u8 0)=u8s (dig 256 32 0):=rfl
 obtain ⟨s',hb1,s,Hc,rfl,hL,hK,hg⟩:=Vi (T:=T) (base:=H.length) (id:=0) (body:=Qnr)
  (fun i st=>∃ s Hc,st=Qqi (.pointer (some ⟨H.length,0,none⟩)) s (.slice (some ⟨id,off,none⟩) n c) n i Hc []∧H.length+1≤Hc.length∧(∀ j,j<H.length+1→Hc[j]?=(H++[⟨u8s (dig 256 32 0),true,true,true,1⟩])[j]?)∧Grown .u8 (H.length+1) Hc s ((ps.take i).flatten))
  (Q:=fun st=>∃ s Hc,st=Qqi (.pointer (some ⟨H.length,0,none⟩)) s (.slice (some ⟨id,off,none⟩) n c) n n Hc [(9,.bool false)]∧H.length+1≤Hc.length∧(∀ j,j<H.length+1→Hc[j]?=(H++[⟨u8s (dig 256 32 0),true,true,true,1⟩])[j]?)∧Grown .u8 (H.length+1) Hc s ps.flatten)
  n (s:=Qqi (.pointer (some ⟨H.length,0,none⟩)) (.slice none 0 0) (.slice (some ⟨id,off,none⟩) n c) n 0 (H++[⟨u8s (dig 256 32 0),true,true,true,1⟩]) []) ⟨_,_,rfl,by simp,fun _ _=>rfl,.nil⟩
  (fun i st hi hs=>by
   obtain ⟨s,Hc,rfl,hL,hK,hg⟩:=hs
   obtain ⟨p,hpi⟩:∃ p,ps[i]?=some p:=⟨_,Q3 (by omega)⟩
   obtain ⟨s2,H2,h1,h2,h3,h4⟩:=Q3q (R := .pointer (some ⟨H.length,0,none⟩)) (c:=c) hp hi hN hpi (by omega) hL (fun j hj=>by rw [hK j (by omega),Qm hj]) hg
   exact ⟨_,h1,s2,H2,rfl,h2,fun j hj=>by rw [h3 j hj,hK j hj],h4⟩)
  (fun st hs=>by
   obtain ⟨s,Hc,rfl,hL,hK,hg⟩:=hs
   have h1:¬ ((n:Int)<(n:Int)):=by omega
   rw [Zk (by omega)] at hg
   refine ⟨_,?_,s,Hc,rfl,hL,hK,hg⟩
   simp only [Qqi,Qnr,Zw,Kt,Vc,Vp,Xj,Vd,J1,Vq,Kx,Vs,guardOf,Z6,opd,Uo,Yk,Vu,Env.get,Env.put,Y6,Zb,Q9,Ze,Jp,Yl,Kq,Xi,St.after,Env.keep,if_true,if_false,ite_true,ite_false,Wu,Y0,unV,Yt,Vw,packed,reduceCtorEq,Jm,Jn,Jd,Qg,Qb,Qi,Z3,Jc,Jg,beq_self_eq_true,Ka,Xf,K7,Kz,Kg,Vm,Kp,X9,Vn,Vl,Kj,V7,Va,Xo,Vj,Vo,Kl,Kk,Xc,Kf,Jv,J4,J3,Xm,Xa,Xk,J9,J2,Xn,Xl,Xy,Xb,Ky,X0,K9,Vk,Xz,Vb,Xg,Ob.fresh,Uf,Ut,Uy,Jq,and_self,true_and,and_true,Jr,Kh,Yc,Wd,V8,Xp,Yj,Xq,Xt,false_and,decide_true,decide_false,Jy,Qq,Qo,Qp,Qc,Qn,Qh,Wx,Xx,Y8,Kd,X6,X7,Z1,Z0,Gq,Gp,Gn,Gm,Zn,Kr,J7,Xw,Xv,V6,Xh,h1])
 obtain ⟨l0,hl0⟩:=B5 (H:=H++[⟨u8s (dig 256 32 0),true,true,true,1⟩]) (H':=Hc) (by simpa using hL) (fun i hi=>hK i (by simpa using hi))
 obtain ⟨v1,v2,l1,l2,l3,h1,h2,h3⟩:=Q3p hg hb hS
 generalize hR:dig 256 32 (num 256 ps.flatten%ell)=R at *
 have lR:(u8s R).length=32:=by rw [Zv,←hR,Km]
 have hst:storeAt (Hc++l1++l2++l3) ⟨H.length,0,none⟩ (u8s R)=some (H++⟨u8s R,true,true,true,1⟩::(l0++l1++l2++l3)):=by
  have h8:=Hj (H:=H) (r:=l0++l1++l2++l3) (cs:=u8s (dig 256 32 0)) (e:=true) (s:=1) (off:=0) (v:=u8s R) (by rw [lR,Zv,Km]; omega)
  rw [Qca (by rw [lR,Zv,Km])] at h8
  rw [hl0]
  simpa using h8
 generalize hH1:Hc++l1=H1 at h1 h2 h3 hst
 generalize hH2:H1++l2=H2 at h2 h3 hst
 generalize hH3:H2++l3=H3 at h3 hst
 have h9:((u8s R).drop 0).take 32=u8s R:=by rw [Qz,Zk (by omega)]
 refine ⟨⟨u8s R,true,true,true,1⟩::(l0++l1++l2++l3),?_⟩
 rw [show Qqi (.pointer (some ⟨H.length,0,none⟩)) (.slice none 0 0) (.slice (some ⟨id,off,none⟩) n c) n 0 (H++[⟨u8s (dig 256 32 0),true,true,true,1⟩]) []=⟨[(2,.pointer (some ⟨H.length,0,none⟩)),(3,.slice none 0 0),(6,.slice (some ⟨id,off,none⟩) n c),(7,.int .i64 n),(8,.int .i64 0)],H++[⟨u8s (dig 256 32 0),true,true,true,1⟩],[]⟩ from rfl] at hb1
 rw [Zz (fn:=a17) rfl]
 simp only [a17,Zw,Kt,Vc,Vp,Xj,Vd,J1,Vq,Kx,Vs,guardOf,Z6,opd,Uo,Yk,Vu,Env.get,Env.put,Y6,Zb,Q9,Ze,Jp,Yl,Kq,Xi,St.after,Env.keep,if_true,if_false,ite_true,ite_false,Wu,Y0,unV,Yt,Vw,packed,reduceCtorEq,Jm,Jn,Jd,Qg,Qb,Qi,Z3,Jc,Jg,beq_self_eq_true,Ka,Xf,K7,Kz,Kg,Vm,Kp,X9,Vn,Vl,Kj,V7,Va,Xo,Vj,Vo,Kl,Kk,Xc,Kf,Jv,J4,J3,Xm,Xa,Xk,J9,J2,Xn,Xl,Xy,Xb,Ky,X0,K9,Vk,Xz,Vb,Xg,Ob.fresh,Uf,Ut,Uy,Jq,and_self,true_and,and_true,Jr,Kh,Yc,Wd,V8,Xp,Yj,Xq,Xt,false_and,decide_true,decide_false,Jy,Qq,Qo,Qp,Qc,Qn,Qh,Wx,Xx,Y8,Kd,X6,X7,Z1,Z0,Gq,Gp,Gn,Gm,Zn,Kr,J7,Xw,Xv,V6,Xh,cL,Qp,Qo,Qy,Qx,Qv,Ql,Qk,Qw,Qc,Q1,Q2,Qr,Qg,Qi,Qh,Qu,Qt,Qs,Qn,Qd,hz,hb1,Qqi,h1,h2,h3,lR,hst,Uf,h9]
end Go.Ev.YtpgphpkjlpkcbaaGreat
namespace Go.Ev.YtpgphpkjlpkcbaaGreat
open Go Go.Ev
attribute [local congr] W5 Up W4 Uq Wo
set_option maxRecDepth 100000
def mA (x y z:List Nat):List Nat:=dig 256 32 ((num 256 x*num 256 y+num 256 z)%ell)
def rd (x:List Nat):List Nat:=dig 256 32 (num 256 x%ell)
theorem Zc5 (x:List Nat):dig 256 32 (num 256 x%ell)=rd x:=rfl
theorem Zd0 {x y z:List Nat}:(mA x y z).length=32:=Km _ _ _
theorem Qvo {x:List Nat}:(rd x).length=32:=Km _ _ _
theorem mA_lt {x y z:List Nat}:∀ t∈mA x y z,t<256:=fun _ h=>Dh (by decide) h
theorem rd_lt {x:List Nat}:∀ t∈rd x,t<256:=fun _ h=>Dh (by decide) h
theorem Q6n:ell≤256^32:=by decide
theorem Qjm (v:Nat):num 256 (dig 256 32 (v%ell))=v%ell:=by
 rw [Bq (by decide),Z5 (Xr (Jo _ Qg2) Q6n)]
theorem Zdo (x y z:List Nat):num 256 (mA x y z)=(num 256 x*num 256 y+num 256 z)%ell:=Qjm _
theorem Q0h {a b c:List Nat} (la:a.length=32) (lb:b.length=32) (lc:c.length=32) (xa:∀ x∈a,x<256) (xb:∀ x∈b,x<256) (xc:∀ x∈c,x<256) :
  ∃ l,Yd T 65 [.agg (u8s a).toArray,.agg (u8s b).toArray,.agg (u8s c).toArray] []=some (.agg (u8s (mA a b c)).toArray,l,[]):=Q0i la lb lc xa xb xc
def Qfh:List Nat:=[237,211,245,92,26,99,18,88,214,156,247,162,222,249,222,20]
def ordL:List Nat:=dig 256 32 ell
theorem Q86:ordL=Qfh++Qa 15 0++[16]:=by decide +kernel
theorem Qgs:ordL.length=32:=Km _ _ _
theorem Qx8:∀ x∈ordL,x<256:=fun _ h=>Dh (by decide) h
theorem Qsq:num 256 ordL=ell:=by decide +kernel
theorem M9 {k:IntKind} {B bytes:Nat} {H:List Ob} {s:Value} {bs:List Nat} {x:Nat} (h:Grown k B H s bs) (hB:B≤H.length) (hb:(bs.length+1)*bytes≤2^47) (hb0:0<bytes) :
  ∃ s' H' M,Wk 1 bytes (H++[⟨[.int k (x:Nat)],true,true,true,1⟩]) s (.slice (some ⟨H.length,0,none⟩) 1 1)=some (s',H',none,M)∧Grown k B H' s' (bs++[x])∧(∀ i∈M,B≤i)∧B≤H'.length∧∀ i,i<B→H'[i]?=H[i]? := by
 obtain ⟨s',H',M,h1,h2,h3,h4,h5⟩:=(h.app (l':=[⟨[.int k (x:Nat)],true,true,true,1⟩])).append (bytes:=bytes) (x := .slice (some ⟨H.length,0,none⟩) 1 1) (new:=[x]) (by simp; omega) rfl (by simp [elemsOf,liveAt,ns]) hb hb0
 refine ⟨s',H',M,h1,h2,h3,?_,fun i hi=>by rw [h5 i hi,Qm (by omega)]⟩
 simp at h4
 omega
def oI (s:Value) (H:List Ob) (ex:Env):St:=⟨[(1,s)]++ex,H,[]⟩
theorem Qls (H:List Ob):∃ s l,Yd T 115 [] H=some (s,H++l,[])∧Grown .i64 H.length (H++l) s ordL:=by
 have hf:fillL (Qa 16 (Value.int .i64 0)) [(0,1,.int .i64 237),(1,1,.int .i64 211),(2,1,.int .i64 245),(3,1,.int .i64 92),(4,1,.int .i64 26),(5,1,.int .i64 99),(6,1,.int .i64 18),(7,1,.int .i64 88),(8,1,.int .i64 214),(9,1,.int .i64 156),(10,1,.int .i64 247),(11,1,.int .i64 162),(12,1,.int .i64 222),(13,1,.int .i64 249),(14,1,.int .i64 222),(15,1,.int .i64 20)]=some (ns .i64 Qfh):=rfl
 have f0:fillL [Value.int .i64 0] [(0,1,.int .i64 0)]=some [.int .i64 0]:=rfl
 have f16:fillL [Value.int .i64 0] [(0,1,.int .i64 16)]=some [.int .i64 16]:=rfl
 obtain ⟨st,hb,s,Hc,rfl,hg,hL,hK⟩:=Vi (T:=T) (base:=H.length) (id:=0) (body:=Qrj)
  (fun j st=>∃ s Hc,st=oI s Hc []∧Grown .i64 H.length Hc s (Qfh++Qa j 0)∧H.length≤Hc.length∧∀ i,i<H.length→Hc[i]?=H[i]?)
  (Q:=fun st=>∃ s Hc,st=oI s Hc [(5,.bool false)]∧Grown .i64 H.length Hc s (Qfh++Qa 15 0)∧H.length≤Hc.length∧∀ i,i<H.length→Hc[i]?=H[i]?)
  15 (s:=oI (.slice (some ⟨H.length,0,none⟩) 16 16) (H++[⟨ns .i64 Qfh,true,true,true,1⟩]) []) ⟨_,_,rfl,Grown.new (id:=H.length) (bs:=Qfh) (Zn _) (by decide) (by simp [Ob.fresh]),by simp,fun i hi=>Qm hi⟩
  (fun j st hj hs=>by
   obtain ⟨s,Hc,rfl,hg,hL,hK⟩:=hs
   have hl:=hg.len
   have e16:(Qfh++Qa j 0).length=16+j:=by simp [Qfh]; omega
   rw [e16] at hl
   have h31:(((16+j:Nat):Int)<31):=by omega
   obtain ⟨s',H',M,h1,h2,h3,h4,h5⟩:=M9 (x:=0) (bytes:=8) hg hL (by simp [Qfh]; omega) (by decide)
   have hm:Jp H.length [] M=[]:=Xu h3
   refine ⟨oI s' H' [],?_,s',H',rfl,by rw [Mt,←Je]; exact h2,h4,fun i hi=>by rw [h5 i hi,hK i hi]⟩
   simp only [oI,Qrj,Zw,quiet,cF,↓pF,reduceCtorEq,Qb,Qq,Wg,X8,↓Zy,↓Zx,↓Z7,↓Jb,↓Z9,↓Ja,cL,Qp,Qo,Qy,Qx,Qv,Ql,Qk,Qw,Qc,Q1,Q2,Qr,Qg,Qi,Qh,Qu,Qt,Qs,Qn,Qd,cJ,Kc,hl,h31,f0]
   simp only [J6] at h1
   simp only [h1,hm,Zw,quiet,cF,↓pF,reduceCtorEq,Qb,Qq,Wg,X8,↓Zy,↓Zx,↓Z7,↓Jb,↓Z9,↓Ja,cL,Qp,Qo,Qy,Qx,Qv,Ql,Qk,Qw,Qc,Q1,Q2,Qr,Qg,Qi,Qh,Qu,Qt,Qs,Qn,Qd])
  (fun st hs=>by
   obtain ⟨s,Hc,rfl,hg,hL,hK⟩:=hs
   have hl:=hg.len
   refine ⟨_,?_,s,Hc,rfl,hg,hL,hK⟩
   have e16:(Qfh++Qa 15 0).length=31:=rfl
   rw [e16] at hl
   simp only [oI,Qrj,Zw,quiet,cF,↓pF,reduceCtorEq,Qb,Qq,Wg,X8,↓Zy,↓Zx,↓Z7,↓Jb,↓Z9,↓Ja,cL,Qp,Qo,Qy,Qx,Qv,Ql,Qk,Qw,Qc,Q1,Q2,Qr,Qg,Qi,Qh,Qu,Qt,Qs,Qn,Qd,cJ,Kc,hl])
 obtain ⟨s',H',M,h1,h2,h3,h4,h5⟩:=M9 (x:=16) (bytes:=8) hg hL (by decide) (by decide)
 have hm:Jp H.length [] M=[]:=Xu h3
 obtain ⟨l,rfl⟩:=B5 h4 (fun i hi=>by rw [h5 i hi,hK i hi])
 refine ⟨s',l,?_,by rw [Q86]; exact h2⟩
 rw [Zz (fn:=a23) rfl]
 simp only [oI,Ze,Q9] at hb
 simp only [U0] at h1
 simp only [a23,Zw,quiet,cF,↓pF,reduceCtorEq,Qb,Qq,Wg,X8,↓Zy,↓Zx,↓Z7,↓Jb,↓Z9,↓Ja,cL,Qp,Qo,Qy,Qx,Qv,Ql,Qk,Qw,Qc,Q1,Q2,Qr,Qg,Qi,Qh,Qu,Qt,Qs,Qn,Qd,cJ,Kc,hf,hb,oI,f16,h1,hm]
theorem Qry {x:Nat} (h:x<256):IntKind.u8.wrap (x:Int)=x:=Uu rfl h
theorem Qo5 {a:List Nat} {m x:Nat} (h:a[m]?=some x):num 256 a=num 256 (a.take m)+x*256^m+256^(m+1)*num 256 (a.drop (m+1)):=by
 have hm:m<a.length:=(Q7.1 h).1
 conv=>lhs; rw [←Yn (m+1) a,Hx,Uh h]
 rw [Js,Vz (by omega)]
theorem Qjl {a:List Nat} {m:Nat} (ha:∀ x∈a,x<256) (hm:m≤a.length):num 256 (a.take m)<256^m:=by
 have:=num_lt (B:=256) (l:=a.take m) fun x hx=>ha x (Ki hx)
 rwa [Js,Vz hm] at this
theorem Q93 {a b:List Nat} {m x y:Nat} (hl:a.length=b.length) (ha:∀ x∈a,x<256) (hb:∀ x∈b,x<256) (hx:a[m]?=some x) (hy:b[m]?=some y) (hne:x≠y) (hd:a.drop (m+1)=b.drop (m+1)):(num 256 a<num 256 b)↔x<y:=by
 have hm:m<a.length:=(Q7.1 hx).1
 rw [Qo5 hx,Qo5 hy,hd]
 have h1:=Qjl (m:=m) ha (by omega)
 have h2:=Qjl (m:=m) hb (by omega)
 rcases Yp x y with h | h
 ·have:(x+1)*256^m≤y*256^m:=Yh _ h
  rw [Kw,Ul] at this
  constructor<;>intro<;>omega
 ·have:(y+1)*256^m≤x*256^m:=Yh _ (by omega)
  rw [Kw,Ul] at this
  constructor<;>intro<;>omega
def rlI (sa sb:Value) (H:List Ob) (i:Int) (ex:Env):St:=⟨[(0,sa),(1,sb),(5,.int .i64 i)]++ex,H,[]⟩
theorem Qgi {H:List Ob} {base:Nat} {ia oa ca ib ob cb n:Nat} {a b:List Nat} (hra:Row .i64 H ia oa a) (hrb:Row .i64 H ib ob b) (la:a.length=n) (lb:b.length=n) (hN:n<2^40) (ha:∀ x∈a,x<256) (hb:∀ x∈b,x<256) :
  ∀ m,m≤n→a.drop m=b.drop m→Jl T base (.loop Qnd) (rlI (.slice (some ⟨ia,oa,none⟩) n ca) (.slice (some ⟨ib,ob,none⟩) n cb) H ((m:Int)-1) []) =
   if a=b then some (.exit 0,rlI (.slice (some ⟨ia,oa,none⟩) n ca) (.slice (some ⟨ib,ob,none⟩) n cb) H (-1) [(10,.bool false)]) else some (.ret,⟨[(4,.bool (decide (num 256 a<num 256 b)))],H,[]⟩)
 | 0,_,hd=>by
  rw [Qz,Qz] at hd
  rw [if_pos hd,Wr]
  have e:((0:Int) ≤ -1)=False:=by decide
  simp only [rlI,Qnd,Zw,quiet,cF,↓pF,reduceCtorEq,Qb,Qq,Wg,X8,↓Zy,↓Zx,↓Z7,↓Jb,↓Z9,↓Ja,cL,Qp,Qo,Qy,Qx,Qv,Ql,Qk,Qw,Qc,Q1,Q2,Qr,Qg,Qi,Qh,Qu,Qt,Qs,Qn,Qd,Int.zero_sub,e]
 | m+1,hm,hd=>by
  obtain ⟨x,hx⟩:∃ x,a[m]?=some x:=⟨_,Q3 (by omega)⟩
  obtain ⟨y,hy⟩:∃ y,b[m]?=some y:=⟨_,Q3 (by omega)⟩
  obtain ⟨o1,ho1,hc1⟩:=hra
  obtain ⟨o2,ho2,hc2⟩:=hrb
  have c1:=hc1 m x hx
  have c2:=hc2 m y hy
  have e0:(((m+1:Nat):Int)-1)=(m:Int):=by omega
  have e1:((0:Int)≤(m:Int))=True:=eq_true (by omega)
  have e2:((m:Int)<(n:Int))=True:=eq_true (by omega)
  have e3:IntKind.i64.wrap ((m:Int)-1)=(m:Int)-1:=Kn (by omega) (by omega)
  rw [e0,Wr]
  obtain ⟨g1,v1⟩:(H[ia]?=some o1)∧o1.live=true:=by
   simp only [liveAt,Qj] at ho1
   obtain ⟨o',g1,g2⟩:=ho1
   split at g2
   ·cases g2; exact ⟨g1,by assumption⟩
   ·cases g2
  obtain ⟨g2,v2⟩:(H[ib]?=some o2)∧o2.live=true:=by
   simp only [liveAt,Qj] at ho2
   obtain ⟨o',g1,g2⟩:=ho2
   split at g2
   ·cases g2; exact ⟨g1,by assumption⟩
   ·cases g2
  by_cases hxy:x=y
  ·subst hxy
   have hd':a.drop m=b.drop m:=by
    rw [Yf,hx,hd,←hy,←Yf]
   have ih:=Qgi (base:=base) (ca:=ca) (cb:=cb) ⟨o1,ho1,hc1⟩ ⟨o2,ho2,hc2⟩ la lb hN ha hb m (by omega) hd'
   rw [←ih]
   simp only [rlI,Qnd,Zw,quiet,cF,↓pF,reduceCtorEq,Qb,Qq,Wg,X8,↓Zy,↓Zx,↓Z7,↓Jb,↓Z9,↓Ja,cL,Qp,Qo,Qy,Qx,Qv,Ql,Qk,Qw,Qc,Q1,Q2,Qr,Qg,Qi,Qh,Qu,Qt,Qs,Qn,Qd,e1,e2,e3,g1,g2,v1,v2,c1,c2]
  ·have hab:¬ a=b:=fun h=>by subst h; rw [hx] at hy; cases hy; exact hxy rfl
   rw [if_neg hab]
   have hne:((x:Int) != (y:Int))=true:=by simp; omega
   have hlt:=Q93 (by omega) ha hb hx hy hxy hd
   have hdec:decide ((x:Int)<(y:Int))=decide (num 256 a<num 256 b):=by
    by_cases h:x<y
    ·rw [decide_eq_true (hlt.2 h),decide_eq_true (by omega)]
    ·rw [decide_eq_false (fun k=>h (hlt.1 k)),decide_eq_false (by omega)]
   simp only [rlI,Qnd,Zw,quiet,cF,↓pF,reduceCtorEq,Qb,Qq,Wg,X8,↓Zy,↓Zx,↓Z7,↓Jb,↓Z9,↓Ja,cL,Qp,Qo,Qy,Qx,Qv,Ql,Qk,Qw,Qc,Q1,Q2,Qr,Qg,Qi,Qh,Qu,Qt,Qs,Qn,Qd,e1,e2,e3,g1,g2,v1,v2,c1,c2,hne,hdec]
theorem Qlb {H:List Ob} {sa sb:Value} {n:Nat} {a b:List Nat} (hra:Sl .i64 H sa a) (hrb:Sl .i64 H sb b) (la:a.length=n) (lb:b.length=n) (hn:0<n) (hN:n<2^40) (ha:∀ x∈a,x<256) (hb:∀ x∈b,x<256) :
  Yd T 114 [sa,sb] H=some (.bool (decide (num 256 a<num 256 b)),H,[]):=by
 obtain ⟨ia,oa,ca,rfl,ra⟩:=hra.row (by omega)
 obtain ⟨ib,ob,cb,rfl,rb⟩:=hrb.row (by omega)
 rw [la,lb]
 have hl:=Qgi (base:=H.length) (ca:=ca) (cb:=cb) ra rb la lb hN ha hb n (Zn n) (by rw [Vv (by omega),Vv (by omega)])
 have e3:IntKind.i64.wrap ((n:Int)-1)=(n:Int)-1:=Kn (by omega) (by omega)
 rw [Zz (fn:=a48) rfl]
 simp only [rlI,Ze,Q9] at hl
 by_cases hab:a=b
 ·rw [if_pos hab] at hl
  subst hab
  have:decide (num 256 a<num 256 a)=false:=by simp
  simp only [a48,Zw,quiet,cF,↓pF,reduceCtorEq,Qb,Qq,Wg,X8,↓Zy,↓Zx,↓Z7,↓Jb,↓Z9,↓Ja,cL,Qp,Qo,Qy,Qx,Qv,Ql,Qk,Qw,Qc,Q1,Q2,Qr,Qg,Qi,Qh,Qu,Qt,Qs,Qn,Qd,e3,J1,hl,this]
 ·rw [if_neg hab] at hl
  simp only [a48,Zw,quiet,cF,↓pF,reduceCtorEq,Qb,Qq,Wg,X8,↓Zy,↓Zx,↓Z7,↓Jb,↓Z9,↓Ja,cL,Qp,Qo,Qy,Qx,Qv,Ql,Qk,Qw,Qc,Q1,Q2,Qr,Qg,Qi,Qh,Qu,Qt,Qs,Qn,Qd,e3,J1,hl]
def mH (H:List Ob) (z r:List Nat) (l:List Ob):List Ob:=H++⟨u8s z,true,true,true,1⟩::⟨ns .i64 r,true,true,true,1⟩::l
theorem Q47 {H:List Ob} {z r r':List Nat} {l:List Ob} {v:Value} {k:IntKind} {xs:List Nat} {id off n c:Nat} (hv:v=.slice (some ⟨id,off,none⟩) n c) (hid:id≠H.length+1) (h:Sl k (mH H z r l) v xs):Sl k (mH H z r' l) v xs:=by
 subst hv
 cases h with
 | mk h1 h2 h3 =>
  refine .mk ?_ h2 h3
  rw [←h1]
  apply Qch
  unfold mH
  by_cases hlt:id<H.length
  ·rw [Qm hlt,Qm hlt]
  ·rw [Za (by omega),Za (by omega)]
   rcases hk:id-H.length with _ | _ | k
   ·rfl
   ·omega
   ·rfl
def mrs (H:List Ob):Value := .slice (some ⟨H.length+1,0,none⟩) 33 33
def l1I (R v0 sl:Value) (rs:Value) (i q b k x:Int) (h:List Ob) (ex:Env):St:=⟨[(0,v0),(2,R),(3,rs),(4,sl),(5,.int .i64 i),(7,.int .i64 q),(8,.int .i64 b),(9,.int .i64 k),(10,.int .i64 x)]++ex,h,[]⟩
theorem Qyg {base:Nat} {R v0 sl rs:Value} {i q k:Int} {h:List Ob}:∀ (t:Nat) (b x:Int),t<2^40→0≤b→b+t<2^41→x+256*t<256→0≤x+256*t→(0<t→x<0) →
  Jl T base (.loop Qrh) (l1I R v0 sl rs i q b k x h [])=some (.exit 8,l1I R v0 sl rs i q (b+t) k (x+256*t) h [(75,.bool false)])
 | 0,b,x,_,_,_,h1,h2,_=>by
  have e:(x<0)=False:=eq_false (by omega)
  rw [Wr]
  simp only [l1I,Qrh,Zw,quiet,cF,↓pF,reduceCtorEq,Qb,Qq,Wg,X8,↓Zy,↓Zx,↓Z7,↓Jb,↓Z9,↓Ja,cL,Qp,Qo,Qy,Qx,Qv,Ql,Qk,Qw,Qc,Q1,Q2,Qr,Qg,Qi,Qh,Qu,Qt,Qs,Qn,Qd,e,Int.mul_zero,Int.add_zero]
 | t+1,b,x,ht,hb0,hb,h1,h2,h3=>by
  have e:(x<0)=True:=eq_true (h3 (by omega))
  have ih:=Qyg (base:=base) (R:=R) (v0:=v0) (sl:=sl) (rs:=rs) (i:=i) (q:=q) (k:=k) (h:=h) t (b+1) (x+256) (by omega) (by omega) (by omega) (by omega) (by omega) (fun h=>by omega)
  have w1:IntKind.i64.wrap (x+256)=x+256:=Kn (by omega) (by omega)
  have w2:IntKind.i64.wrap (b+1)=b+1:=Kn (by omega) (by omega)
  rw [Wr]
  rw [show b+((t+1:Nat):Int)=b+1+(t:Int) by omega,show x+256*((t+1:Nat):Int)=x+256+256*(t:Int) by omega,←ih]
  simp only [l1I,Qrh,Zw,quiet,cF,↓pF,reduceCtorEq,Qb,Qq,Wg,X8,↓Zy,↓Zx,↓Z7,↓Jb,↓Z9,↓Ja,cL,Qp,Qo,Qy,Qx,Qv,Ql,Qk,Qw,Qc,Q1,Q2,Qr,Qg,Qi,Qh,Qu,Qt,Qs,Qn,Qd,e,w1,w2]
def ord33:List Nat:=ordL++[0]
theorem Qek:ord33.length=33:=by simp [ord33,Qgs]
theorem Qlt:∀ x∈ord33,x<256:=by
 intro x hx
 simp only [ord33,J8,U7] at hx
 rcases hx with h | h
 ·exact Qx8 x h
 ·omega
theorem Qox:num 256 ord33=ell:=by
 simp only [ord33,Hx,Qsq,num]; omega
structure SubInv (k q:Nat) (r0 r:List Nat) (b:Nat):Prop where
 len:r.length=33
 lt:∀ x∈r,x<256
 ble:b≤q+1
 eq:num 256 (r0.take k)+b*256^k=num 256 (r.take k)+q*num 256 (ord33.take k)
 rest:r.drop k=r0.drop k
def nx (y q l b:Nat):Nat:=((y:Int)-q*l-b).toNat
def nb (y q l b:Nat):Nat:=(q*l+b-y+255)/256
theorem SubInv.step {k q b y l:Nat} {r0 r:List Nat} (h:SubInv k q r0 r b) (hk:k<33) (hy:r[k]?=some y) (hl:ord33[k]?=some l):SubInv (k+1) q r0 (r.set k (y+256*nb y q l b-(q*l+b))) (nb y q l b)∧y+256*nb y q l b-(q*l+b)<256∧q*l+b≤y+256*nb y q l b:=by
 have hy':=h.lt y (Zp hy)
 have hl':=Qlt l (Zp hl)
 have hb:=h.ble
 have hlen:=h.len
 have hnb:y+256*nb y q l b-(q*l+b)<256∧q*l+b≤y+256*nb y q l b:=by unfold nb; omega
 have hql:q*l≤q*255:=Bw q (by omega)
 have hnb2:nb y q l b≤q+1:=by unfold nb; omega
 have hy0:r0[k]?=some y:=by
  have h1:(r.drop k)[0]?=(r0.drop k)[0]? := by rw [h.rest]
  rwa [Vy,Vy,Jy,hy,eq_comm] at h1
 refine ⟨⟨by rw [Jk]; exact hlen,Hl h.lt hnb.1,hnb2,?_,?_⟩,hnb⟩
 ·generalize nb y q l b=c at *
  obtain ⟨d,hd⟩:∃ d,y+256*c=q*l+b+d:=⟨y+256*c-(q*l+b),by omega⟩
  have hset:(r.set k d).take (k+1)=r.take k++[d]:=by
   rw [Ym,Jj (by omega),List.take_set_of_le (Zn k)]; rfl
  rw [show y+256*c-(q*l+b)=d by omega,hset,Uh hy0,Uh hl,Hx]
  have hln:(r.take k).length=k:=by rw [Js]; omega
  rw [hln]
  have he:=h.eq
  simp only [num,Tf,Jy]
  have e1:c*256^(k+1)=(256*c)*256^k:=by rw [Kv]; simp only [Ye,W9,Ve]
  have e2:(y+256*c)*256^k=(q*l+b+d)*256^k:=by rw [hd]
  rw [Kw,Kw,Kw] at e2
  rw [e1,Mr,←Ye,Ve (256^k) d]
  omega
 ·rw [List.drop_set_of_lt (by omega)]
  have h1:(r.drop k).drop 1=(r0.drop k).drop 1:=by rw [h.rest]
  rwa [Gj,Gj] at h1
def l2I (R v0 sl rs:Value) (i q b k:Int) (h:List Ob) (ex:Env):St:=⟨[(0,v0),(2,R),(3,rs),(4,sl),(5,.int .i64 i),(7,.int .i64 q),(8,.int .i64 b),(9,.int .i64 k)]++ex,h,[]⟩
theorem Ql2 {k:IntKind} {H:List Ob} {id off n c:Nat} {xs:List Nat} (h:Sl k H (.slice (some ⟨id,off,none⟩) n c) xs):∃ o,H[id]?=some o∧o.live=true∧n=xs.length∧∀ (i x:Nat),xs[i]?=some x→o.cells[off+i]?=some (.int k (x:Nat)):=by
 cases h with
 | mk h1 h2 h3 =>
  simp only [liveAt,Qj] at h1
  obtain ⟨o',g1,g2⟩:=h1
  split at g2
  ·cases g2; exact ⟨_,g1,by assumption,rfl,h3⟩
  ·cases g2
theorem Q96 {H:List Ob} {R v0:Value} {z r0 r:List Nat} {l:List Ob} {il ol cl:Nat} {i:Int} {q b k y lk:Nat} (hsl:∀ r,Sl .i64 (mH H z r l) (.slice (some ⟨il,ol,none⟩) 33 cl) ord33) (hI:SubInv k q r0 r b) (hk:k<33) (hq:q<2^20) (hy:r[k]?=some y) (hl:ord33[k]?=some lk) :
  Jl T H.length Qf4 (l2I R v0 (.slice (some ⟨il,ol,none⟩) 33 cl) (mrs H) i q b k (mH H z r l) []) =
   some (.normal,l2I R v0 (.slice (some ⟨il,ol,none⟩) 33 cl) (mrs H) i q (nb y q lk b:Nat) ((k+1:Nat):Int) (mH H z (r.set k (y+256*nb y q lk b-(q*lk+b))) l) []):=by
 obtain ⟨hS,hlt,hle⟩:=hI.step hk hy hl
 have hy':=hI.lt y (Zp hy)
 have hl':=Qlt lk (Zp hl)
 have hb:=hI.ble
 have hlen:=hI.len
 have hql:q*lk≤q*255:=Bw q (by omega)
 have hnb2:=hS.ble
 obtain ⟨o,ho,hv,-,hc⟩:=Ql2 (hsl r)
 have hcl:=hc k lk hl
 have hyc:=Yy (k := .i64) hy
 have k1:((k:Int)<33)=True:=eq_true (by omega)
 have k2:((k:Int)<((33:Nat):Int))=True:=eq_true (by omega)
 have w1:IntKind.i64.wrap ((q:Int)*(lk:Int))=((q*lk:Nat):Int):=by rw [←U1]; exact Yi (by omega)
 have w2:IntKind.i64.wrap ((y:Int)-((q*lk:Nat):Int))=(y:Int)-((q*lk:Nat):Int):=Kn (by omega) (by omega)
 have w3:IntKind.i64.wrap ((y:Int)-((q*lk:Nat):Int)-(b:Int))=(y:Int)-((q*lk:Nat):Int)-(b:Int):=Kn (by omega) (by omega)
 have w4:IntKind.i64.wrap ((k:Int)+1)=((k+1:Nat):Int):=Yi (n:=k+1) (by omega)
 have hloop:=Qyg (base:=H.length) (R:=R) (v0:=v0) (sl := .slice (some ⟨il,ol,none⟩) 33 cl) (rs:=mrs H) (i:=i) (q:=q) (k:=k) (h:=mH H z r l) (nb y q lk b) 0 ((y:Int)-((q*lk:Nat):Int)-(b:Int)) (by omega) (by omega) (by omega) (by omega) (by omega) (fun h=>by unfold nb at h; omega)
 rw [show (0:Int)+(nb y q lk b:Nat)=(nb y q lk b:Nat) by omega,show (y:Int)-((q*lk:Nat):Int)-(b:Int)+256*(nb y q lk b:Nat)=((y+256*nb y q lk b-(q*lk+b):Nat):Int) by omega] at hloop
 have hset:=Bf .i64 r k (y+256*nb y q lk b-(q*lk+b))
 have hst:k+1≤33:=by omega
 generalize nb y q lk b=c at *
 generalize y+256*c-(q*lk+b)=d at *
 simp only [l1I,l2I,mH,mrs,Ze,Q9] at hloop ho ⊢
 simp only [Qf4,Zw,quiet,cF,↓pF,reduceCtorEq,Qb,Qq,Wg,X8,↓Zy,↓Zx,↓Z7,↓Jb,↓Z9,↓Ja,cL,Qp,Qo,Qy,Qx,Qv,Ql,Qk,Qw,Qc,Q1,Q2,Qr,Qg,Qi,Qh,Qu,Qt,Qs,Qn,Qd,cJ,Kc,k1,k2,hyc,ho,hv,hcl,w1,w2,w3,w4,J1,hloop,J0,hlen,hst,hset]
theorem Q5c {H:List Ob} {R v0:Value} {z r:List Nat} {l:List Ob} {il ol cl:Nat} {i:Int} {q:Nat} (hsl:∀ r,Sl .i64 (mH H z r l) (.slice (some ⟨il,ol,none⟩) 33 cl) ord33) (hq:q<2^20) (hlen:r.length=33) (hlt:∀ x∈r,x<256) (hle:q*ell≤num 256 r) :
  ∃ b r',Jl T H.length (.block 6 (.loop Qf4)) (l2I R v0 (.slice (some ⟨il,ol,none⟩) 33 cl) (mrs H) i q 0 0 (mH H z r l) [])=some (.normal,l2I R v0 (.slice (some ⟨il,ol,none⟩) 33 cl) (mrs H) i q b 33 (mH H z r' l) [(58,.bool false)]) ∧
   r'.length=33∧(∀ x∈r',x<256)∧num 256 r'=num 256 r-q*ell:=by
 obtain ⟨st,h1,b,r',rfl,hI⟩:=Vi (T:=T) (base:=H.length) (id:=6) (body:=Qf4)
  (fun k st=>∃ (b:Nat) (r':List Nat),st=l2I R v0 (.slice (some ⟨il,ol,none⟩) 33 cl) (mrs H) i q b k (mH H z r' l) []∧SubInv k q r r' b)
  (Q:=fun st=>∃ (b:Nat) (r':List Nat),st=l2I R v0 (.slice (some ⟨il,ol,none⟩) 33 cl) (mrs H) i q b 33 (mH H z r' l) [(58,.bool false)]∧SubInv 33 q r r' b)
  33 (s:=l2I R v0 (.slice (some ⟨il,ol,none⟩) 33 cl) (mrs H) i q 0 0 (mH H z r l) []) ⟨0,r,rfl,⟨hlen,hlt,by omega,by simp [num],rfl⟩⟩
  (fun k st hk hs=>by
   obtain ⟨b,r',rfl,hI⟩:=hs
   obtain ⟨y,hy⟩:∃ y,r'[k]?=some y:=⟨_,Q3 (by rw [hI.len]; omega)⟩
   obtain ⟨lk,hl⟩:∃ y,ord33[k]?=some y:=⟨_,Q3 (by rw [Qek]; omega)⟩
   exact ⟨_,Q96 hsl hI hk hq hy hl,_,_,rfl,(hI.step hk hy hl).1⟩)
  (fun st hs=>by
   obtain ⟨b,r',rfl,hI⟩:=hs
   refine ⟨_,?_,b,r',rfl,hI⟩
   simp only [l2I,Qf4,Zw,quiet,cF,↓pF,reduceCtorEq,Qb,Qq,Wg,X8,↓Zy,↓Zx,↓Z7,↓Jb,↓Z9,↓Ja,cL,Qp,Qo,Qy,Qx,Qv,Ql,Qk,Qw,Qc,Q1,Q2,Qr,Qg,Qi,Qh,Qu,Qt,Qs,Qn,Qd])
 refine ⟨b,r',h1,hI.len,hI.lt,?_⟩
 have he:=hI.eq
 rw [Zk (by omega),Zk (by rw [hI.len]; omega),Zk (by rw [Qek]; omega),Qox] at he
 have h2:=num_lt hI.lt
 rw [hI.len] at h2
 rcases Wl b with hb | hb
 ·subst hb; omega
 ·have:1*256^33≤b*256^33:=Yh _ hb
  omega
theorem Zc7 {r:List Nat} {x y:Nat} (hlen:r.length=33) (hx:r[32]?=some x) (hy:r[31]?=some y):(x*256+y)/17*ell≤num 256 r:=by
 have h1:ell≤17*256^31:=by decide
 have h2:(x*256+y)/17*ell≤(x*256+y)/17*(17*256^31):=Bw _ h1
 rw [←Ye] at h2
 have h3:(x*256+y)/17*17*256^31≤(x*256+y)*256^31:=Yh _ (Nat.div_mul_le_self _ _)
 have h4:num 256 r=num 256 (r.take 31)+y*256^31+x*256^32:=by
  have h5:=Uh (B:=256) hx
  rw [Zk (by omega),Uh hy] at h5
  exact h5
 rw [h4]
 have h6:(x*256+y)*256^31=x*256^32+y*256^31:=by rw [Kw,Ye,←Nat.pow_succ']
 omega
def l3I (R v0 sl rs:Value) (i:Int) (h:List Ob) (ex:Env):St:=⟨[(0,v0),(2,R),(3,rs),(4,sl),(5,.int .i64 i)]++ex,h,[]⟩
theorem rs_sl {H:List Ob} {z r:List Nat} {l:List Ob} (hlen:r.length=33):Sl .i64 (mH H z r l) (mrs H) r:=by
 have:=Sl.mk (k := .i64) (H:=mH H z r l) (id:=H.length+1) (off:=0) (c:=33) (o:=⟨ns .i64 r,true,true,true,1⟩) (l:=r) (by simp [mH,liveAt]) (by simp [J0]) (fun i x hx=>by rw [Z3]; exact Yy hx)
 rwa [hlen] at this
theorem Q95 {H:List Ob} {R v0:Value} {z:List Nat} {l:List Ob} {il ol cl:Nat} {i:Int} (hsl:∀ r,Sl .i64 (mH H z r l) (.slice (some ⟨il,ol,none⟩) 33 cl) ord33) :
  ∀ (N:Nat) (r:List Nat) (ex:Env),num 256 r=N→r.length=33→(∀ x∈r,x<256)→∃ r' ex',Jl T H.length (.loop Qf3) (l3I R v0 (.slice (some ⟨il,ol,none⟩) 33 cl) (mrs H) i (mH H z r l) ex)=some (.exit 4,l3I R v0 (.slice (some ⟨il,ol,none⟩) 33 cl) (mrs H) i (mH H z r' l) ex') ∧
   r'.length=33∧(∀ x∈r',x<256)∧num 256 r'=num 256 r%ell:=by
 intro N
 induction N using Qhx with
 | _ N ih =>
  intro r ex hN hlen hlt
  have hless:=Qlb (rs_sl (H:=H) (z:=z) (l:=l) hlen) (hsl r) hlen Qek (by decide) (by decide) hlt Qlt
  rw [Qox] at hless
  by_cases hc:num 256 r<ell
  ·rw [decide_eq_true hc] at hless
   refine ⟨r,[(45,.bool false)],?_,hlen,hlt,(Z5 hc).symm⟩
   rw [Wr]
   simp only [l3I,Qf3,Zw,quiet,cF,↓pF,reduceCtorEq,Qb,Qq,Wg,X8,↓Zy,↓Zx,↓Z7,↓Jb,↓Z9,↓Ja,cL,Qp,Qo,Qy,Qx,Qv,Ql,Qk,Qw,Qc,Q1,Q2,Qr,Qg,Qi,Qh,Qu,Qt,Qs,Qn,Qd,hless]
  ·rw [decide_eq_false hc] at hless
   obtain ⟨x,hx⟩:∃ y,r[32]?=some y:=⟨_,Q3 (by omega)⟩
   obtain ⟨y,hy⟩:∃ y,r[31]?=some y:=⟨_,Q3 (by omega)⟩
   have hx':=hlt x (Zp hx)
   have hy':=hlt y (Zp hy)
   have hxc:=Yy (k := .i64) hx
   have hyc:=Yy (k := .i64) hy
   have w1:IntKind.i64.wrap ((x:Int)*256)=((x*256:Nat):Int):=by rw [show ((x:Int)*256)=((x*256:Nat):Int) by omega]; exact Yi (by omega)
   have w2:IntKind.i64.wrap (((x*256:Nat):Int)+(y:Int))=((x*256+y:Nat):Int):=by rw [←Gw]; exact Yi (by omega)
   have w3:IntKind.i64.wrap (((x*256+y:Nat):Int).tdiv 17)=(((x*256+y)/17:Nat):Int):=by
    rw [show ((x*256+y:Nat):Int).tdiv 17=(((x*256+y)/17:Nat):Int) from rfl]; exact Yi (by omega)
   have hq:=Zc7 hlen hx hy
   have key:∀ q:Nat,0<q→q<2^20→q*ell≤num 256 r →
     (∀ st,Jl T H.length (.block 6 (.loop Qf4)) (l2I R v0 (.slice (some ⟨il,ol,none⟩) 33 cl) (mrs H) i q 0 0 (mH H z r l) [])=some (.normal,st)→Jl T H.length Qf3 (l3I R v0 (.slice (some ⟨il,ol,none⟩) 33 cl) (mrs H) i (mH H z r l) ex)=some (.normal,st)) →
     ∃ r' ex',Jl T H.length (.loop Qf3) (l3I R v0 (.slice (some ⟨il,ol,none⟩) 33 cl) (mrs H) i (mH H z r l) ex)=some (.exit 4,l3I R v0 (.slice (some ⟨il,ol,none⟩) 33 cl) (mrs H) i (mH H z r' l) ex')∧r'.length=33∧(∀ x∈r',x<256)∧num 256 r'=num 256 r%ell:=by
    intro q hq0 hq1 hq2 hbody
    obtain ⟨b,r1,h1,h2,h3,h4⟩:=Q5c (R:=R) (v0:=v0) (i:=i) hsl hq1 hlen hlt hq2
    have hpos:ell≤q*ell:=Nat.le_mul_of_pos_left ell hq0
    have hell:=Qg2
    obtain ⟨r',ex',g1,g2,g3,g4⟩:=ih (num 256 r1) (by omega) r1 [(7,.int .i64 q),(8,.int .i64 b),(9,.int .i64 33),(58,.bool false)] rfl h2 h3
    refine ⟨r',ex',?_,g2,g3,?_⟩
    ·rw [Wr,hbody _ h1]
     exact g1
    ·rw [g4,h4]
     conv=>rhs; rw [show num 256 r=(num 256 r-q*ell)+q*ell by omega]
     rw [Hf]
   have hl33:r.length=33:=hlen
   by_cases hq0:(x*256+y)/17<1
   ·have e1:((((x*256+y)/17:Nat):Int)<1)=True:=eq_true (by omega)
    refine key 1 (by decide) (by decide) (by omega) fun st hst => ?_
    simp only [l2I,mrs,mH,Ze,Q9,Hr] at hst
    simp only [mrs,mH] at hless
    simp only [l3I,mrs,mH,Qf3,Zw,quiet,cF,↓pF,reduceCtorEq,Qb,Qq,Wg,X8,↓Zy,↓Zx,↓Z7,↓Jb,↓Z9,↓Ja,cL,Qp,Qo,Qy,Qx,Qv,Ql,Qk,Qw,Qc,Q1,Q2,Qr,Qg,Qi,Qh,Qu,Qt,Qs,Qn,Qd,cJ,Kc,hless,hxc,hyc,w1,w2,w3,e1,hst]
   ·have e1:((((x*256+y)/17:Nat):Int)<1)=False:=eq_false (by omega)
    refine key ((x*256+y)/17) (by omega) (by omega) hq fun st hst => ?_
    simp only [l2I,mrs,mH,Ze,Q9] at hst
    simp only [mrs,mH] at hless
    generalize (x*256+y)/17=qq at *
    simp only [l3I,mrs,mH,Qf3,Zw,quiet,cF,↓pF,reduceCtorEq,Qb,Qq,Wg,X8,↓Zy,↓Zx,↓Z7,↓Jb,↓Z9,↓Ja,cL,Qp,Qo,Qy,Qx,Qv,Ql,Qk,Qw,Qc,Q1,Q2,Qr,Qg,Qi,Qh,Qu,Qt,Qs,Qn,Qd,cJ,Kc,hless,hxc,hyc,w1,w2,w3,e1,hst]
def l4I (R v0 sl rs:Value) (i k:Int) (h:List Ob) (ex:Env):St:=⟨[(0,v0),(2,R),(3,rs),(4,sl),(5,.int .i64 i),(6,.int .i64 k)]++ex,h,[]⟩
theorem Q5b {H:List Ob} {R v0 sl:Value} {z r:List Nat} {l:List Ob} {i:Int} (hlen:r.length=33) :
  ∃ r',Jl T H.length (.block 2 (.loop Qni)) (l4I R v0 sl (mrs H) i 32 (mH H z r l) [])=some (.normal,l4I R v0 sl (mrs H) i 0 (mH H z r' l) [(25,.bool false)])∧r'.length=33∧∀ t,t<32→r'[t+1]?=r[t]? := by
 obtain ⟨st,h1,r',rfl,h2,h3⟩:=Vi (T:=T) (base:=H.length) (id:=2) (body:=Qni)
  (fun j st=>∃ r':List Nat,st=l4I R v0 sl (mrs H) i ((32-j:Nat):Int) (mH H z r' l) []∧r'.length=33∧(∀ t,t≤32-j→r'[t]?=r[t]?)∧∀ t,32-j≤t→t<32→r'[t+1]?=r[t]?)
  (Q:=fun st=>∃ r':List Nat,st=l4I R v0 sl (mrs H) i 0 (mH H z r' l) [(25,.bool false)]∧r'.length=33∧∀ t,t<32→r'[t+1]?=r[t]?)
  32 (s:=l4I R v0 sl (mrs H) i 32 (mH H z r l) []) ⟨r,rfl,hlen,fun _ _=>rfl,fun t h1 h2=>by omega⟩
  (fun j st hj hs=>by
   obtain ⟨r',rfl,h2,h3,h4⟩:=hs
   obtain ⟨m,hm⟩:∃ m,32-j=m+1:=⟨31-j,by omega⟩
   have hm':32-(j+1)=m:=by omega
   rw [hm] at h3 h4
   rw [hm,hm']
   obtain ⟨y,hy⟩:∃ y,r[m]?=some y:=⟨_,Q3 (by omega)⟩
   have hy':r'[m]?=some y:=by rw [h3 m (by omega)]; exact hy
   have hyc:=Yy (k := .i64) hy'
   refine ⟨_,?_,r'.set (m+1) y,rfl,by rw [Jk]; exact h2,fun t ht=>by rw [Z4 (by omega)]; exact h3 t (by omega),fun t h5 h6 => ?_⟩
   ·have e1:((0:Int)<((m+1:Nat):Int))=True:=eq_true (by omega)
    have e2:((m:Int)<(33:Int))=True:=eq_true (by omega)
    have e3:(((m+1:Nat):Int)<(33:Int))=True:=eq_true (by omega)
    have w1:IntKind.i64.wrap (((m+1:Nat):Int)-1)=(m:Int):=by rw [show ((m+1:Nat):Int)-1=(m:Int) by omega]; exact Yi (by omega)
    have e5:m+1+1≤33:=by omega
    have hset:=Bf .i64 r' (m+1) y
    generalize hk:((m+1:Nat):Int)=k1 at *
    have hkn:k1.toNat=m+1:=by omega
    have e4:((0:Int)≤k1)=True:=eq_true (by omega)
    simp only [l4I,mH,mrs,Qni,Zw,quiet,cF,↓pF,reduceCtorEq,Qb,Qq,Wg,X8,↓Zy,↓Zx,↓Z7,↓Jb,↓Z9,↓Ja,cL,Qp,Qo,Qy,Qx,Qv,Ql,Qk,Qw,Qc,Q1,Q2,Qr,Qg,Qi,Qh,Qu,Qt,Qs,Qn,Qd,cJ,Kc,e1,e2,e3,e4,w1,hyc,hkn,J0,h2,e5,hset]
   ·by_cases ht:t=m
    ·subst ht
     rw [Jj (by omega),hy]
    ·rw [Z4 (by omega)]
     exact h4 t (by omega) h6)
  (fun st hs=>by
   obtain ⟨r',rfl,h2,h3,h4⟩:=hs
   refine ⟨_,?_,r',rfl,h2,fun t ht=>h4 t (by omega) ht⟩
   simp only [l4I,Qni,Zw,quiet,cF,↓pF,reduceCtorEq,Qb,Qq,Wg,X8,↓Zy,↓Zx,↓Z7,↓Jb,↓Z9,↓Ja,cL,Qp,Qo,Qy,Qx,Qv,Ql,Qk,Qw,Qc,Q1,Q2,Qr,Qg,Qi,Qh,Qu,Qt,Qs,Qn,Qd,Jw])
 exact ⟨r',h1,h2,h3⟩
theorem Q76 {r r':List Nat} {x:Nat} (h:r.length=33) (h2:r'.length=33) (h3:∀ t,t<32→r'[t+1]?=r[t]?):r'.set 0 x=x::r.take 32:=by
 apply Wa
 intro t
 rcases t with _ | t
 ·rw [Jj (by omega)]; rfl
 ·rw [Z4 (by omega),Z0,Ks]
  by_cases ht:t<32
  ·rw [if_pos ht,h3 t ht]
  ·rw [if_neg ht,Xe (by omega)]
theorem Zb9 {r:List Nat} {V:Nat} (hlen:r.length=33) (hlt:∀ x∈r,x<256) (hn:num 256 r=V%ell):r[32]?=some 0∧r.take 32=dig 256 32 (V%ell):=by
 have h1:V%ell<256^32:=Xr (Jo _ Qg2) Q6n
 obtain ⟨x,hx⟩:∃ y,r[32]?=some y:=⟨_,Q3 (by omega)⟩
 have h5:=Uh (B:=256) hx
 rw [Zk (by omega),hn] at h5
 have hx0:x=0:=by
  rcases Wl x with h | h
  ·exact h
  ·have:1*256^32≤x*256^32:=Yh _ h
   omega
 subst hx0
 refine ⟨hx,?_⟩
 rw [Xv,Jy] at h5
 have h6:(r.take 32).length=32:=by rw [Js]; omega
 have h7:=Tc (B:=256) (by decide) (l:=r.take 32) fun y hy=>hlt y (Ki hy)
 rw [h6] at h7
 rw [h5]
 exact h7.symm
theorem Q94 {H:List Ob} {R:Value} {z r ds:List Nat} {l:List Ob} {il ol cl id off c n i x:Nat} (hsl:∀ r,Sl .i64 (mH H z r l) (.slice (some ⟨il,ol,none⟩) 33 cl) ord33) (hsd:∀ r,Sl .i64 (mH H z r l) (.slice (some ⟨id,off,none⟩) n c) ds)
  (hN:n<2^40) (hi:ds[i]?=some x) (hx:x<256) (hlen:r.length=33) (hlt:∀ x∈r,x<256) (hn:num 256 r=num 256 (ds.drop (i+1))%ell) :
  ∃ r',Jl T H.length Qnh (l3I R (.slice (some ⟨id,off,none⟩) n c) (.slice (some ⟨il,ol,none⟩) 33 cl) (mrs H) i (mH H z r l) [])=some (.normal,l3I R (.slice (some ⟨id,off,none⟩) n c) (.slice (some ⟨il,ol,none⟩) 33 cl) (mrs H) ((i:Int)-1) (mH H z r' l) []) ∧
   r'.length=33∧(∀ x∈r',x<256)∧num 256 r'=num 256 (ds.drop i)%ell:=by
 obtain ⟨r1,h1,g1,g2⟩:=Q5b (H:=H) (R:=R) (v0 := .slice (some ⟨id,off,none⟩) n c) (sl := .slice (some ⟨il,ol,none⟩) 33 cl) (z:=z) (l:=l) (i:=i) hlen
 have hsh:=Q76 (x:=x) hlen g1 g2
 have hr2len:(x::r.take 32).length=33:=by rw [Jc,Js]; omega
 have hr2lt:∀ y∈x::r.take 32,y<256:=by
  intro y hy
  rcases Wh.1 hy with h | h
  ·omega
  ·exact hlt y (Ki h)
 obtain ⟨r',ex',h3,k1,k2,k3⟩:=Q95 (H:=H) (R:=R) (v0 := .slice (some ⟨id,off,none⟩) n c) (i:=i) hsl _ (x::r.take 32) [] rfl hr2len hr2lt
 refine ⟨r',?_,k1,k2,?_⟩
 ·obtain ⟨o,ho,hv,hnl,hc⟩:=Ql2 (hsd r1)
  have hin:i<n:=by rw [hnl]; exact (Q7.1 hi).1
  have hcx:=hc i x hi
  have e1:((0:Int)≤(i:Int))=True:=eq_true (by omega)
  have e2:((i:Int)<(n:Int))=True:=eq_true (by omega)
  have w1:IntKind.i64.wrap ((i:Int)-1)=(i:Int)-1:=Kn (by omega) (by omega)
  have hset:=Bf .i64 r1 0 x
  rw [hsh] at hset
  simp only [l4I,l3I,mH,mrs,Ze,Q9] at h1 h3 ho ⊢
  simp only [Qnh,Zw,quiet,cF,↓pF,reduceCtorEq,Qb,Qq,Wg,X8,↓Zy,↓Zx,↓Z7,↓Jb,↓Z9,↓Ja,cL,Qp,Qo,Qy,Qx,Qv,Ql,Qk,Qw,Qc,Q1,Q2,Qr,Qg,Qi,Qh,Qu,Qt,Qs,Qn,Qd,cJ,Kc,e1,e2,w1,h1,ho,hv,hcx,hset,J0,g1,J1,h3]
 ·obtain ⟨h32,ht⟩:=Zb9 hlen hlt hn
  have hd:ds.drop i=x::ds.drop (i+1):=by
   have:=(Q7.1 hi)
   rw [Ui this.1,this.2]
  rw [k3,hd,num,num,ht,Qjm]
  rw [Qj2,Mq,Ha,←Mq,←Qj2]
def l0I (R:Value) (rs out:Value) (i:Int) (h:List Ob) (ex:Env):St:=⟨[(2,R),(3,rs),(11,out),(12,.int .i64 i)]++ex,h,[]⟩
theorem Q5d {H:List Ob} {R:Value} {z r:List Nat} {l:List Ob} (hlen:r.length=33) (hlt:∀ x∈r,x<256) :
  Jl T H.length (.block 10 (.loop Qnj)) (l0I R (mrs H) (.pointer (some ⟨H.length+(l.length+2),0,none⟩)) 0 (mH H z r (l++[⟨u8s (dig 256 32 0),true,true,true,1⟩])) []) =
   some (.normal,l0I R (mrs H) (.pointer (some ⟨H.length+(l.length+2),0,none⟩)) 32 (mH H z r (l++[⟨u8s (r.take 32),true,true,true,1⟩])) [(86,.bool false)]):=by
 obtain ⟨st,h1,k,rfl,h2,h3⟩:=Vi (T:=T) (base:=H.length) (id:=10) (body:=Qnj)
  (fun i st=>∃ k:List Nat,st=l0I R (mrs H) (.pointer (some ⟨H.length+(l.length+2),0,none⟩)) i (mH H z r (l++[⟨u8s k,true,true,true,1⟩])) []∧k.length=32∧∀ t,t<i→k[t]?=r[t]?)
  (Q:=fun st=>∃ k:List Nat,st=l0I R (mrs H) (.pointer (some ⟨H.length+(l.length+2),0,none⟩)) 32 (mH H z r (l++[⟨u8s k,true,true,true,1⟩])) [(86,.bool false)]∧k.length=32∧∀ t,t<32→k[t]?=r[t]?)
  32 (s:=l0I R (mrs H) (.pointer (some ⟨H.length+(l.length+2),0,none⟩)) 0 (mH H z r (l++[⟨u8s (dig 256 32 0),true,true,true,1⟩])) []) ⟨_,rfl,Km _ _ _,fun t ht=>by omega⟩
  (fun i st hi hs=>by
   obtain ⟨k,rfl,h2,h3⟩:=hs
   obtain ⟨x,hx⟩:∃ y,r[i]?=some y:=⟨_,Q3 (by omega)⟩
   have hx':=hlt x (Zp hx)
   have hxc:=Yy (k := .i64) hx
   have e1:((i:Int)<32)=True:=eq_true (by omega)
   have e2:((i:Int)<(33:Int))=True:=eq_true (by omega)
   have e3:((i:Int)<(32:Int))=True:=eq_true (by omega)
   have w1:IntKind.i64.wrap ((i:Int)+1)=((i+1:Nat):Int):=Yi (n:=i+1) (by omega)
   have w2:=Qry hx'
   have e5:i+1≤32:=by omega
   have hset:=Ba k i x
   refine ⟨_,?_,k.set i x,rfl,by rw [Jk]; exact h2,fun t ht => ?_⟩
   ·simp only [l0I,mH,mrs,Qnj,Zw,quiet,cF,↓pF,reduceCtorEq,Qb,Qq,Wg,X8,↓Zy,↓Zx,↓Z7,↓Jb,↓Z9,↓Ja,cL,Qp,Qo,Qy,Qx,Qv,Ql,Qk,Qw,Qc,Q1,Q2,Qr,Qg,Qi,Qh,Qu,Qt,Qs,Qn,Qd,cJ,Kc,e1,e2,e3,w1,w2,hxc,Zv,h2,e5,hset]
   ·by_cases hti:t=i
    ·subst hti
     rw [Jj (by omega),hx]
    ·rw [Z4 (by omega)]
     exact h3 t (by omega))
  (fun st hs=>by
   obtain ⟨k,rfl,h2,h3⟩:=hs
   refine ⟨_,?_,k,rfl,h2,h3⟩
   simp only [l0I,Qnj,Zw,quiet,cF,↓pF,reduceCtorEq,Qb,Qq,Wg,X8,↓Zy,↓Zx,↓Z7,↓Jb,↓Z9,↓Ja,cL,Qp,Qo,Qy,Qx,Qv,Ql,Qk,Qw,Qc,Q1,Q2,Qr,Qg,Qi,Qh,Qu,Qt,Qs,Qn,Qd])
 have hk:k=r.take 32:=by
  apply Wa
  intro t
  rw [Ks]
  by_cases ht:t<32
  ·rw [if_pos ht,h3 t ht]
  ·rw [if_neg ht,Xe (by omega)]
 rw [←hk]
 exact h1
theorem Qzs {H:List Ob} {id off c n:Nat} {ds:List Nat} (hsd:Sl .i64 H (.slice (some ⟨id,off,none⟩) n c) ds) (hN:n<2^40) (hlt:∀ x∈ds,x<256) :
  ∃ l,Yd T 124 [.slice (some ⟨id,off,none⟩) n c] H=some (.agg (u8s (dig 256 32 (num 256 ds%ell))).toArray,H++l,[]):=by
 have hz:Qa 32 (Value.int .u8 0)=u8s (dig 256 32 0):=rfl
 have hz33:(Qa 33 [Value.int .i64 0]).flatten=ns .i64 (Qa 33 0):=rfl
 have f0:fillL [Value.int .i64 0] [(0,1,.int .i64 0)]=some [.int .i64 0]:=rfl
 have f32:fillL (u8s (dig 256 32 0)) []=some (u8s (dig 256 32 0)):=rfl
 have hnl:n=ds.length:=(Ql2 hsd).choose_spec.2.2.1
 obtain ⟨s,l0,ho,hg⟩:=Qls (H++[⟨u8s (dig 256 32 0),true,true,true,1⟩,⟨ns .i64 (Qa 33 0),true,true,true,1⟩])
 obtain ⟨s',H',M,ha,hg',hM,hL,hK⟩:=M9 (x:=0) (bytes:=8) hg (by simp) (by rw [Qgs]; decide) (by decide)
 obtain ⟨l,rfl⟩:=B5 (H:=H++[⟨u8s (dig 256 32 0),true,true,true,1⟩,⟨ns .i64 (Qa 33 0),true,true,true,1⟩]) hL (fun i hi=>by rw [hK i hi,Qm hi])
 have hm:Jp H.length [] M=[]:=Xu fun i hi=>by have:=hM i hi; simp at this; omega
 obtain ⟨il,ol,cl,hs',hrow⟩:=hg'.sl.row (by simp [Qgs])
 have hil:H.length+2≤il:=by
  cases hg' with
  | own h _ _=>cases hs'; simpa using h
  | new h _ _=>cases hs'; simpa using h
 have hs33:(ordL++[0]).length=33:=Qek
 rw [hs33] at hs'
 have hsl0:Sl .i64 (mH H (dig 256 32 0) (Qa 33 0) l) (.slice (some ⟨il,ol,none⟩) 33 cl) ord33:=by
  have:=hg'.sl
  rw [hs'] at this
  have e:H++[⟨u8s (dig 256 32 0),true,true,true,1⟩,⟨ns .i64 (Qa 33 0),true,true,true,1⟩]++l=mH H (dig 256 32 0) (Qa 33 0) l:=by
   rw [Je]; rfl
  rw [e] at this
  exact this
 have hsl:∀ r,Sl .i64 (mH H (dig 256 32 0) r l) (.slice (some ⟨il,ol,none⟩) 33 cl) ord33:=fun r=>Q47 rfl (by omega) hsl0
 have hsd':∀ r,Sl .i64 (mH H (dig 256 32 0) r l) (.slice (some ⟨id,off,none⟩) n c) ds:=fun r=>hsd.app
 have hslA:∀ r,Sl .i64 (mH H (dig 256 32 0) r (l++[])) (.slice (some ⟨il,ol,none⟩) 33 cl) ord33:=fun r=>by rw [Xd]; exact hsl r
 have w0:IntKind.i64.wrap ((n:Int)-1)=(n:Int)-1:=Kn (by omega) (by omega)
 obtain ⟨st,hb,r,rfl,k1,k2,k3⟩:=Vi (T:=T) (base:=H.length) (id:=0) (body:=Qnh)
  (fun j st=>∃ r:List Nat,st=l3I (.pointer (some ⟨H.length,0,none⟩)) (.slice (some ⟨id,off,none⟩) n c) (.slice (some ⟨il,ol,none⟩) 33 cl) (mrs H) ((n:Int)-1-j) (mH H (dig 256 32 0) r l) []∧r.length=33∧(∀ x∈r,x<256)∧num 256 r=num 256 (ds.drop (n-j))%ell)
  (Q:=fun st=>∃ r:List Nat,st=l3I (.pointer (some ⟨H.length,0,none⟩)) (.slice (some ⟨id,off,none⟩) n c) (.slice (some ⟨il,ol,none⟩) 33 cl) (mrs H) (-1) (mH H (dig 256 32 0) r l) [(21,.bool false)]∧r.length=33∧(∀ x∈r,x<256)∧num 256 r=num 256 ds%ell)
  n (s:=l3I (.pointer (some ⟨H.length,0,none⟩)) (.slice (some ⟨id,off,none⟩) n c) (.slice (some ⟨il,ol,none⟩) 33 cl) (mrs H) ((n:Int)-1) (mH H (dig 256 32 0) (Qa 33 0) l) []) ⟨Qa 33 0,by rw [show ((n:Int)-1-((0:Nat):Int))=(n:Int)-1 by omega],by simp,by decide,by rw [Vv (by omega)]; decide⟩
  (fun j st hj hs=>by
   obtain ⟨r,rfl,k1,k2,k3⟩:=hs
   obtain ⟨i,hi⟩:∃ i,n-j=i+1:=⟨n-j-1,by omega⟩
   obtain ⟨x,hx⟩:∃ y,ds[i]?=some y:=⟨_,Q3 (by omega)⟩
   rw [hi] at k3
   obtain ⟨r',g1,g2,g3,g4⟩:=Q94 (R := .pointer (some ⟨H.length,0,none⟩)) hsl hsd' hN hx (hlt x (Zp hx)) k1 k2 k3
   rw [show (n:Int)-1-j=(i:Int) by omega]
   refine ⟨_,g1,r',?_,g2,g3,?_⟩
   ·rw [show (n:Int)-1-((j+1:Nat):Int)=(i:Int)-1 by omega]
   ·rw [show n-(j+1)=i by omega]; exact g4)
  (fun st hs=>by
   obtain ⟨r,rfl,k1,k2,k3⟩:=hs
   rw [Jw,Qz] at k3
   refine ⟨_,?_,r,rfl,k1,k2,k3⟩
   have e:((0:Int) ≤ -1)=False:=by decide
   rw [show (n:Int)-1-n = -1 by omega]
   simp only [l3I,Qnh,Zw,quiet,cF,↓pF,reduceCtorEq,Qb,Qq,Wg,X8,↓Zy,↓Zx,↓Z7,↓Jb,↓Z9,↓Ja,cL,Qp,Qo,Qy,Qx,Qv,Ql,Qk,Qw,Qc,Q1,Q2,Qr,Qg,Qi,Qh,Qu,Qt,Qs,Qn,Qd,e])
 have hb0:=Q5d (H:=H) (R := .pointer (some ⟨H.length,0,none⟩)) (z:=dig 256 32 0) (l:=l) k1 k2
 rw [(Zb9 k1 k2 k3).2] at hb0
 have hl32:(dig 256 32 (num 256 ds%ell)).length=32:=Km _ _ _
 have hl0:(dig 256 32 0).length=32:=rfl
 generalize dig 256 32 (num 256 ds%ell)=K at *
 simp only [l3I,l0I,mrs,mH,Ze,Q9,Je,hs',Zh,Jc,Jg,Z3,Qg,Kc,J6] at hb hb0 ha ho
 apply Zu
 rw [Zz (fn:=a43) rfl]
 simp only [a43,Zw,quiet,cF,↓pF,reduceCtorEq,Qb,Qq,Wg,X8,↓Zy,↓Zx,↓Z7,↓Jb,↓Z9,↓Ja,cL,Qp,Qo,Qy,Qx,Qv,Ql,Qk,Qw,Qc,Q1,Q2,Qr,Qg,Qi,Qh,Qu,Qt,Qs,Qn,Qd,cJ,Kc,hz,hz33,f0,f32,ho,ha,hm,w0,hb,l3I,mH,mrs,hb0,l0I,hl0,hl32,Zv,J0]
 rfl
def caI (a d:List Nat) (i:Int) (ex:Env):St:=⟨[(1,.pointer (some ⟨0,0,none⟩)),(3,.slice (some ⟨1,0,none⟩) 32 32),(4,.int .i64 i)]++ex,[⟨u8s a,true,true,true,1⟩,⟨ns .i64 d,true,true,true,1⟩],[]⟩
theorem Q6z {a d:List Nat} (la:a.length=32) (xa:∀ x∈a,x<256) (hd:d.length=32) :
  Jl T 0 (.block 0 (.loop Qnp)) (caI a d 0 [])=some (.normal,caI a a 32 [(7,.bool false)]):=by
 obtain ⟨st,h1,d',rfl,h2,h3⟩:=Vi (T:=T) (base:=0) (id:=0) (body:=Qnp)
  (fun i st=>∃ d':List Nat,st=caI a d' i []∧d'.length=32∧∀ t,t<i→d'[t]?=a[t]?)
  (Q:=fun st=>∃ d':List Nat,st=caI a d' 32 [(7,.bool false)]∧d'.length=32∧∀ t,t<32→d'[t]?=a[t]?)
  32 (s:=caI a d 0 []) ⟨d,rfl,hd,fun t ht=>by omega⟩
  (fun i st hi hs=>by
   obtain ⟨d',rfl,h2,h3⟩:=hs
   obtain ⟨x,hx⟩:∃ y,a[i]?=some y:=⟨_,Q3 (by omega)⟩
   have hx':=xa x (Zp hx)
   have hxc:=Wy hx
   have hset:=Bf .i64 d' i x
   have e1:((i:Int)<32)=True:=eq_true (by omega)
   have e2:((i:Int)<(32:Int))=True:=eq_true (by omega)
   have w1:IntKind.i64.wrap ((i:Int)+1)=((i+1:Nat):Int):=Yi (n:=i+1) (by omega)
   have w3:IntKind.i64.wrap (x:Int)=(x:Int):=Yi (by omega)
   have e8:i+1≤32:=by omega
   refine ⟨_,?_,d'.set i x,rfl,by rw [Jk]; exact h2,fun t ht => ?_⟩
   ·simp only [caI,Qnp,Zw,quiet,cF,↓pF,reduceCtorEq,Qb,Qq,Wg,X8,↓Zy,↓Zx,↓Z7,↓Jb,↓Z9,↓Ja,cL,Qp,Qo,Qy,Qx,Qv,Ql,Qk,Qw,Qc,Q1,Q2,Qr,Qg,Qi,Qh,Qu,Qt,Qs,Qn,Qd,cJ,Kc,e1,e2,e8,w1,w3,hxc,hset,J0,h2]
   ·by_cases hti:t=i
    ·subst hti
     rw [Jj (by omega),hx]
    ·rw [Z4 (by omega)]
     exact h3 t (by omega))
  (fun st hs=>by
   obtain ⟨d',rfl,h2,h3⟩:=hs
   refine ⟨_,?_,d',rfl,h2,h3⟩
   simp only [caI,Qnp,Zw,quiet,cF,↓pF,reduceCtorEq,Qb,Qq,Wg,X8,↓Zy,↓Zx,↓Z7,↓Jb,↓Z9,↓Ja,cL,Qp,Qo,Qy,Qx,Qv,Ql,Qk,Qw,Qc,Q1,Q2,Qr,Qg,Qi,Qh,Qu,Qt,Qs,Qn,Qd])
 have:d'=a:=by
  apply Wa
  intro t
  by_cases ht:t<32
  ·exact h3 t ht
  ·rw [Xe (by omega),Xe (by omega)]
 rw [this] at h1
 exact h1
theorem Qjw {a:List Nat} (la:a.length=32) (xa:∀ x∈a,x<256):∃ l,Yd T 57 [.agg (u8s a).toArray] []=some (.bool (decide (num 256 a<ell)),l,[]):=by
 have hz32:(Qa 32 [Value.int .i64 0]).flatten=ns .i64 (Qa 32 0):=rfl
 have h1:=Q6z la xa (d:=Qa 32 0) (by simp)
 obtain ⟨s,l,ho,hg⟩:=Qls [⟨u8s a,true,true,true,1⟩,⟨ns .i64 a,true,true,true,1⟩]
 have hsl:=Sl.mk (k := .i64) (H:=[⟨u8s a,true,true,true,1⟩,⟨ns .i64 a,true,true,true,1⟩]++l) (id:=1) (off:=0) (c:=32) (o:=⟨ns .i64 a,true,true,true,1⟩) (l:=a) (by simp [liveAt]) (by simp [J0]) (fun i x hx=>by rw [Z3]; exact Yy hx)
 rw [la] at hsl
 have hless:=Qlb hsl hg.sl la Qgs (by decide) (by decide) xa Qx8
 rw [Qsq] at hless
 simp only [caI,Ze,Q9] at h1 ho hless
 apply Zu
 rw [Zz (fn:=a22) rfl]
 simp only [a22,Zw,quiet,cF,↓pF,reduceCtorEq,Qb,Qq,Wg,X8,↓Zy,↓Zx,↓Z7,↓Jb,↓Z9,↓Ja,cL,Qp,Qo,Qy,Qx,Qv,Ql,Qk,Qw,Qc,Q1,Q2,Qr,Qg,Qi,Qh,Qu,Qt,Qs,Qn,Qd,cJ,Kc,hz32,h1,ho,hless]
 rfl
end Go.Ev.YtpgphpkjlpkcbaaGreat
namespace Go.Ev
def Ua (bs:List Nat):Value := .string ⟨(bs.map UInt8.ofNat).toArray⟩
theorem Qgd {bs:List Nat}:vLen true (Ua bs)=some (.int .i64 bs.length):=by simp [Ua,vLen,ByteArray.size]
theorem Qva {bs:List Nat} {i x:Nat} (h:bs[i]?=some x) (hx:x<256):Qeb (Ua bs) (.int .i64 i)=some (.int .u8 (x:Nat)):=by
 have h1:((bs.map UInt8.ofNat).toArray.toList)[i]?=some (UInt8.ofNat x):=by simp [h]
 have h2:((0:Int)≤(i:Int)):=by omega
 have h3:(UInt8.ofNat x).toNat=x:=by rw [UInt8.toNat_ofNat']; omega
 simp only [Ua,Qeb,h2,if_true,Jr,h1,Zb,h3]
theorem Qg7:∀ (bs:List Nat),Bv (u8s bs)=some (bs.map UInt8.ofNat)
 | []=>rfl
 | x::r=>by
  have:=Qg7 r
  simp only [u8s,W7,Bv,Jr] at this ⊢
  rw [this]; rfl
end Go.Ev
namespace Go.Ev.YtpgphpkjlpkcbaaGreat
open Go Go.Ev
attribute [local congr] W5 Up W4 Uq Wo
set_option maxRecDepth 100000
def rrI (bs d:List Nat) (n:Nat) (i:Int) (ex:Env):St:=⟨[(0,Ua bs),(2,.pointer (some ⟨0,0,none⟩)),(3,.slice (some ⟨1,0,none⟩) n n),(4,.int .i64 i)]++ex,[⟨u8s (dig 256 32 0),true,true,true,1⟩,⟨ns .i64 d,true,true,true,1⟩],[]⟩
theorem Q3d {bs d:List Nat} {n:Nat} (hn:bs.length=n) (hN:n<2^40) (xb:∀ x∈bs,x<256) (hd:d.length=n) :
  Jl T 0 (.block 0 (.loop Qnq)) (rrI bs d n 0 [])=some (.normal,rrI bs bs n n [(11,.bool false)]):=by
 obtain ⟨st,h1,d',rfl,h2,h3⟩:=Vi (T:=T) (base:=0) (id:=0) (body:=Qnq)
  (fun i st=>∃ d':List Nat,st=rrI bs d' n i []∧d'.length=n∧∀ t,t<i→d'[t]?=bs[t]?)
  (Q:=fun st=>∃ d':List Nat,st=rrI bs d' n n [(11,.bool false)]∧d'.length=n∧∀ t,t<n→d'[t]?=bs[t]?)
  n (s:=rrI bs d n 0 []) ⟨d,rfl,hd,fun t ht=>by omega⟩
  (fun i st hi hs=>by
   obtain ⟨d',rfl,h2,h3⟩:=hs
   obtain ⟨x,hx⟩:∃ y,bs[i]?=some y:=⟨_,Q3 (by omega)⟩
   have hx':=xb x (Zp hx)
   have hxi:=Qva hx hx'
   have hset:=Bf .i64 d' i x
   have hl:=Qgd (bs:=bs)
   rw [hn] at hl
   have e1:((i:Int)<(n:Int))=True:=eq_true (by omega)
   have w1:IntKind.i64.wrap ((i:Int)+1)=((i+1:Nat):Int):=Yi (n:=i+1) (by omega)
   have w3:IntKind.i64.wrap (x:Int)=(x:Int):=Yi (by omega)
   have e8:i+1≤n:=by omega
   refine ⟨_,?_,d'.set i x,rfl,by rw [Jk]; exact h2,fun t ht => ?_⟩
   ·simp only [rrI,Qnq,Zw,quiet,cF,↓pF,reduceCtorEq,Qb,Qq,Wg,X8,↓Zy,↓Zx,↓Z7,↓Jb,↓Z9,↓Ja,cL,Qp,Qo,Qy,Qx,Qv,Ql,Qk,Qw,Qc,Q1,Q2,Qr,Qg,Qi,Qh,Qu,Qt,Qs,Qn,Qd,cJ,Kc,hl,hxi,e1,e8,w1,w3,hset,J0,h2]
   ·by_cases hti:t=i
    ·subst hti
     rw [Jj (by omega),hx]
    ·rw [Z4 (by omega)]
     exact h3 t (by omega))
  (fun st hs=>by
   obtain ⟨d',rfl,h2,h3⟩:=hs
   have hl:=Qgd (bs:=bs)
   rw [hn] at hl
   refine ⟨_,?_,d',rfl,h2,h3⟩
   simp only [rrI,Qnq,Zw,quiet,cF,↓pF,reduceCtorEq,Qb,Qq,Wg,X8,↓Zy,↓Zx,↓Z7,↓Jb,↓Z9,↓Ja,cL,Qp,Qo,Qy,Qx,Qv,Ql,Qk,Qw,Qc,Q1,Q2,Qr,Qg,Qi,Qh,Qu,Qt,Qs,Qn,Qd,hl])
 have:d'=bs:=by
  apply Wa
  intro t
  by_cases ht:t<n
  ·exact h3 t ht
  ·rw [Xe (by omega),Xe (by omega)]
 rw [this] at h1
 exact h1
theorem Quw (n:Nat):(Qa n [Value.int .i64 0]).flatten=ns .i64 (Qa n 0):=by
 induction n with
 | zero=>rfl
 | succ n ih=>rw [Bi,Xs,ih,Bi]; rfl
theorem Qqh {bs:List Nat} {n:Nat} (hn:bs.length=n) (hN:n<2^40) (xb:∀ x∈bs,x<256):∃ l,Yd T 117 [Ua bs] []=some (.agg (u8s (rd bs)).toArray,l,[]):=by
 have hz:Qa 32 (Value.int .u8 0)=u8s (dig 256 32 0):=rfl
 have hl:=Qgd (bs:=bs)
 rw [hn] at hl
 have h1:=Q3d hn hN xb (d:=Qa n 0) (by simp)
 have hsl:=Sl.mk (k := .i64) (H:=[⟨u8s (dig 256 32 0),true,true,true,1⟩,⟨ns .i64 bs,true,true,true,1⟩]) (id:=1) (off:=0) (c:=n) (o:=⟨ns .i64 bs,true,true,true,1⟩) (l:=bs) (by simp [liveAt]) (by simp [J0]) (fun i x hx=>by rw [Z3]; exact Yy hx)
 rw [hn] at hsl
 obtain ⟨l,hm⟩:=Qzs hsl hN xb
 rw [Zc5] at hm
 have e1:((n:Int)*((8:Nat):Int)≤2^47)=True:=eq_true (by omega)
 simp only [U0,Qr] at e1
 simp only [rrI,Ze,Q9,J6] at h1 hm
 apply Zu
 rw [Zz (fn:=a18) rfl]
 simp only [a18,Zw,quiet,cF,↓pF,reduceCtorEq,Qb,Qq,Wg,X8,↓Zy,↓Zx,↓Z7,↓Jb,↓Z9,↓Ja,cL,Qp,Qo,Qy,Qx,Qv,Ql,Qk,Qw,Qc,Q1,Q2,Qr,Qg,Qi,Qh,Qu,Qt,Qs,Qn,Qd,cJ,Kc,hz,hl,e1,Quw,h1,hm,Zv,Qvo,Km]
 rfl
end Go.Ev.YtpgphpkjlpkcbaaGreat
namespace Go.Ev.YtpgphpkjlpkcbaaGreat
open Go Go.Ev Go.Proofs
set_option maxRecDepth 100000
theorem Yz {n : Nat} {fn : Func} {a : AFun} (h : Tryz.prog.funcs[n]? = some fn) (e : (compFun Tryz.prog fn, fn.name == "runtime.NumGoroutine") = (some a.strip, false)) : ∃ fn, Tryz.prog.funcs[n]? = some fn ∧ compFun Tryz.prog fn = some a.strip ∧ (fn.name == "runtime.NumGoroutine") = false := ⟨fn, h, congrArg Prod.fst e, congrArg Prod.snd e⟩
theorem Qw4 (args:Array Value) (w:World):(callFunc 159 args).run Tryz.prog w=(((do
  let (x, y, c) ← Extern.MathBitsCarry.three "Add64" args
  pure (Extern.MathBitsCarry.pair ((x+y+c)%Extern.MathBitsCarry.m64) ((x+y+c)/Extern.MathBitsCarry.m64))):Sem Value).run Tryz.prog w).andThen fun v w'=>.ok (.value v) w' :=
 run_callFunc_extern (e:=fun args=>do
  let (x, y, c) ← Extern.MathBitsCarry.three "Add64" args
  pure (Extern.MathBitsCarry.pair ((x+y+c)%Extern.MathBitsCarry.m64) ((x+y+c)/Extern.MathBitsCarry.m64))) Tryz.func159 (by kernel_rfl) (by kernel_rfl) (by kernel_rfl) (by kernel_rfl) args w
theorem Qzl (P:Program) (w:World) (x y c:Int) (hc:c.toNat≤1):(((do
  let (x, y, c) ← Extern.MathBitsCarry.three "Add64" [Value.int .u64 x, .int .u64 y, .int .u64 c].toArray
  pure (Extern.MathBitsCarry.pair ((x+y+c)%Extern.MathBitsCarry.m64) ((x+y+c)/Extern.MathBitsCarry.m64))):Sem Value).run P w)=.ok (.tuple #[.int .u64 ((x.toNat+y.toNat+c.toNat)%18446744073709551616:Nat),.int .u64 ((x.toNat+y.toNat+c.toNat)/18446744073709551616:Nat)]) w:=by
 have hc':¬ c.toNat>1:=by omega
 have e : Extern.MathBitsCarry.three "Add64" [Value.int .u64 x, .int .u64 y, .int .u64 c].toArray = (if c.toNat > 1 then (do unsupported (.noEntry ("extern/math/bits." ++ "Add64" ++ ": a carry that is neither 0 nor 1")); pure (x.toNat, y.toNat, c.toNat)) else pure (x.toNat, y.toNat, c.toNat) : Sem (Nat × Nat × Nat)) := by
  rfl
 rw [e,if_neg hc']
 rfl
theorem Zcx (f:Nat) (args:List Value) (v:Value) (h:T.ext f args=some v):(∀ ρ,VRel ρ v v)∧∀ w,(callFunc f args.toArray).run Tryz.prog w=.ok (.value v) w:=by
 have h':Zat f args=some v:=h
 unfold Zat at h'
 split at h'
 ·split at h'
  ·rename_i hc
   cases h'
   refine ⟨fun ρ=>VRel.tuple (.cons (.same rfl) (.cons (.same rfl) .nil)),fun w => ?_⟩
   rw [Qw4,Qzl _ _ _ _ _ hc]
   rfl
  ·cases h'
 ·cases h'
theorem tabOk:TabOk Tryz.prog T:=by
 refine ⟨fun f af h => ?_,fun f args v _ h _=>Zcx f args v h⟩
 have h':fnS f=some af:=h
 unfold fnS at h'
 split at h'
 ·cases h'; exact Yz Tryz.func71 (by kernel_rfl)
 ·cases h'; exact Yz Tryz.func101 (by kernel_rfl)
 ·cases h'; exact Yz Tryz.func117 (by kernel_rfl)
 ·cases h'; exact Yz Tryz.func65 (by kernel_rfl)
 ·cases h'; exact Yz Tryz.func47 (by kernel_rfl)
 ·cases h'; exact Yz Tryz.func57 (by kernel_rfl)
 ·cases h'; exact Yz Tryz.func115 (by kernel_rfl)
 ·cases h'; exact Yz Tryz.func50 (by kernel_rfl)
 ·cases h'; exact Yz Tryz.func51 (by kernel_rfl)
 ·cases h'; exact Yz Tryz.func49 (by kernel_rfl)
 ·cases h'; exact Yz Tryz.func94 (by kernel_rfl)
 ·cases h'; exact Yz Tryz.func53 (by kernel_rfl)
 ·cases h'; exact Yz Tryz.func96 (by kernel_rfl)
 ·cases h'; exact Yz Tryz.func45 (by kernel_rfl)
 ·cases h'; exact Yz Tryz.func54 (by kernel_rfl)
 ·cases h'; exact Yz Tryz.func55 (by kernel_rfl)
 ·cases h'; exact Yz Tryz.func52 (by kernel_rfl)
 ·cases h'; exact Yz Tryz.func61 (by kernel_rfl)
 ·cases h'; exact Yz Tryz.func62 (by kernel_rfl)
 ·cases h'; exact Yz Tryz.func60 (by kernel_rfl)
 ·cases h'; exact Yz Tryz.func56 (by kernel_rfl)
 ·cases h'; exact Yz Tryz.func46 (by kernel_rfl)
 ·cases h'; exact Yz Tryz.func97 (by kernel_rfl)
 ·cases h'; exact Yz Tryz.func120 (by kernel_rfl)
 ·cases h'; exact Yz Tryz.func121 (by kernel_rfl)
 ·cases h'; exact Yz Tryz.func124 (by kernel_rfl)
 ·cases h'; exact Yz Tryz.func118 (by kernel_rfl)
 ·cases h'; exact Yz Tryz.func119 (by kernel_rfl)
 ·cases h'; exact Yz Tryz.func98 (by kernel_rfl)
 ·cases h'; exact Yz Tryz.func99 (by kernel_rfl)
 ·cases h'; exact Yz Tryz.func114 (by kernel_rfl)
 ·cases h'; exact Yz Tryz.func72 (by kernel_rfl)
 ·cases h'; exact Yz Tryz.func73 (by kernel_rfl)
 ·cases h'; exact Yz Tryz.func76 (by kernel_rfl)
 ·cases h'; exact Yz Tryz.func91 (by kernel_rfl)
 ·cases h'; exact Yz Tryz.func95 (by kernel_rfl)
 ·cases h'; exact Yz Tryz.func102 (by kernel_rfl)
 ·cases h'; exact Yz Tryz.func146 (by kernel_rfl)
 ·cases h'; exact Yz Tryz.func77 (by kernel_rfl)
 ·cases h'; exact Yz Tryz.func78 (by kernel_rfl)
 ·cases h'; exact Yz Tryz.func103 (by kernel_rfl)
 ·cases h'; exact Yz Tryz.func87 (by kernel_rfl)
 ·cases h'; exact Yz Tryz.func88 (by kernel_rfl)
 ·cases h'; exact Yz Tryz.func89 (by kernel_rfl)
 ·cases h'; exact Yz Tryz.func90 (by kernel_rfl)
 ·cases h'; exact Yz Tryz.func92 (by kernel_rfl)
 ·cases h'; exact Yz Tryz.func93 (by kernel_rfl)
 ·cases h'; exact Yz Tryz.func104 (by kernel_rfl)
 ·cases h'; exact Yz Tryz.func105 (by kernel_rfl)
 ·cases h'; exact Yz Tryz.func106 (by kernel_rfl)
 ·cases h'; exact Yz Tryz.func107 (by kernel_rfl)
 ·cases h'; exact Yz Tryz.func108 (by kernel_rfl)
 ·cases h'; exact Yz Tryz.func109 (by kernel_rfl)
 ·cases h'; exact Yz Tryz.func110 (by kernel_rfl)
 ·cases h'; exact Yz Tryz.func111 (by kernel_rfl)
 ·cases h'; exact Yz Tryz.func112 (by kernel_rfl)
 ·cases h'; exact Yz Tryz.func113 (by kernel_rfl)
 ·cases h'; exact Yz Tryz.func147 (by kernel_rfl)
 ·cases h'; exact Yz Tryz.func157 (by kernel_rfl)
 ·cases h'; exact Yz Tryz.func127 (by kernel_rfl)
 ·cases h'; exact Yz Tryz.func128 (by kernel_rfl)
 ·cases h'; exact Yz Tryz.func129 (by kernel_rfl)
 ·cases h'; exact Yz Tryz.func130 (by kernel_rfl)
 ·cases h'; exact Yz Tryz.func131 (by kernel_rfl)
 ·cases h'; exact Yz Tryz.func126 (by kernel_rfl)
 ·cases h'; exact Yz Tryz.func132 (by kernel_rfl)
 ·cases h'; exact Yz Tryz.func133 (by kernel_rfl)
 ·cases h'; exact Yz Tryz.func151 (by kernel_rfl)
 ·cases h'; exact Yz Tryz.func152 (by kernel_rfl)
 ·cases h'; exact Yz Tryz.func153 (by kernel_rfl)
 ·cases h'; exact Yz Tryz.func154 (by kernel_rfl)
 ·cases h'; exact Yz Tryz.func155 (by kernel_rfl)
 ·cases h'; exact Yz Tryz.func156 (by kernel_rfl)
 ·cases h'; exact Yz Tryz.func158 (by kernel_rfl)
 ·cases h'; exact Yz Tryz.func163 (by kernel_rfl)
 ·cases h'; exact Yz Tryz.func31 (by kernel_rfl)
 ·cases h'; exact Yz Tryz.func27 (by kernel_rfl)
 ·cases h'; exact Yz Tryz.func35 (by kernel_rfl)
 ·cases h'; exact Yz Tryz.func64 (by kernel_rfl)
 ·cases h'; exact Yz Tryz.func48 (by kernel_rfl)
 ·cases h'; exact Yz Tryz.func100 (by kernel_rfl)
 ·cases h'; exact Yz Tryz.func148 (by kernel_rfl)
 ·cases h'; exact Yz Tryz.func149 (by kernel_rfl)
 ·cases h'; exact Yz Tryz.func150 (by kernel_rfl)
 ·cases h'; exact Yz Tryz.func137 (by kernel_rfl)
 ·cases h'; exact Yz Tryz.func162 (by kernel_rfl)
 ·cases h'; exact Yz Tryz.func139 (by kernel_rfl)
 ·cases h'; exact Yz Tryz.func164 (by kernel_rfl)
 ·cases h'; exact Yz Tryz.func161 (by kernel_rfl)
 ·cases h'; exact Yz Tryz.func29 (by kernel_rfl)
 ·cases h'; exact Yz Tryz.func58 (by kernel_rfl)
 ·cases h'; exact Yz Tryz.func59 (by kernel_rfl)
 ·cases h'; exact Yz Tryz.func116 (by kernel_rfl)
 ·cases h'; exact Yz Tryz.func86 (by kernel_rfl)
 ·cases h'; exact Yz Tryz.func141 (by kernel_rfl)
 ·cases h'; exact Yz Tryz.func142 (by kernel_rfl)
 ·cases h'; exact Yz Tryz.func143 (by kernel_rfl)
 ·cases h'; exact Yz Tryz.func144 (by kernel_rfl)
 ·cases h'; exact Yz Tryz.func145 (by kernel_rfl)
 ·cases h'; exact Yz Tryz.func7 (by kernel_rfl)
 ·cases h'; exact Yz Tryz.func15 (by kernel_rfl)
 ·cases h'; exact Yz Tryz.func8 (by kernel_rfl)
 ·cases h'; exact Yz Tryz.func13 (by kernel_rfl)
 ·cases h'; exact Yz Tryz.func20 (by kernel_rfl)
 ·cases h'; exact Yz Tryz.func22 (by kernel_rfl)
 ·cases h'; exact Yz Tryz.func11 (by kernel_rfl)
 ·cases h'; exact Yz Tryz.func28 (by kernel_rfl)
 ·cases h'; exact Yz Tryz.func23 (by kernel_rfl)
 ·cases h'; exact Yz Tryz.func24 (by kernel_rfl)
 ·cases h'; exact Yz Tryz.func37 (by kernel_rfl)
 ·cases h'; exact Yz Tryz.func38 (by kernel_rfl)
 ·cases h'; exact Yz Tryz.func39 (by kernel_rfl)
 ·cases h'; exact Yz Tryz.func40 (by kernel_rfl)
 ·cases h'; exact Yz Tryz.func74 (by kernel_rfl)
 ·cases h'; exact Yz Tryz.func75 (by kernel_rfl)
 ·cases h'; exact Yz Tryz.func79 (by kernel_rfl)
 ·cases h'; exact Yz Tryz.func80 (by kernel_rfl)
 ·cases h'; exact Yz Tryz.func81 (by kernel_rfl)
 ·cases h'; exact Yz Tryz.func82 (by kernel_rfl)
 ·cases h'; exact Yz Tryz.func83 (by kernel_rfl)
 ·cases h'; exact Yz Tryz.func125 (by kernel_rfl)
 ·cases h'; exact Yz Tryz.func134 (by kernel_rfl)
 ·cases h'; exact Yz Tryz.func135 (by kernel_rfl)
 ·cases h'; exact Yz Tryz.func136 (by kernel_rfl)
 ·cases h'; exact Yz Tryz.func138 (by kernel_rfl)
 ·cases h'; exact Yz Tryz.func160 (by kernel_rfl)
 ·cases h'; exact Yz Tryz.func5 (by kernel_rfl)
 ·cases h'; exact Yz Tryz.func10 (by kernel_rfl)
 ·cases h'; exact Yz Tryz.func12 (by kernel_rfl)
 ·cases h'; exact Yz Tryz.func19 (by kernel_rfl)
 ·cases h'; exact Yz Tryz.func30 (by kernel_rfl)
 ·cases h'; exact Yz Tryz.func42 (by kernel_rfl)
 ·cases h'; exact Yz Tryz.func63 (by kernel_rfl)
 ·cases h'
theorem mixed:Tryz.prog.follows .mixedOrders=true:=by kernel_rfl
end Go.Ev.YtpgphpkjlpkcbaaGreat
namespace Go.Ev
open Go.RowKit Go.WideShapes Go.ChangeShapes
theorem Qz2 {P:Program} {w:World} {r:Reach} {base:Nat} {t e:TypeId} {v:Value} {m n:Nat} {e':TypeId} (ht:P.underlying t=some (.array m e')) (hc:P.cellsOf t=n) (hts:P.cellTypes P.depth t=some (Qa n e)) (he:P.underlying e=some (.int .u8)) (hn:0<n)
  (h:Value.okWide P w r base t v):∃ l:List Nat,v=.agg (u8s l).toArray∧l.length=n∧∀ x∈l,x<256:=by
 simp only [Value.okWide,ht] at h
 obtain ⟨cs,rfl,h1,ts,h2,-,h3⟩:=h
 rw [hc] at h1
 rw [hts] at h2
 cases h2
 have hcell:∀ (i:Nat) (v:Value),cs[i]?=some v→∃ x:Nat,v=Value.int .u8 (x:Nat)∧x<256:=by
  intro i v hv
  obtain ⟨u,g1,g2⟩:=h3 i v hv
  have hu:u=e:=by
   have:=Zp g1
   exact Qfc this
  subst hu
  simp only [Cell.okWide,Cell.ok,he] at g2
  cases v<;>try (exact g2.elim)
  ·rename_i k x
   obtain ⟨rfl,g3,g4⟩:=g2
   have g3':(0:Int)≤x:=g3
   have g4':x≤255:=g4
   exact ⟨x.toNat,by rw [Int.toNat_of_nonneg g3'],by omega⟩
 refine ⟨cs.toList.map fun v=>match v with | .int _ n=>n.toNat | _=>0,?_,by simp [h1],?_⟩
 ·congr 1
  apply Gb
  intro i
  simp only [u8s,Qcr,Hh,U4,Yo]
  cases hv:cs[i]? with
  | none=>rfl
  | some v =>
   obtain ⟨x,rfl,hx⟩:=hcell i v hv
   simp
 ·intro x hx
  simp only [Bd] at hx
  obtain ⟨v,hv,rfl⟩:=hx
  obtain ⟨i,hi⟩:=Qae.1 hv
  rw [Yo] at hi
  obtain ⟨x,rfl,hx⟩:=hcell i v hi
  simpa using hx
theorem Qz3 {P:Program} {w:World} {r:Reach} {base:Nat} {t e:TypeId} {v:Value} {n:Nat} (ht:(match P.underlying t with | some (.struct _) | some (.array _ _)=>true | _=>false)=true) (hc:P.cellsOf t=n) (hts:P.cellTypes P.depth t=some (Qa n e)) (he:P.underlying e=some (.int .u8)) (hn:0<n)
  (h:Value.okWide P w r base t v):∃ l:List Nat,v=.agg (u8s l).toArray∧l.length=n∧∀ x∈l,x<256:=by
 have h':∃ cs,v=.agg cs∧cs.size=P.cellsOf t∧Row.okWide P w r base t cs:=by
  unfold Value.okWide at h
  split at ht
  ·rename_i e; rw [e] at h; exact h
  ·rename_i e; rw [e] at h; exact h
  ·cases ht
 obtain ⟨cs,rfl,h1,ts,h2,-,h3⟩:=h'
 rw [hc] at h1
 rw [hts] at h2
 cases h2
 have hcell:∀ (i:Nat) (v:Value),cs[i]?=some v→∃ x:Nat,v=Value.int .u8 (x:Nat)∧x<256:=by
  intro i v hv
  obtain ⟨u,g1,g2⟩:=h3 i v hv
  have hu:u=e:=by
   have:=Zp g1
   exact Qfc this
  subst hu
  simp only [Cell.okWide,Cell.ok,he] at g2
  cases v<;>try (exact g2.elim)
  ·rename_i k x
   obtain ⟨rfl,g3,g4⟩:=g2
   have g3':(0:Int)≤x:=g3
   have g4':x≤255:=g4
   exact ⟨x.toNat,by rw [Int.toNat_of_nonneg g3'],by omega⟩
 refine ⟨cs.toList.map fun v=>match v with | .int _ n=>n.toNat | _=>0,?_,by simp [h1],?_⟩
 ·congr 1
  apply Gb
  intro i
  simp only [u8s,Qcr,Hh,U4,Yo]
  cases hv:cs[i]? with
  | none=>rfl
  | some v =>
   obtain ⟨x,rfl,hx⟩:=hcell i v hv
   simp
 ·intro x hx
  simp only [Bd] at hx
  obtain ⟨v,hv,rfl⟩:=hx
  obtain ⟨i,hi⟩:=Qae.1 hv
  rw [Yo] at hi
  obtain ⟨x,rfl,hx⟩:=hcell i v hi
  simpa using hx
theorem open_ints {P:Program} {w:World} {r:Reach} {base:Nat} {t e:TypeId} {v:Value} {n:Nat} {k:IntKind} (ht:(match P.underlying t with | some (.struct _) | some (.array _ _)=>true | _=>false)=true) (hc:P.cellsOf t=n) (hts:P.cellTypes P.depth t=some (Qa n e)) (he:P.underlying e=some (.int k))
  (h:Value.okWide P w r base t v):∃ l:List Int,v=.agg (l.map fun x=>Value.int k x).toArray∧l.length=n∧∀ x∈l,k.min≤x∧x≤k.max:=by
 have h':∃ cs,v=.agg cs∧cs.size=P.cellsOf t∧Row.okWide P w r base t cs:=by
  unfold Value.okWide at h
  split at ht
  ·rename_i e; rw [e] at h; exact h
  ·rename_i e; rw [e] at h; exact h
  ·cases ht
 obtain ⟨cs,rfl,h1,ts,h2,-,h3⟩:=h'
 rw [hc] at h1
 rw [hts] at h2
 cases h2
 have hcell:∀ (i:Nat) (v:Value),cs[i]?=some v→∃ x:Int,v=Value.int k x∧k.min≤x∧x≤k.max:=by
  intro i v hv
  obtain ⟨u,g1,g2⟩:=h3 i v hv
  have hu:u=e:=Qfc (Zp g1)
  subst hu
  simp only [Cell.okWide,Cell.ok,he] at g2
  cases v<;>try (exact g2.elim)
  ·rename_i k x
   obtain ⟨rfl,g3,g4⟩:=g2
   exact ⟨x,rfl,g3,g4⟩
 refine ⟨cs.toList.map fun v=>match v with | .int _ n=>n | _=>0,?_,by simp [h1],?_⟩
 ·congr 1
  apply Gb
  intro i
  simp only [Qcr,Hh,U4,Yo]
  cases hv:cs[i]? with
  | none=>rfl
  | some v =>
   obtain ⟨x,rfl,hx⟩:=hcell i v hv
   simp
 ·intro x hx
  simp only [Bd] at hx
  obtain ⟨v,hv,rfl⟩:=hx
  obtain ⟨i,hi⟩:=Qae.1 hv
  rw [Yo] at hi
  obtain ⟨x,rfl,hx⟩:=hcell i v hi
  exact hx
theorem Q5m {k:IntKind} {l:List Int} (h:l.length=2):∃ a b,l=[a,b]:=by
 match l,h with
 | [a,b],_=>exact ⟨a,b,rfl⟩
theorem Q3n {k j:IntKind} {a b:Int}:rf (.agg #[.int k a,.int j b])=true:=rfl
theorem Qvn {k j:IntKind} {a b:Int}:Qbp (.agg #[.int k a,.int j b])=true:=rfl
end Go.Ev
namespace Go.Ev
theorem n_add (a b:Nat):(a:Int)+(b:Int)=((a+b:Nat):Int):=(Gw a b).symm
theorem n_mul (a b:Nat):(a:Int)*(b:Int)=((a*b:Nat):Int):=(U1 a b).symm
theorem Zdw (n a:Nat):(no_index (@OfNat.ofNat Int n instOfNat))+(a:Int)=((n+a:Nat):Int):=(Gw n a).symm
theorem Zdx (n a:Nat):(a:Int)+(no_index (@OfNat.ofNat Int n instOfNat))=((a+n:Nat):Int):=(Gw a n).symm
theorem Zdv (n a:Nat):(no_index (@OfNat.ofNat Int n instOfNat))*(a:Int)=((n*a:Nat):Int):=(U1 n a).symm
theorem Zdu (n a:Nat):(a:Int)*(no_index (@OfNat.ofNat Int n instOfNat))=((a*n:Nat):Int):=(U1 a n).symm
theorem Qit (a b:Nat):Qc3 (a:Int) (b:Int)=((a/b:Nat):Int):=by
 rw [Ub _ (Jq _)]; rfl
theorem Q9p (a n:Nat):Qc3 (a:Int) (no_index (@OfNat.ofNat Int n instOfNat))=((a/n:Nat):Int):=Qit a n
theorem Zdt (a n:Nat):Int.tdiv (a:Int) (no_index (@OfNat.ofNat Int n instOfNat))=((a/n:Nat):Int):=rfl
theorem Zds (a n:Nat):Int.tmod (a:Int) (no_index (@OfNat.ofNat Int n instOfNat))=((a%n:Nat):Int):=rfl
theorem Qfi (a:Nat):IntKind.u64.wrap (a:Int)=((a%18446744073709551616:Nat):Int):=by rw [Tm]; omega
theorem Qly (a:Nat):IntKind.u32.wrap (a:Int)=((a%4294967296:Nat):Int):=by rw [wrap_u32]; omega
theorem n_w16 (a:Nat):IntKind.u16.wrap (a:Int)=((a%65536:Nat):Int):=by rw [Q1z]; omega
theorem Qcf (a:Nat):IntKind.u8.wrap (a:Int)=((a%256:Nat):Int):=by rw [wrap_u8]; omega
theorem Qqy (a b:Nat):IntKind.u64.wrap ((a:Int)-(b:Int))=(((a+(18446744073709551616-b%18446744073709551616))%18446744073709551616:Nat):Int):=by rw [Tm]; omega
theorem Q41 (n b:Nat):IntKind.u64.wrap ((no_index (@OfNat.ofNat Int n instOfNat))-(b:Int))=(((n+(18446744073709551616-b%18446744073709551616))%18446744073709551616:Nat):Int):=Qqy n b
theorem Q40 (a n:Nat):IntKind.u64.wrap ((a:Int)-(no_index (@OfNat.ofNat Int n instOfNat)))=(((a+(18446744073709551616-n%18446744073709551616))%18446744073709551616:Nat):Int):=Qqy a n
theorem Qlv (w a:Nat):BitVec.ofInt w (a:Int)=BitVec.ofNat w a:=by simp
theorem n_and (k:IntKind) (hk:k.signed=false) (a b:Nat):Vx .and k (a:Int) (b:Int)=(((a%2^k.bits)&&&(b%2^k.bits):Nat):Int):=by
 simp only [Vx,Qlv]
 rw [BitVec.toNat_and,BitVec.toNat_ofNat,BitVec.toNat_ofNat,Uu hk (Ga _ (Jo _ (Us (by decide))))]
theorem n_or (k:IntKind) (hk:k.signed=false) (a b:Nat):Vx .or k (a:Int) (b:Int)=(((a%2^k.bits)|||(b%2^k.bits):Nat):Int):=by
 simp only [Vx,Qlv]
 rw [BitVec.toNat_or,BitVec.toNat_ofNat,BitVec.toNat_ofNat,Uu hk (Hy (Jo _ (Us (by decide))) (Jo _ (Us (by decide))))]
theorem Qa7 (k:IntKind) (hk:k.signed=false) (w a:Nat) (hw:w≤k.bits):Vx .and k (a:Int) ((2^w-1:Nat):Int)=((a%2^w:Nat):Int):=by
 have h1:(2:Nat)^w≤2^k.bits:=Vr (by decide) hw
 have h0:0<(2:Nat)^w:=Us (by decide)
 rw [n_and k hk,Z5 (a:=2^w-1) (by omega),Dp,Rx _ (Nat.pow_dvd_pow 2 hw)]
theorem n_m32 (a:Nat):Vx .and .u64 (a:Int) 4294967295=((a%4294967296:Nat):Int):=Qa7 .u64 rfl 32 a (by decide)
theorem n_m51 (a:Nat):Vx .and .u64 (a:Int) 2251799813685247=((a%2251799813685248:Nat):Int):=Qa7 .u64 rfl 51 a (by decide)
theorem n_m1 (a:Nat):Vx .and .u64 (a:Int) 1=((a%2:Nat):Int):=Qa7 .u64 rfl 1 a (by decide)
theorem n_m1b (a:Nat):Vx .and .u8 (a:Int) 1=((a%2:Nat):Int):=Qa7 .u8 rfl 1 a (by decide)
theorem n_m7b (a:Nat):Vx .and .u8 (a:Int) 127=((a%128:Nat):Int):=Qa7 .u8 rfl 7 a (by decide)
theorem Zdf:(2:Int)^min 32 IntKind.u64.bits=((4294967296:Nat):Int):=rfl
theorem Zde:(2:Int)^min 51 IntKind.u64.bits=((2251799813685248:Nat):Int):=rfl
theorem Zdg:(2:Int)^min 13 IntKind.u64.bits=((8192:Nat):Int):=rfl
theorem p8_7:(2:Int)^min 7 IntKind.u8.bits=((128:Nat):Int):=rfl
theorem M0 {a b n:Nat} (h:a<2^n):(b*2^n)|||a=b*2^n+a:=by
 rw [Ve,Mi h]
theorem Qdm (k:IntKind):ns k []=[]:=rfl
theorem Rk (k:IntKind) (x:Nat) (r:List Nat):ns k (x::r)=.int k (x:Nat)::ns k r:=rfl
theorem Qkh {w m q s y M:Nat} (hq:q<m) (hs:s<w) (hM:M<2^(w*q+s)) (hy:y*2^s<2^w) :
  (dig (2^w) m M).set q ((dig (2^w) m M).getD q 0|||y*2^s)=dig (2^w) m (M+y*2^(w*q+s)):=by
 have hB:(2^w)^q=2^(w*q):=by rw [←Y5]
 have hpos:0<(2^w:Nat)^q:=Us (Us (by decide))
 have hpow:(2:Nat)^(w*q+s)=2^s*(2^w)^q:=by rw [Ud,hB,Ve]
 have hdiv:M/(2^w)^q<2^s:=by rw [Qjb hpos,←hpow]; exact hM
 have hsw:(2:Nat)^s≤2^w:=Vr (by decide) (by omega)
 have hsum:M/(2^w)^q+y*2^s<2^w:=by
  have h1:(2:Nat)^w=2^(w-s)*2^s:=by rw [←Ud]; congr 1; omega
  have h2:y<2^(w-s):=by
   rw [h1] at hy
   exact Nat.lt_of_mul_lt_mul_right hy
  have h3:(y+1)*2^s≤2^(w-s)*2^s:=Yh _ h2
  rw [Kw,Ul,←h1] at h3
  omega
 apply Qet (by rw [Jk,Km])
 intro i hi
 by_cases hqi:i=q
 ·subst hqi
  rw [Jj (by rw [Km]; exact hi),Jz,B6 hi]
  rw [hpow,←Ye,Qad _ _ hpos]
  simp only [Bb]
  rw [Z5 (a:=M/_) (by omega),Z5 hsum,Nat.or_comm,M0 hdiv,Bn]
 ·rw [Z4 (Ne.symm hqi),B6 hi]
  congr 1
  by_cases hlt:i<q
  ·have h1:(2^w:Nat)^q=2^w*(2^w)^(q-i-1)*(2^w)^i:=by
    rw [Ye,←Ud,←Qur]; congr 1; omega
   rw [hpow,h1]
   rw [show y*(2^s*(2^w*(2^w)^(q-i-1)*(2^w)^i))=(y*2^s*(2^w)^(q-i-1)*2^w)*(2^w)^i by simp only [Ye,W9,Ve]]
   rw [Qad _ _ (Us (Us (by decide))),Hf]
  ·have h1:M+y*2^(w*q+s)<(2^w)^i:=by
    have h2:(2^w:Nat)^(q+1)≤(2^w)^i:=Vr (Us (by decide)) (by omega)
    refine Xr ?_ h2
    have h3:(M/(2^w)^q+y*2^s+1)*(2^w)^q≤2^w*(2^w)^q:=Yh _ hsum
    have h4:=Ya M ((2^w)^q)
    have h5:=Jo M hpos
    rw [Kv,Ve ((2^w)^q)]
    refine Xr ?_ h3
    rw [hpow,←Ye,Kw,Kw,Ul,Ve (M/(2^w)^q)]
    omega
   rw [Uk h1,Uk (by omega)]
def evVal (T:Tab) (f:Nat) (args:List Value):Option Value:=(Yd T f args []).map (·.1)
theorem T6 {T:Tab} {f:Nat} {args:List Value} {v:Value} {l:List Ob} {M:List Nat} (h:Yd T f args []=some (v,l,M)):evVal T f args=some v:=by simp [evVal,h]
theorem Jx {T:Tab} {f:Nat} {args:List Value} {v:Value} (h:∃ l,Yd T f args []=some (v,l,[])):evVal T f args=some v:=by
 obtain ⟨l,h⟩:=h
 exact T6 h
theorem Zj {T:Tab} {b:Nat} {q:Bool} {f:Nat} {xs:List Operand} {d:Option Nat} {r:List AOper} {e:Env} {H:List Ob} {l:List Nat}:steps T b q (⟨d,.call f xs true,none⟩::r) ⟨e,H,l⟩=(Uo e xs).bind fun args=>gate (args.all rf=true) ((evVal T f args).bind fun v=>gate (rf v=true) (steps T b q r ⟨e.put d v,H,l⟩)):=by
 rw [Wg]
 cases Uo e xs with
 | none=>rfl
 | some args =>
  simp only [Zb,evVal]
  cases Yd T f args []<;>rfl
def cU:=Zi (Zi (Zi (Zi (@n_add) (Zi (@n_mul) (@Zdw))) (Zi (@Zdx) (Zi (@Zdv) (@Zdu)))) (Zi (Zi (@Qit) (Zi (@Q9p) (@Zdt))) (Zi (Zi (@Zds) (@Qfi)) (Zi (@Qly) (@n_w16))))) (Zi (Zi (Zi (@Qcf) (Zi (@Qqy) (@Q41))) (Zi (@Q40) (Zi (@n_m32) (@n_m51)))) (Zi (Zi (@n_m1) (Zi (@n_m1b) (@n_m7b))) (Zi (Zi (@Zdf) (@Zde)) (Zi (@Zdg) (@p8_7)))))
end Go.Ev
namespace Go.NT
def Pr (p:Nat):Prop:=2≤p∧∀ m,m∣p→m=1∨m=p
theorem Pr.coprime {p a:Nat} (hp:Pr p) (h:¬ p∣a):Zf1 p a:=by
 rcases hp.2 (Qkl p a) (Nat.gcd_dvd_left p a) with h1 | h1
 ·exact h1
 ·exact absurd (h1▸Nat.gcd_dvd_right p a) h
theorem Pr.dvd_mul {p a b:Nat} (hp:Pr p) (h:p∣a*b):p∣a∨p∣b:=by
 by_cases ha:p∣a
 ·exact .inl ha
 ·exact .inr ((hp.coprime ha).dvd_of_dvd_mul_left h)
def Qbq:List Nat→Nat
 | []=>1
 | x::r=>x*Qbq r
theorem Qvs {l l':List Nat} (h:l.Perm l'):Qbq l=Qbq l':=by
 induction h with
 | nil=>rfl
 | cons x _ ih=>simp only [Qbq,ih]
 | swap x y l=>simp only [Qbq,W9]
 | trans _ _ h1 h2=>rw [h1,h2]
theorem Qx1:∀ {l1 l2:List Nat},l1.Nodup→(∀ x∈l1,x∈l2)→l2.length≤l1.length→l1.Perm l2
 | [],l2,_,_,hl=>by
  have:l2=[]:=by cases l2 with | nil=>rfl | cons _ _=>simp at hl
  subst this; exact .nil
 | a::t,l2,hn,hs,hl=>by
  have ha:=hs a (by simp)
  have hp:=List.perm_cons_erase ha
  have hlen:=hp.length_eq
  rw [List.nodup_cons] at hn
  refine (List.Perm.cons a (Qx1 hn.2 (fun x hx => ?_) ?_)).trans hp.symm
  ·have hxa:x≠a:=fun h=>hn.1 (h▸hx)
   exact (List.mem_erase_of_ne hxa).2 (hs x (by simp [hx]))
  ·simp only [Jc] at hl hlen ⊢
   omega
theorem Qom (a p:Nat):∀ l:List Nat,Qbq (l.map fun x=>a*x%p)%p=a^l.length*Qbq l%p
 | []=>by simp [Qbq]
 | x::r=>by
  have h1:=Qom a p r
  simp only [W7,Qbq,Jc,Kv]
  rw [Mq,h1,Ha,←Mq]
  congr 1
  simp only [Ye,W9,Ve]
theorem Qle {p:Nat} (hp:Pr p):∀ {l:List Nat},(∀ x∈l,¬ p∣x)→¬ p∣Qbq l
 | [],_=>fun h=>by
  have:=Dc (by decide:0<1) h
  have:=hp.1
  omega
 | x::r,h=>fun hd=>by
  rcases hp.dvd_mul hd with h1 | h1
  ·exact h x (by simp) h1
  ·exact Qle hp (fun y hy=>h y (by simp [hy])) h1
theorem Qiy {p a:Nat} (hp:Pr p) (ha:¬ p∣a):a^(p-1)%p=1:=by
 have h2:=hp.1
 have hnd:((D1 1 (p-1)).map fun x=>a*x%p).Nodup:=by
  rw [List.nodup_iff_pairwise_ne,List.pairwise_map]
  refine List.Pairwise.imp_of_mem ?_ (List.pairwise_lt_range' (s:=1) (n:=p-1))
  intro x y hx hy hxy he
  simp only [Qrl] at hx hy
  have h3:(a*y-a*x)%p=0:=Qa9 he.symm
  rw [←Nat.mul_sub] at h3
  rcases hp.dvd_mul (Tg h3) with h4 | h4
  ·exact ha h4
  ·have:=Dc (by omega) h4
   omega
 have hmem:∀ x∈(D1 1 (p-1)).map (fun x=>a*x%p),x∈D1 1 (p-1):=by
  intro x hx
  simp only [Bd,Qrl] at hx ⊢
  obtain ⟨y,hy,rfl⟩:=hx
  have h3:a*y%p<p:=Jo _ (by omega)
  have h4:a*y%p≠0:=fun h=>by
   rcases hp.dvd_mul (Tg h) with h4 | h4
   ·exact ha h4
   ·have:=Dc (by omega) h4
    omega
  omega
 have hperm:=Qvs (Qx1 hnd hmem (by simp))
 have h5:=Qom a p (D1 1 (p-1))
 rw [hperm,List.length_range'] at h5
 have h6:¬ p∣Qbq (D1 1 (p-1)):=Qle hp fun x hx hd=>by
  simp only [Qrl] at hx
  have:=Dc (by omega) hd
  omega
 have h7:(a^(p-1)*Qbq (D1 1 (p-1))-1*Qbq (D1 1 (p-1)))%p=0:=Qa9 (by rw [←h5,Ul])
 rw [←Nat.sub_mul] at h7
 have ha0:0<a:=Nat.pos_of_ne_zero fun h=>ha (h▸Nat.dvd_zero p)
 have h8:0<a^(p-1):=Us ha0
 rcases hp.dvd_mul (Tg h7) with h9 | h9
 ·obtain ⟨k,hk⟩:=h9
  have:a^(p-1)=p*k+1:=by omega
  rw [this,Nat.mul_add_mod,Z5 (by omega)]
 ·exact absurd h9 h6
theorem Qiw {n:Nat} (hn:2≤n):∃ r,Pr r∧r∣n∧(Pr n∨r*r≤n):=by
 have ex:∃ r,2≤r∧r∣n∧∀ m,2≤m→m∣n→r≤m:=by
  have key:∀ k,(∃ r,2≤r∧r∣n∧r≤k)→∃ r,2≤r∧r∣n∧∀ m,2≤m→m∣n→r≤m:=by
   intro k
   induction k with
   | zero=>rintro ⟨r,h1,_,h3⟩; omega
   | succ k ih =>
    rintro ⟨r,h1,h2,h3⟩
    by_cases h:∃ r,2≤r∧r∣n∧r≤k
    ·exact ih h
    ·refine ⟨r,h1,h2,fun m hm hmd => ?_⟩
     rcases Yp k m with h4 | h4
     ·omega
     ·exact absurd ⟨m,hm,hmd,h4⟩ h
  exact key n ⟨n,hn,Nat.dvd_refl n,Zn n⟩
 obtain ⟨r,h1,h2,h3⟩:=ex
 have hr:Pr r:=⟨h1,fun m hm=>by
  have hm0:0<m:=Nat.pos_of_dvd_of_pos hm (by omega)
  rcases Yp m 2 with h | h
  ·left; omega
  ·have:=h3 m h (Q7j hm h2)
   have:=Dc (by omega) hm
   right; omega⟩
 refine ⟨r,hr,h2,?_⟩
 obtain ⟨k,rfl⟩:=h2
 rcases Yp k 2 with h | h
 ·have:k=1:=by
   rcases Wl k with h0 | h0
   ·subst h0; omega
   ·omega
  subst this
  rw [Kh]; exact .inl hr
 ·exact .inr (Bw r (h3 k h (Quu k r)))
def pw (m a:Nat):Nat→Nat→Nat
 | 0,_=>1%m
 | f+1,e=>if e%2=1 then (pw m a f (e/2))*(pw m a f (e/2))%m*a%m else (pw m a f (e/2))*(pw m a f (e/2))%m
theorem Zb5 (m a:Nat):∀ (f e:Nat),e<2^f→pw m a f e=a^e%m
 | 0,e,h=>by
  have:e=0:=by simpa using h
  subst this; rfl
 | f+1,e,h=>by
  have ih:=Zb5 m a f (e/2) (by rw [Kv] at h; omega)
  have hs:a^(e/2)%m*(a^(e/2)%m)%m=a^(2*(e/2))%m:=by
   rw [←Mq,←Ud]; congr 2; omega
  unfold pw
  rw [ih]
  by_cases he:e%2=1
  ·rw [if_pos he,hs,Qb3,←Kv]
   congr 2; omega
  ·rw [if_neg he,hs]
   congr 2; omega
def pwf (m a:Nat):Nat→Nat→Nat
 | 0,_=>1%m
 | f+1,e=>(fun r=>if e%2=1 then r*r%m*a%m else r*r%m) (pwf m a f (e/2))
theorem Q8u {r:Nat} (hr:2≤r) (b x y:Nat):b^x%r=1→b^y%r=1→b^(Qkl x y)%r=1:=by
 induction x,y using Nat.gcd.induction with
 | H0 y=>intro _ h; rwa [Nat.gcd_zero_left]
 | H1 x y hx ih =>
  intro h1 h2
  rw [Nat.gcd_rec]
  refine ih ?_ h1
  have h3:b^(x*(y/x)+y%x)%r=1:=by rw [Ya]; exact h2
  rw [Ud,Y5,Mq,Zf0 (b^x),h1,Nat.one_pow,Z5 (a:=1) (by omega),Ul,Ha] at h3
  exact h3
theorem Zc9 {n q k a r:Nat} (hq:Pr q) (hk:n=q*k+1) (h1:a^(q*k)%n=1) (h2:Qkl (a^k%n+n-1) n=1) (hr:Pr r) (hrn:r∣n):q∣r-1:=by
 have hr2:=hr.1
 have hn0:0<n:=by omega
 have hn2:r≤n:=Dc hn0 hrn
 have hmodr:∀ x,x%n%r=x%r:=fun x=>Rx x hrn
 have hb1:a^(q*k)%r=1:=by rw [←hmodr,h1,Z5 (by omega)]
 have hra:¬ r∣a:=fun h=>by
  have hqk:0<q*k:=by
   rcases Wl (q*k) with h0 | h0
   ·omega
   ·exact h0
  have:r∣a^(q*k):=by
   obtain ⟨m,hm⟩:∃ m,q*k=m+1:=⟨q*k-1,by omega⟩
   rw [hm,Kv]
   exact Q7j h (Quu a _)
  have:=Qhu this
  omega
 have hf:=Qiy hr hra
 by_cases hqd:q∣r-1
 ·exact hqd
 ·exfalso
  have hc:=hq.coprime hqd
  have hpow:∀ x:Nat,∀ c,c%r=1→c^x%r=1:=fun x c hcx=>by rw [Zf0,hcx,Nat.one_pow,Z5 (by omega)]
  have hk1:(a^k)^q%r=1:=by rw [←Y5,Ve k q]; exact hb1
  have hk2:(a^k)^(r-1)%r=1:=by rw [←Y5,Ve k,Y5]; exact hpow k _ hf
  have hak:a^k%r=1:=by
   have:=Q8u hr2 (a^k) q (r-1) hk1 hk2
   rwa [hc,Nat.pow_one] at this
  have hdvd:r∣a^k%n+n-1:=by
   have e3:a^k%n%r=1:=by rw [hmodr]; exact hak
   have e4:1≤a^k%n:=by
    rcases Wl (a^k%n) with h0 | h0
    ·rw [h0,Nat.zero_mod] at e3; omega
    ·exact h0
   have e5:r∣a^k%n-1:=by
    apply Tg
    exact Qa9 (by rw [e3,Z5 (by omega)])
   rw [show a^k%n+n-1=(a^k%n-1)+n by omega]
   exact Nat.dvd_add e5 hrn
  have:=Nat.dvd_gcd hdvd hrn
  rw [h2] at this
  have:=Dc (by decide) this
  omega
theorem Q35 {n q k a:Nat} (hn:2≤n) (hq:Pr q) (hk:n=q*k+1) (hbig:n<q*q) (h1:a^(q*k)%n=1) (h2:Qkl (a^k%n+n-1) n=1):Pr n:=by
 obtain ⟨r,hr,hrn,h | h⟩:=Qiw hn
 ·exact h
 ·have h3:=Zc9 hq hk h1 h2 hr hrn
  have:=hr.1
  have h4:=Dc (by omega) h3
  have:q*q≤r*r:=Um (by omega) (by omega)
  omega
theorem Q34 {n q k a q' k' a':Nat} (hn:2≤n) (hq:Pr q) (hk:n=q*k+1) (hq':Pr q') (hk':n=q'*k'+1) (hne:q≠q') (hbig:n<(q*q')*(q*q')) (h1:a^(q*k)%n=1) (h2:Qkl (a^k%n+n-1) n=1)
  (h1':a'^(q'*k')%n=1) (h2':Qkl (a'^k'%n+n-1) n=1):Pr n:=by
 obtain ⟨r,hr,hrn,h | h⟩:=Qiw hn
 ·exact h
 ·have h3:=Zc9 hq hk h1 h2 hr hrn
  have h3':=Zc9 hq' hk' h1' h2' hr hrn
  have hc:Zf1 q q':=hq.coprime fun hd=>by
   rcases hq'.2 q hd with h | h
   ·have:=hq.1; omega
   ·exact hne h
  have h5:=hc.mul_dvd_of_dvd_of_dvd h3 h3'
  have:=hr.1
  have h4:=Dc (by omega) h5
  have:(q*q')*(q*q')≤r*r:=Um (by omega) (by omega)
  omega
def Qyc (n:Nat):Nat→Nat→Bool
 | 0,_=>true
 | f+1,m=>(n%m != 0)&&Qyc n f (m+1)
theorem Qlx {n:Nat}:∀ (f m:Nat),Qyc n f m=true→∀ x,m≤x→x<m+f→n%x≠0
 | 0,m,_,x,h1,h2=>by omega
 | f+1,m,h,x,h1,h2=>by
  simp only [Qyc,Yw,bne_iff_ne] at h
  rcases Nat.eq_or_lt_of_le h1 with h3 | h3
  ·subst h3; exact h.1
  ·exact Qlx f (m+1) h.2 x h3 (by omega)
theorem Hp {n f:Nat} (hn:2≤n) (hf:n<(f+2)*(f+2)) (h:Qyc n f 2=true):Pr n:=by
 obtain ⟨r,hr,hrn,h1 | h1⟩:=Qiw hn
 ·exact h1
 ·have hr2:=hr.1
  have:r<2+f:=by
   rcases Yp r (2+f) with h2 | h2
   ·exact h2
   ·have:(f+2)*(f+2)≤r*r:=Um (by omega) (by omega)
    omega
  exact absurd (Qhu hrn) (Qlx f 2 h r hr2 this)
end Go.NT
namespace Go.Cv
section
variable {n:Nat} [NeZero n]
structure Fld (n:Nat) [NeZero n] (iv:Fin n→Fin n) (d i:Fin n):Prop where
 inv:∀ a:Fin n,a≠0→a*iv a=1
 iv0:iv 0=0
 one:(1:Fin n)≠0
 two:(2:Fin n)≠0
 root:i*i = -1
 nosq:∀ r:Fin n,r*r≠d
variable {iv:Fin n→Fin n} {d i:Fin n} (F:Fld n iv d i)
include F
theorem Fld.dom {a b:Fin n} (h:a*b=0):a=0∨b=0:=by
 by_cases ha:a=0
 ·exact .inl ha
 ·have:=F.inv a ha
  exact .inr (by grobner)
theorem Fld.mul_ne {a b:Fin n} (ha:a≠0) (hb:b≠0):a*b≠0:=fun h=>by
 rcases F.dom h with h | h
 ·exact ha h
 ·exact hb h
theorem Fld.cancel {a b c:Fin n} (ha:a≠0) (h:a*b=a*c):b=c:=by
 have:=F.inv a ha
 grobner
theorem Fld.noratio {u v:Fin n} (hv:v≠0):u*u≠d*(v*v):=fun h=>by
 have:=F.inv v hv
 apply F.nosq (u*iv v)
 grobner
omit F
def On (d x y:Fin n):Prop := -(x*x)+y*y=1+d*(x*x)*(y*y)
theorem On.sub {d x y:Fin n} (h:On d x y) : -(x*x)+y*y-1-d*(x*x)*(y*y)=0:=by
 unfold On at h; grobner
theorem Q2k {L R a b c e:Fin n} (h:L-R=a*c+b*e) (hc:c=0) (he:e=0):L=R:=by
 subst hc he; grobner
theorem Qkw {L R a b c e f g:Fin n} (h:L-R=a*c+b*e+f*g) (hc:c=0) (he:e=0) (hg:g=0):L=R:=by
 subst hc he hg; grobner
theorem Q6v (d x1 y1 x2 y2:Fin n) : -((x1*y2+x2*y1)*(x1*y2+x2*y1)*((1-d*x1*x2*y1*y2)*(1-d*x1*x2*y1*y2)))+(y1*y2+x1*x2)*(y1*y2+x1*x2)*((1+d*x1*x2*y1*y2)*(1+d*x1*x2*y1*y2)) -
   (((1+d*x1*x2*y1*y2)*(1-d*x1*x2*y1*y2))*((1+d*x1*x2*y1*y2)*(1-d*x1*x2*y1*y2))+d*((x1*y2+x2*y1)*(x1*y2+x2*y1))*((y1*y2+x1*x2)*(y1*y2+x1*x2))) =
   (d*d*d*x1*x1*x2*x2*x2*x2*y1*y1*y2*y2*y2*y2-d*d*x1*x1*x2*x2*x2*x2*y2*y2*y2*y2+d*d*x2*x2*x2*x2*y1*y1*y2*y2*y2*y2-d*d*x2*x2*x2*x2*y2*y2*y2*y2-d*x1*x1*x2*x2*x2*x2*y2*y2+d*x1*x1*x2*x2*y2*y2*y2*y2+d*x2*x2*x2*x2*y1*y1*y2*y2-2*d*x2*x2*x2*x2*y2*y2*y2*y2-d*x2*x2*y1*y1*y2*y2*y2*y2-2*d*x2*x2*y2*y2-2*x2*x2*x2*x2*y2*y2+x2*x2*x2*x2+2*x2*x2*y2*y2*y2*y2-4*x2*x2*y2*y2+y2*y2*y2*y2)*(-(x1*x1)+y1*y1-1-d*(x1*x1)*(y1*y1))+(d*x1*x1*x1*x1*x2*x2*y2*y2+2*d*x1*x1*x2*x2*y2*y2+d*x2*x2*y1*y1*y1*y1*y2*y2-2*d*x2*x2*y1*y1*y2*y2+d*x2*x2*y2*y2+2*x1*x1*x2*x2*y2*y2-x1*x1*x2*x2+x1*x1*y2*y2-2*x2*x2*y1*y1*y2*y2+x2*x2*y1*y1+2*x2*x2*y2*y2-x2*x2-y1*y1*y2*y2+y2*y2+1)*(-(x2*x2)+y2*y2-1-d*(x2*x2)*(y2*y2)):=by grobner
theorem Zep (d x1 y1 x2 y2 x3 y3:Fin n):((x1*y2+x2*y1)*(1-d*x1*x2*y1*y2)*y3+x3*(y1*y2+x1*x2)*(1+d*x1*x2*y1*y2))*((1+d*x2*x3*y2*y3)*(1-d*x2*x3*y2*y3)+d*(x2*y3+x3*y2)*(y2*y3+x2*x3)*x1*y1) -
   (x1*(y2*y3+x2*x3)*(1+d*x2*x3*y2*y3)+(x2*y3+x3*y2)*(1-d*x2*x3*y2*y3)*y1)*((1+d*x1*x2*y1*y2)*(1-d*x1*x2*y1*y2)+d*(x1*y2+x2*y1)*(y1*y2+x1*x2)*x3*y3) =
   (-d*d*x1*x2*x2*x2*x2*x3*x3*y2*y2*y2*y3-d*d*x1*x2*x2*x2*x3*y2*y2*y2*y2*y3*y3+d*d*x2*x2*x2*x2*x3*y1*y2*y2*y2*y3*y3+d*d*x2*x2*x2*x3*x3*y1*y2*y2*y2*y2*y3-d*x1*x2*x2*x2*x2*x3*x3*y2*y3-d*x1*x2*x2*x2*x3*x3*x3*y2*y2-d*x1*x2*x2*x2*x3*y2*y2+d*x1*x2*x2*y2*y2*y2*y3*y3*y3-d*x1*x2*x2*y2*y2*y2*y3+d*x1*x2*x3*y2*y2*y2*y2*y3*y3+d*x2*x2*x2*x2*x3*y1*y2*y3*y3+d*x2*x2*x2*y1*y2*y2*y3*y3*y3-d*x2*x2*x2*y1*y2*y2*y3-d*x2*x2*x3*x3*x3*y1*y2*y2*y2-d*x2*x2*x3*y1*y2*y2*y2-d*x2*x3*x3*y1*y2*y2*y2*y2*y3)*(-(x1*x1)+y1*y1-1-d*(x1*x1)*(y1*y1))+(d*d*x1*x1*x2*x2*x3*x3*x3*y1*y2*y3*y3-d*d*x1*x1*x2*x3*x3*y1*y2*y2*y3*y3*y3-d*d*x1*x2*x2*x3*x3*y1*y1*y2*y3*y3*y3+d*d*x1*x2*x3*x3*x3*y1*y1*y2*y2*y3*y3+d*x1*x1*x1*x2*x2*x3*x3*y2*y3+d*x1*x1*x1*x2*x3*x3*x3*y3*y3+d*x1*x1*x1*x2*x3*y2*y2*y3*y3+d*x1*x1*x1*x3*x3*y2*y3*y3*y3-d*x1*x1*x2*x2*x3*y1*y2*y3*y3-d*x1*x1*x2*x3*x3*y1*y2*y2*y3+d*x1*x1*x2*x3*x3*y1*y3*y3*y3+d*x1*x1*x3*x3*x3*y1*y2*y3*y3-d*x1*x2*x2*x3*x3*y1*y1*y2*y3+d*x1*x2*x2*x3*x3*y2*y3-d*x1*x2*x3*x3*x3*y1*y1*y3*y3+d*x1*x2*x3*x3*x3*y3*y3-d*x1*x2*x3*y1*y1*y2*y2*y3*y3+d*x1*x2*x3*y2*y2*y3*y3-d*x1*x3*x3*y1*y1*y2*y3*y3*y3+d*x1*x3*x3*y2*y3*y3*y3+d*x2*x2*x3*y1*y1*y1*y2*y3*y3-d*x2*x2*x3*y1*y2*y3*y3+d*x2*x3*x3*y1*y1*y1*y2*y2*y3-d*x2*x3*x3*y1*y1*y1*y3*y3*y3-d*x2*x3*x3*y1*y2*y2*y3+d*x2*x3*x3*y1*y3*y3*y3-d*x3*x3*x3*y1*y1*y1*y2*y3*y3+d*x3*x3*x3*y1*y2*y3*y3+x1*x1*x1*x2*x3*x3*x3-x1*x1*x1*x2*x3*y3*y3+x1*x1*x1*x2*x3+x1*x1*x1*x3*x3*y2*y3-x1*x1*x1*y2*y3*y3*y3+x1*x1*x1*y2*y3+x1*x1*x2*x3*x3*y1*y3-x1*x1*x2*y1*y3*y3*y3+x1*x1*x2*y1*y3+x1*x1*x3*x3*x3*y1*y2-x1*x1*x3*y1*y2*y3*y3+x1*x1*x3*y1*y2-x1*x2*x3*x3*x3*y1*y1+x1*x2*x3*x3*x3+x1*x2*x3*y1*y1*y3*y3-x1*x2*x3*y1*y1-x1*x2*x3*y3*y3+x1*x2*x3-x1*x3*x3*y1*y1*y2*y3+x1*x3*x3*y2*y3+x1*y1*y1*y2*y3*y3*y3-x1*y1*y1*y2*y3-x1*y2*y3*y3*y3+x1*y2*y3-x2*x3*x3*y1*y1*y1*y3+x2*x3*x3*y1*y3+x2*y1*y1*y1*y3*y3*y3-x2*y1*y1*y1*y3-x2*y1*y3*y3*y3+x2*y1*y3-x3*x3*x3*y1*y1*y1*y2+x3*x3*x3*y1*y2+x3*y1*y1*y1*y2*y3*y3-x3*y1*y1*y1*y2-x3*y1*y2*y3*y3+x3*y1*y2)*(-(x2*x2)+y2*y2-1-d*(x2*x2)*(y2*y2))+(-d*x1*x1*x2*x2*x3*y1*y2+d*x1*x1*x2*y1*y2*y2*y3+d*x1*x2*x2*y1*y1*y2*y3-d*x1*x2*x3*y1*y1*y2*y2-x1*x1*x1*x2*x2*x2*x3-x1*x1*x1*x2*x2*y2*y3+x1*x1*x1*x2*x3*y2*y2-x1*x1*x1*x2*x3+x1*x1*x1*y2*y2*y2*y3-x1*x1*x1*y2*y3-x1*x1*x2*x2*x2*y1*y3-x1*x1*x2*x2*x3*y1*y2+x1*x1*x2*y1*y2*y2*y3-x1*x1*x2*y1*y3+x1*x1*x3*y1*y2*y2*y2-x1*x1*x3*y1*y2+x1*x2*x2*x2*x3*y1*y1-x1*x2*x2*x2*x3+x1*x2*x2*y1*y1*y2*y3-x1*x2*x2*y2*y3-x1*x2*x3*y1*y1*y2*y2+x1*x2*x3*y1*y1+x1*x2*x3*y2*y2-x1*x2*x3-x1*y1*y1*y2*y2*y2*y3+x1*y1*y1*y2*y3+x1*y2*y2*y2*y3-x1*y2*y3+x2*x2*x2*y1*y1*y1*y3-x2*x2*x2*y1*y3+x2*x2*x3*y1*y1*y1*y2-x2*x2*x3*y1*y2-x2*y1*y1*y1*y2*y2*y3+x2*y1*y1*y1*y3+x2*y1*y2*y2*y3-x2*y1*y3-x3*y1*y1*y1*y2*y2*y2+x3*y1*y1*y1*y2+x3*y1*y2*y2*y2-x3*y1*y2)*(-(x3*x3)+y3*y3-1-d*(x3*x3)*(y3*y3)):=by grobner
theorem Zeo (d x1 y1 x2 y2 x3 y3:Fin n):((y1*y2+x1*x2)*(1+d*x1*x2*y1*y2)*y3+(x1*y2+x2*y1)*(1-d*x1*x2*y1*y2)*x3)*((1+d*x2*x3*y2*y3)*(1-d*x2*x3*y2*y3)-d*(x2*y3+x3*y2)*(y2*y3+x2*x3)*x1*y1) -
   (y1*(y2*y3+x2*x3)*(1+d*x2*x3*y2*y3)+x1*(x2*y3+x3*y2)*(1-d*x2*x3*y2*y3))*((1+d*x1*x2*y1*y2)*(1-d*x1*x2*y1*y2)-d*(x1*y2+x2*y1)*(y1*y2+x1*x2)*x3*y3) =
   (d*d*x1*x2*x2*x2*x2*x3*y2*y2*y2*y3*y3+d*d*x1*x2*x2*x2*x3*x3*y2*y2*y2*y2*y3-d*d*x2*x2*x2*x2*x3*x3*y1*y2*y2*y2*y3-d*d*x2*x2*x2*x3*y1*y2*y2*y2*y2*y3*y3+d*x1*x2*x2*x2*x2*x3*y2*y3*y3+d*x1*x2*x2*x2*y2*y2*y3*y3*y3-d*x1*x2*x2*x2*y2*y2*y3-d*x1*x2*x2*x3*x3*x3*y2*y2*y2-d*x1*x2*x2*x3*y2*y2*y2-d*x1*x2*x3*x3*y2*y2*y2*y2*y3-d*x2*x2*x2*x2*x3*x3*y1*y2*y3-d*x2*x2*x2*x3*x3*x3*y1*y2*y2-d*x2*x2*x2*x3*y1*y2*y2+d*x2*x2*y1*y2*y2*y2*y3*y3*y3-d*x2*x2*y1*y2*y2*y2*y3+d*x2*x3*y1*y2*y2*y2*y2*y3*y3)*(-(x1*x1)+y1*y1-1-d*(x1*x1)*(y1*y1))+(d*d*x1*x1*x2*x2*x3*x3*y1*y2*y3*y3*y3-d*d*x1*x1*x2*x3*x3*x3*y1*y2*y2*y3*y3-d*d*x1*x2*x2*x3*x3*x3*y1*y1*y2*y3*y3+d*d*x1*x2*x3*x3*y1*y1*y2*y2*y3*y3*y3-d*x1*x1*x1*x2*x2*x3*y2*y3*y3-d*x1*x1*x1*x2*x3*x3*y2*y2*y3+d*x1*x1*x1*x2*x3*x3*y3*y3*y3+d*x1*x1*x1*x3*x3*x3*y2*y3*y3+d*x1*x1*x2*x2*x3*x3*y1*y2*y3+d*x1*x1*x2*x3*x3*x3*y1*y3*y3+d*x1*x1*x2*x3*y1*y2*y2*y3*y3+d*x1*x1*x3*x3*y1*y2*y3*y3*y3+d*x1*x2*x2*x3*y1*y1*y2*y3*y3-d*x1*x2*x2*x3*y2*y3*y3+d*x1*x2*x3*x3*y1*y1*y2*y2*y3-d*x1*x2*x3*x3*y1*y1*y3*y3*y3-d*x1*x2*x3*x3*y2*y2*y3+d*x1*x2*x3*x3*y3*y3*y3-d*x1*x3*x3*x3*y1*y1*y2*y3*y3+d*x1*x3*x3*x3*y2*y3*y3-d*x2*x2*x3*x3*y1*y1*y1*y2*y3+d*x2*x2*x3*x3*y1*y2*y3-d*x2*x3*x3*x3*y1*y1*y1*y3*y3+d*x2*x3*x3*x3*y1*y3*y3-d*x2*x3*y1*y1*y1*y2*y2*y3*y3+d*x2*x3*y1*y2*y2*y3*y3-d*x3*x3*y1*y1*y1*y2*y3*y3*y3+d*x3*x3*y1*y2*y3*y3*y3+x1*x1*x1*x2*x3*x3*y3-x1*x1*x1*x2*y3*y3*y3+x1*x1*x1*x2*y3+x1*x1*x1*x3*x3*x3*y2-x1*x1*x1*x3*y2*y3*y3+x1*x1*x1*x3*y2+x1*x1*x2*x3*x3*x3*y1-x1*x1*x2*x3*y1*y3*y3+x1*x1*x2*x3*y1+x1*x1*x3*x3*y1*y2*y3-x1*x1*y1*y2*y3*y3*y3+x1*x1*y1*y2*y3-x1*x2*x3*x3*y1*y1*y3+x1*x2*x3*x3*y3+x1*x2*y1*y1*y3*y3*y3-x1*x2*y1*y1*y3-x1*x2*y3*y3*y3+x1*x2*y3-x1*x3*x3*x3*y1*y1*y2+x1*x3*x3*x3*y2+x1*x3*y1*y1*y2*y3*y3-x1*x3*y1*y1*y2-x1*x3*y2*y3*y3+x1*x3*y2-x2*x3*x3*x3*y1*y1*y1+x2*x3*x3*x3*y1+x2*x3*y1*y1*y1*y3*y3-x2*x3*y1*y1*y1-x2*x3*y1*y3*y3+x2*x3*y1-x3*x3*y1*y1*y1*y2*y3+x3*x3*y1*y2*y3+y1*y1*y1*y2*y3*y3*y3-y1*y1*y1*y2*y3-y1*y2*y3*y3*y3+y1*y2*y3)*(-(x2*x2)+y2*y2-1-d*(x2*x2)*(y2*y2))+(-d*x1*x1*x2*x2*y1*y2*y3+d*x1*x1*x2*x3*y1*y2*y2+d*x1*x2*x2*x3*y1*y1*y2-d*x1*x2*y1*y1*y2*y2*y3-x1*x1*x1*x2*x2*x2*y3-x1*x1*x1*x2*x2*x3*y2+x1*x1*x1*x2*y2*y2*y3-x1*x1*x1*x2*y3+x1*x1*x1*x3*y2*y2*y2-x1*x1*x1*x3*y2-x1*x1*x2*x2*x2*x3*y1-x1*x1*x2*x2*y1*y2*y3+x1*x1*x2*x3*y1*y2*y2-x1*x1*x2*x3*y1+x1*x1*y1*y2*y2*y2*y3-x1*x1*y1*y2*y3+x1*x2*x2*x2*y1*y1*y3-x1*x2*x2*x2*y3+x1*x2*x2*x3*y1*y1*y2-x1*x2*x2*x3*y2-x1*x2*y1*y1*y2*y2*y3+x1*x2*y1*y1*y3+x1*x2*y2*y2*y3-x1*x2*y3-x1*x3*y1*y1*y2*y2*y2+x1*x3*y1*y1*y2+x1*x3*y2*y2*y2-x1*x3*y2+x2*x2*x2*x3*y1*y1*y1-x2*x2*x2*x3*y1+x2*x2*y1*y1*y1*y2*y3-x2*x2*y1*y2*y3-x2*x3*y1*y1*y1*y2*y2+x2*x3*y1*y1*y1+x2*x3*y1*y2*y2-x2*x3*y1-y1*y1*y1*y2*y2*y2*y3+y1*y1*y1*y2*y3+y1*y2*y2*y2*y3-y1*y2*y3)*(-(x3*x3)+y3*y3-1-d*(x3*x3)*(y3*y3)):=by grobner
include F
theorem Fld.den {x1 y1 x2 y2:Fin n} (h1:On d x1 y1) (h2:On d x2 y2) (e:Fin n) (he:e*e=1):d*x1*x2*y1*y2≠e:=fun hD=>by
 unfold On at h1 h2
 have h10:=F.one
 have hr:=F.root
 have hx1:x1≠0:=fun h=>by subst h; grobner
 have hy1:y1≠0:=fun h=>by subst h; grobner
 have hx2:x2≠0:=fun h=>by subst h; grobner
 have key:d*(x1*x1)*(y1*y1)*(y2*y2-x2*x2)=y1*y1-x1*x1:=by grobner
 have h3:(y1+e*i*x1)*(y1+e*i*x1)=d*((x1*y1*(y2+i*x2))*(x1*y1*(y2+i*x2))):=by grobner
 have h4:(y1-e*i*x1)*(y1-e*i*x1)=d*((x1*y1*(y2-i*x2))*(x1*y1*(y2-i*x2))):=by grobner
 by_cases ha:y2+i*x2=0
 ·by_cases hb:y2-i*x2=0
  ·have hi:i≠0:=fun h=>by subst h; grobner
   have:(2:Fin n)*(i*x2)=0:=by grobner
   exact F.mul_ne F.two (F.mul_ne hi hx2) this
  ·exact F.noratio (F.mul_ne (F.mul_ne hx1 hy1) hb) h4
 ·exact F.noratio (F.mul_ne (F.mul_ne hx1 hy1) ha) h3
theorem Fld.denP {x1 y1 x2 y2:Fin n} (h1:On d x1 y1) (h2:On d x2 y2):1+d*x1*x2*y1*y2≠0:=fun h =>
 F.den h1 h2 (-1) (by grobner) (by grobner)
theorem Fld.denM {x1 y1 x2 y2:Fin n} (h1:On d x1 y1) (h2:On d x2 y2):1-d*x1*x2*y1*y2≠0:=fun h =>
 F.den h1 h2 1 (by grobner) (by grobner)
theorem Qdx {x1 y1 x2 y2:Fin n} (h1:On d x1 y1) (h2:On d x2 y2) {a b:Fin n} (ha:a*(1+d*x1*x2*y1*y2)=x1*y2+x2*y1) (hb:b*(1-d*x1*x2*y1*y2)=y1*y2+x1*x2):On d a b:=by
 have hp:=F.denP h1 h2
 have hm:=F.denM h1 h2
 have hC : -((x1*y2+x2*y1)*(x1*y2+x2*y1)*((1-d*x1*x2*y1*y2)*(1-d*x1*x2*y1*y2)))+(y1*y2+x1*x2)*(y1*y2+x1*x2)*((1+d*x1*x2*y1*y2)*(1+d*x1*x2*y1*y2)) =
   ((1+d*x1*x2*y1*y2)*(1-d*x1*x2*y1*y2))*((1+d*x1*x2*y1*y2)*(1-d*x1*x2*y1*y2))+d*((x1*y2+x2*y1)*(x1*y2+x2*y1))*((y1*y2+x1*x2)*(y1*y2+x1*x2)):=by
  exact Q2k (Q6v d x1 y1 x2 y2) h1.sub h2.sub
 unfold On
 have hp2:=F.mul_ne (F.mul_ne hp hm) (F.mul_ne hp hm)
 refine F.cancel hp2 ?_
 rw [←ha,←hb] at hC
 generalize 1+d*x1*x2*y1*y2=p,1-d*x1*x2*y1*y2=m at *
 clear ha hb hp hm hp2 h1 h2
 grobner
theorem Qw8 {x1 y1 x2 y2 x3 y3 a b a' b' u v u' v':Fin n} (h1:On d x1 y1) (h2:On d x2 y2) (h3:On d x3 y3)
  (ha:a*(1+d*x1*x2*y1*y2)=x1*y2+x2*y1) (hb:b*(1-d*x1*x2*y1*y2)=y1*y2+x1*x2)
  (ha':a'*(1+d*x2*x3*y2*y3)=x2*y3+x3*y2) (hb':b'*(1-d*x2*x3*y2*y3)=y2*y3+x2*x3)
  (hu:u*(1+d*a*x3*b*y3)=a*y3+x3*b) (hv:v*(1-d*a*x3*b*y3)=b*y3+a*x3)
  (hu':u'*(1+d*x1*a'*y1*b')=x1*b'+a'*y1) (hv':v'*(1-d*x1*a'*y1*b')=y1*b'+x1*a'):u=u'∧v=v':=by
 have o12:=Qdx F h1 h2 ha hb
 have o23:=Qdx F h2 h3 ha' hb'
 have hp:=F.denP h1 h2
 have hm:=F.denM h1 h2
 have hp':=F.denP h2 h3
 have hm':=F.denM h2 h3
 have kp:=F.denP o12 h3
 have km:=F.denM o12 h3
 have kp':=F.denP h1 o23
 have km':=F.denM h1 o23
 have e1:=h1.sub
 have e2:=h2.sub
 have e3:=h3.sub
 clear h1 h2 h3 o12 o23
 have hX:((x1*y2+x2*y1)*(1-d*x1*x2*y1*y2)*y3+x3*(y1*y2+x1*x2)*(1+d*x1*x2*y1*y2))*((1+d*x2*x3*y2*y3)*(1-d*x2*x3*y2*y3)+d*(x2*y3+x3*y2)*(y2*y3+x2*x3)*x1*y1) =
   (x1*(y2*y3+x2*x3)*(1+d*x2*x3*y2*y3)+(x2*y3+x3*y2)*(1-d*x2*x3*y2*y3)*y1)*((1+d*x1*x2*y1*y2)*(1-d*x1*x2*y1*y2)+d*(x1*y2+x2*y1)*(y1*y2+x1*x2)*x3*y3):=by
  exact Qkw (Zep d x1 y1 x2 y2 x3 y3) e1 e2 e3
 have hY:((y1*y2+x1*x2)*(1+d*x1*x2*y1*y2)*y3+(x1*y2+x2*y1)*(1-d*x1*x2*y1*y2)*x3)*((1+d*x2*x3*y2*y3)*(1-d*x2*x3*y2*y3)-d*(x2*y3+x3*y2)*(y2*y3+x2*x3)*x1*y1) =
   (y1*(y2*y3+x2*x3)*(1+d*x2*x3*y2*y3)+x1*(x2*y3+x3*y2)*(1-d*x2*x3*y2*y3))*((1+d*x1*x2*y1*y2)*(1-d*x1*x2*y1*y2)-d*(x1*y2+x2*y1)*(y1*y2+x1*x2)*x3*y3):=by
  exact Qkw (Zeo d x1 y1 x2 y2 x3 y3) e1 e2 e3
 clear e1 e2 e3
 rw [←ha,←hb,←ha',←hb'] at hX hY
 have hp2:=F.mul_ne hp hm
 have hp2':=F.mul_ne hp' hm'
 generalize 1+d*x1*x2*y1*y2=p,1-d*x1*x2*y1*y2=m at *
 generalize 1+d*x2*x3*y2*y3=p' at *
 generalize 1-d*x2*x3*y2*y3=m' at *
 clear ha hb ha' hb' hp hm hp' hm' x2 y2
 have f1:a*p*m*y3+x3*(b*m)*p=(p*m)*(a*y3+x3*b):=by grobner
 have f2:p'*m'+d*(a'*p')*(b'*m')*x1*y1=(p'*m')*(1+d*x1*a'*y1*b'):=by grobner
 have f3:x1*(b'*m')*p'+a'*p'*m'*y1=(p'*m')*(x1*b'+a'*y1):=by grobner
 have f4:p*m+d*(a*p)*(b*m)*x3*y3=(p*m)*(1+d*a*x3*b*y3):=by grobner
 have f5:b*m*p*y3+a*p*m*x3=(p*m)*(b*y3+a*x3):=by grobner
 have f6:p'*m'-d*(a'*p')*(b'*m')*x1*y1=(p'*m')*(1-d*x1*a'*y1*b'):=by grobner
 have f7:y1*(b'*m')*p'+x1*(a'*p')*m'=(p'*m')*(y1*b'+x1*a'):=by grobner
 have f8:p*m-d*(a*p)*(b*m)*x3*y3=(p*m)*(1-d*a*x3*b*y3):=by grobner
 rw [f1,f2,f3,f4,←hu,←hu'] at hX
 rw [f5,f6,f7,f8,←hv,←hv'] at hY
 clear f1 f2 f3 f4 f5 f6 f7 f8 hu hu' hv hv'
 generalize 1+d*x1*a'*y1*b'=k' at *
 generalize 1+d*a*x3*b*y3=k at *
 generalize 1-d*x1*a'*y1*b'=l' at *
 generalize 1-d*a*x3*b*y3=l,p*m=s at *
 generalize p'*m'=s' at *
 constructor
 ·refine F.cancel (a:=s*s'*k*k') (F.mul_ne (F.mul_ne (F.mul_ne hp2 hp2') kp) kp') ?_
  grobner
 ·refine F.cancel (a:=s*s'*l*l') (F.mul_ne (F.mul_ne (F.mul_ne hp2 hp2') km) km') ?_
  grobner
omit F
end
structure Pt (n:Nat) [NeZero n] (d:Fin n) where
 x:Fin n
 y:Fin n
 on:On d x y
theorem Pt.ext {n:Nat} [NeZero n] {d:Fin n} {p q:Pt n d} (hx:p.x=q.x) (hy:p.y=q.y):p=q:=by
 cases p; cases q; cases hx; cases hy; rfl
section
variable {n:Nat} [NeZero n] {iv:Fin n→Fin n} {d i:Fin n} (F:Fld n iv d i)
def Pt.zero:Pt n d:=⟨0,1,by unfold On; grobner⟩
def Pt.neg (p:Pt n d):Pt n d:=⟨-p.x,p.y,by have:=p.on; unfold On at *; grobner⟩
def Pt.add (p q:Pt n d):Pt n d :=
 ⟨(p.x*q.y+q.x*p.y)*iv (1+d*p.x*q.x*p.y*q.y),(p.y*q.y+p.x*q.x)*iv (1-d*p.x*q.x*p.y*q.y),
  Qdx F p.on q.on (by have:=F.inv _ (F.denP p.on q.on); grobner) (by have:=F.inv _ (F.denM p.on q.on); grobner)⟩
theorem Qfj (p q:Pt n d):(Pt.add F p q).x*(1+d*p.x*q.x*p.y*q.y)=p.x*q.y+q.x*p.y:=by
 have:=F.inv _ (F.denP p.on q.on)
 simp only [Pt.add]
 generalize 1+d*p.x*q.x*p.y*q.y=k at *
 grobner
theorem Qb1 (p q:Pt n d):(Pt.add F p q).y*(1-d*p.x*q.x*p.y*q.y)=p.y*q.y+p.x*q.x:=by
 have:=F.inv _ (F.denM p.on q.on)
 simp only [Pt.add]
 generalize 1-d*p.x*q.x*p.y*q.y=k at *
 grobner
theorem add_eq {p q r:Pt n d} (hx:r.x*(1+d*p.x*q.x*p.y*q.y)=p.x*q.y+q.x*p.y) (hy:r.y*(1-d*p.x*q.x*p.y*q.y)=p.y*q.y+p.x*q.x):Pt.add F p q=r:=by
 apply Pt.ext
 ·apply F.cancel (F.denP p.on q.on)
  rw [←Qfj F] at hx
  grobner
 ·apply F.cancel (F.denM p.on q.on)
  rw [←Qb1 F] at hy
  grobner
theorem add_comm (p q:Pt n d):Pt.add F p q=Pt.add F q p:=by
 apply add_eq
 ·have:=Qfj F q p; grobner
 ·have:=Qb1 F q p; grobner
theorem add_zero (p:Pt n d):Pt.add F p Pt.zero=p:=by
 apply add_eq<;>simp only [Pt.zero]<;>grobner
theorem zero_add (p:Pt n d):Pt.add F Pt.zero p=p:=by rw [add_comm,add_zero]
theorem add_neg (p:Pt n d):Pt.add F p p.neg=Pt.zero:=by
 have:=p.on
 unfold On at this
 apply add_eq<;>simp only [Pt.zero,Pt.neg]<;>grobner
theorem add_assoc (p q r:Pt n d):Pt.add F (Pt.add F p q) r=Pt.add F p (Pt.add F q r):=by
 obtain ⟨h1,h2⟩:=Qw8 F p.on q.on r.on (Qfj F p q) (Qb1 F p q) (Qfj F q r) (Qb1 F q r) (Qfj F (Pt.add F p q) r) (Qb1 F (Pt.add F p q) r) (Qfj F p (Pt.add F q r)) (Qb1 F p (Pt.add F q r))
 exact Pt.ext h1 h2
theorem add_left_cancel {p q r:Pt n d} (h:Pt.add F p q=Pt.add F p r):q=r:=by
 have:Pt.add F p.neg (Pt.add F p q)=Pt.add F p.neg (Pt.add F p r):=by rw [h]
 rwa [←add_assoc,←add_assoc,add_comm F p.neg p,add_neg,zero_add,zero_add] at this
theorem neg_neg (p:Pt n d):p.neg.neg=p:=by
 apply Pt.ext<;>simp only [Pt.neg]
 grobner
theorem neg_zero:(Pt.zero:Pt n d).neg=Pt.zero:=by
 apply Pt.ext<;>simp only [Pt.neg,Pt.zero]
 grobner
theorem Qrd (a b c e:Pt n d):Pt.add F (Pt.add F a b) (Pt.add F c e)=Pt.add F (Pt.add F a c) (Pt.add F b e):=by
 rw [add_assoc,add_assoc,←add_assoc F b,add_comm F b c,add_assoc F c]
theorem neg_add (p q:Pt n d):(Pt.add F p q).neg=Pt.add F p.neg q.neg:=by
 apply add_left_cancel F (p:=Pt.add F p q)
 rw [add_neg,Qrd,add_neg,add_neg,add_zero]
def Pt.mul (k:Nat) (p:Pt n d):Pt n d:=match k with
 | 0=>Pt.zero
 | k+1=>Pt.add F (Pt.mul k p) p
theorem mul_add (a b:Nat) (p:Pt n d):Pt.mul F (a+b) p=Pt.add F (Pt.mul F a p) (Pt.mul F b p):=by
 induction b with
 | zero=>rw [Jy,Pt.mul,add_zero]
 | succ b ih=>rw [←Kc,Pt.mul,ih,Pt.mul,add_assoc]
theorem mul_one (p:Pt n d):Pt.mul F 1 p=p:=by rw [Pt.mul,Pt.mul,zero_add]
theorem mul_two (p:Pt n d):Pt.mul F 2 p=Pt.add F p p:=by rw [Pt.mul,mul_one]
theorem mul_zero (k:Nat):Pt.mul F k (Pt.zero:Pt n d)=Pt.zero:=by
 induction k with
 | zero=>rfl
 | succ k ih=>rw [Pt.mul,ih,zero_add]
theorem Qke (a b:Nat) (p:Pt n d):Pt.mul F (a*b) p=Pt.mul F a (Pt.mul F b p):=by
 induction a with
 | zero=>rw [Xv,Pt.mul,Pt.mul]
 | succ a ih=>rw [Nat.succ_mul,mul_add,ih,Pt.mul]
theorem mul_neg (k:Nat) (p:Pt n d):Pt.mul F k p.neg=(Pt.mul F k p).neg:=by
 induction k with
 | zero=>rw [Pt.mul,Pt.mul,neg_zero]
 | succ k ih=>rw [Pt.mul,ih,Pt.mul,neg_add]
theorem Q42 (a b:Nat) (p:Pt n d):Pt.mul F a (Pt.mul F b p)=Pt.mul F b (Pt.mul F a p):=by
 rw [←Qke,←Qke,Ve]
theorem mul_mod {l:Nat} {p:Pt n d} (hl:Pt.mul F l p=Pt.zero) (k:Nat):Pt.mul F (k%l) p=Pt.mul F k p:=by
 have h:Pt.mul F k p=Pt.mul F (l*(k/l)+k%l) p:=by rw [Ya]
 rw [h,mul_add,Ve,Qke,hl,mul_zero,zero_add]
end
end Go.Cv
namespace Go.NT
theorem Q30 (m a:Nat):∀ (f e:Nat),pwf m a f e=pw m a f e
 | 0,_=>rfl
 | f+1,e=>by simp only [pwf,pw,Q30 m a f]
theorem Qql {m a f e:Nat} (h:e<2^f):pwf m a f e=a^e%m:=by rw [Q30,Zb5 m a f e h]
def Qt9 (n q k a f:Nat):Bool:=n==q*k+1&&decide (q*k<2^f)&&pwf n a f (q*k)==1&&Qkl (pwf n a f k+n-1) n==1
theorem Qf1 {n q k a f:Nat} (hq:Pr q) (h:Qt9 n q k a f=true):n=q*k+1∧a^(q*k)%n=1∧Qkl (a^k%n+n-1) n=1:=by
 simp only [Qt9,Yw,beq_iff_eq,decide_eq_true_eq] at h
 obtain ⟨⟨⟨h1,h2⟩,h3⟩,h4⟩:=h
 have h5:k<2^f:=by
  have:k≤q*k:=Nat.le_mul_of_pos_left k (by have:=hq.1; omega)
  omega
 rw [Qql h2] at h3
 rw [Qql h5] at h4
 exact ⟨h1,h3,h4⟩
theorem Rv {n q k a f:Nat} (hq:Pr q) (h:(Qt9 n q k a f&&decide (2≤n)&&decide (n<q*q))=true):Pr n:=by
 simp only [Yw,decide_eq_true_eq] at h
 obtain ⟨h1,h2,h3⟩:=Qf1 hq h.1.1
 exact Q35 h.1.2 hq h1 h.2 h2 h3
theorem Qbz {n q k a q2 k2 a2 f:Nat} (hq:Pr q) (hq2:Pr q2) (h:(Qt9 n q k a f&&Qt9 n q2 k2 a2 f&&decide (2≤n)&&decide (q≠q2)&&decide (n<(q*q2)*(q*q2)))=true):Pr n:=by
 simp only [Yw,decide_eq_true_eq] at h
 obtain ⟨h1,h2,h3⟩:=Qf1 hq h.1.1.1.1
 obtain ⟨h1',h2',h3'⟩:=Qf1 hq2 h.1.1.1.2
 exact Q34 h.1.1.2 hq h1 hq2 h1' h.1.2 h.2 h2 h3 h2' h3'
theorem pr1:Pr 991:=Hp (f:=30) (by decide) (by decide) (by decide +kernel)
theorem pr2:Pr 103:=Hp (f:=9) (by decide) (by decide) (by decide +kernel)
theorem pr3:Pr 8574133:=Qbz (q:=991) (k:=8652) (a:=2) (q2:=103) (k2:=83244) (a2:=2) (f:=25) pr1 pr2 (by decide +kernel)
theorem pr4:Pr 127:=Hp (f:=10) (by decide) (by decide) (by decide +kernel)
theorem pr5:Pr 1919519569386763:=Qbz (q:=8574133) (k:=223873314) (a:=2) (q2:=127) (k2:=15114327318006) (a2:=2) (f:=52) pr3 pr4 (by decide +kernel)
theorem pr6:Pr 569003:=Hp (f:=753) (by decide) (by decide) (by decide +kernel)
theorem pr7:Pr 2773320623:=Rv (q:=569003) (k:=4874) (a:=2) (f:=33) pr6 (by decide +kernel)
theorem pr8:Pr 72106336199:=Rv (q:=2773320623) (k:=26) (a:=2) (f:=38) pr7 (by decide +kernel)
theorem pr9:Pr 75445702479781427272750846543864801:=Qbz (q:=1919519569386763) (k:=39304471641247389600) (a:=2) (q2:=72106336199) (k2:=1046311689884858398375200) (a2:=2) (f:=117) pr5 pr8 (by decide +kernel)
theorem pr10:Pr 430751:=Hp (f:=655) (by decide) (by decide) (by decide +kernel)
theorem pr11:Pr 4153:=Hp (f:=63) (by decide) (by decide) (by decide +kernel)
theorem pr12:Pr 31757755568855353:=Qbz (q:=430751) (k:=73726481352) (a:=2) (q2:=4153) (k2:=7646943310584) (a2:=2) (f:=56) pr10 pr11 (by decide +kernel)
theorem pr13:Pr 74058212732561358302231226437062788676166966415465897661863160754340907:=Qbz (q:=75445702479781427272750846543864801) (k:=981609426360740691344999861639072106) (a:=2) (q2:=31757755568855353) (k2:=2331972502653487852620185443007392165117953542933313402) (a2:=2) (f:=237) pr9 pr12 (by decide +kernel)
theorem pr14:Pr 57896044618658097711785492504343953926634992332820282019728792003956564819949:=Rv (q:=74058212732561358302231226437062788676166966415465897661863160754340907) (k:=781764) (a:=2) (f:=256) pr13 (by decide +kernel)
end Go.NT
namespace Go.Fp
open Go.NT Go.Cv
def P:Nat:=57896044618658097711785492504343953926634992332820282019728792003956564819949
theorem Qd4:P=57896044618658097711785492504343953926634992332820282019728792003956564819949:=rfl
instance:NeZero P:=⟨by decide⟩
theorem Zbw:Pr P:=pr14
abbrev Fe:=Fin P
def fp (n:Nat):Fe:=Fin.ofNat P n
theorem R8 (n:Nat):(fp n).val=n%P:=rfl
theorem Qjo {a b:Nat}:fp a=fp b↔a%P=b%P:=by
 constructor
 ·intro h; exact congrArg Fin.val h
 ·intro h; exact Fin.ext h
theorem Q06 (a:Fe):fp a.val=a:=Fin.ext (Z5 a.isLt)
theorem Ra (a:Nat):fp (a%P)=fp a:=Qjo.2 (Ha _ _)
theorem Dg (a b:Nat):fp (a+b)=fp a+fp b:=Fin.ext (by rw [R8,Fin.val_add,R8,R8,←Qj2])
theorem Ge (a b:Nat):fp (a*b)=fp a*fp b:=Fin.ext (by rw [R8,Fin.val_mul,R8,R8,←Mq])
theorem Qyo:fp 0=0:=rfl
theorem Qq5:fp 1=1:=rfl
theorem Q58:fp 2=2:=rfl
theorem Zd9:fp P=0:=Fin.ext (by rw [R8,Nat.mod_self]; rfl)
theorem Qyp (k:Nat):fp (k*P)=0:=by rw [Ge,Zd9]; grobner
theorem Q59 {a b:Nat} (h:b≤a):fp (a-b)=fp a-fp b:=by
 have h1:=Dg (a-b) b
 rw [Nat.sub_add_cancel h] at h1
 grobner
def pow (a:Fe) (k:Nat):Fe:=match k with
 | 0=>1
 | k+1=>pow a k*a
theorem Qqm (a:Fe):∀ k,(pow a k).val=a.val^k%P
 | 0=>rfl
 | k+1=>by rw [pow,Fin.val_mul,Qqm a k,Kv,Qb3]
theorem pow_add (a:Fe) (j:Nat):∀ k,pow a (j+k)=pow a j*pow a k
 | 0=>by rw [Jy]; simp only [pow]; grobner
 | k+1=>by rw [←Kc,pow,pow_add a j k,pow]; grobner
theorem pow_mul (a:Fe) (j:Nat):∀ k,pow a (j*k)=pow (pow a j) k
 | 0=>by rw [Tf]; rfl
 | k+1=>by rw [Nat.mul_succ,pow_add,pow_mul a j k,pow]
theorem pow_one (a:Fe):pow a 1=a:=by simp only [pow]; grobner
theorem pow_two (a:Fe):pow a 2=a*a:=by simp only [pow]; grobner
theorem one_pow:∀ k,pow 1 k=1
 | 0=>rfl
 | k+1=>by rw [pow,one_pow k]; grobner
theorem zero_pow {k:Nat} (hk:0<k):pow 0 k=0:=by
 obtain ⟨j,rfl⟩:∃ j,k=j+1:=⟨k-1,by omega⟩
 rw [pow]; grobner
theorem Zc8 (a k:Nat):pow (fp a) k=fp (a^k):=Fin.ext (by rw [Qqm,R8,R8,←Zf0])
theorem ndvd {a:Fe} (h:a≠0):¬ P∣a.val:=fun hd=>by
 have h1:=Qhu hd
 rw [Z5 a.isLt] at h1
 exact h (Fin.ext h1)
theorem Qiy {a:Fe} (h:a≠0):pow a (P-1)=1:=Fin.ext (by rw [Qqm,Go.NT.Qiy Zbw (ndvd h)]; rfl)
def iv (a:Fe):Fe:=pow a (P-2)
theorem Dz {a:Fe} (h:a≠0):a*iv a=1:=by
 have h1:=Qiy h
 rw [show P-1=(P-2)+1 from rfl,pow] at h1
 unfold iv
 rw [←h1]; grobner
theorem Qyj:iv 0=0:=zero_pow (by decide)
def dN:Nat:=37095705934669439343138083508754565189542113879843219016388785533085940283555
def iN:Nat:=19681161376707505956807079304988542015446066515923890162744021073123829784752
def d:Fe:=fp dN
def i:Fe:=fp iN
theorem Qlg {a k r f:Nat} (hk:k<2^f) (h:pwf P a f k=r):pow (fp a) k=fp r:=by
 rw [Zc8,←h,Qql hk,Ra]
theorem Qvg:i*i = -1:=by
 have h:i*i+1=0:=by
  unfold i
  rw [←Ge,←Qq5,←Dg]
  exact Fin.ext (by rw [R8]; decide +kernel)
 grobner
theorem Mk:(1:Fe)≠0:=fun h=>by
 have:=congrArg Fin.val h
 revert this
 decide +kernel
theorem Q2l:(2:Fe)≠0:=fun h=>by
 have:=congrArg Fin.val h
 revert this
 decide +kernel
theorem Qlh (r:Fe):pow (r*r) ((P-1)/2)=1∨r=0:=by
 by_cases h:r=0
 ·exact .inr h
 ·left
  rw [←pow_two,←pow_mul,show 2*((P-1)/2)=P-1 from by decide +kernel,Qiy h]
theorem Zd1:pow d ((P-1)/2)=fp (P-1):=Qlg (f:=256) (by decide +kernel) (by decide +kernel)
theorem nosq (r:Fe):r*r≠d:=fun h=>by
 have h1:=Zd1
 rcases Qlh r with h2 | h2
 ·rw [h,h1] at h2
  have:=congrArg Fin.val h2
  revert this
  decide +kernel
 ·subst h2
  have h3:d=0:=by rw [←h]; grobner
  have:=congrArg Fin.val h3
  revert this
  decide +kernel
theorem fld:Fld P iv d i:=⟨fun _ h=>Dz h,Qyj,Mk,Q2l,Qvg,nosq⟩
end Go.Fp
namespace Go.Ev.YtpgphpkjlpkcbaaGreat
open Go Go.Ev
attribute [local congr] W5 Up W4 Uq Wo
set_option maxRecDepth 100000
theorem Qtc {x y:Nat} (hx:x<18446744073709551616) (hy:y<18446744073709551616) :
  Yd T 158 [.int .u64 x,.int .u64 y] []=some (.tuple #[.int .u64 ((x*y/18446744073709551616:Nat):Int),.int .u64 ((x*y%18446744073709551616:Nat):Int)],[],[]):=by
 have key:∀ a b:Nat,a=x*y/18446744073709551616→b=x*y%18446744073709551616→(some (.tuple #[.int .u64 (a:Int),.int .u64 (b:Int)],[],[]):Option (Value×List Ob×List Nat))=some (.tuple #[.int .u64 ((x*y/18446744073709551616:Nat):Int),.int .u64 ((x*y%18446744073709551616:Nat):Int)],[],[]):=by
  rintro a b rfl rfl; rfl
 rw [Zz (fn:=a91) rfl]
 simp only [a91,Zw,quiet,cF,↓pF,reduceCtorEq,Qb,Qq,Wg,X8,↓Zy,↓Zx,↓Z7,↓Jb,↓Z9,↓Ja,cL,Qp,Qo,Qy,Qx,Qv,Ql,Qk,Qw,Qc,Q1,Q2,Qr,Qg,Qi,Qh,Qu,Qt,Qs,Qn,Qd,cU]
 apply key
 ·have e:x*y=(x/4294967296*(y/4294967296))*18446744073709551616+(x/4294967296*(y%4294967296)+x%4294967296*(y/4294967296))*4294967296+x%4294967296*(y%4294967296):=by
   conv=>lhs; rw [←Ya x 4294967296,←Ya y 4294967296]
   generalize x/4294967296=x1
   generalize x%4294967296=x0
   generalize y/4294967296=y1
   generalize y%4294967296=y0
   grind
  have b1:x/4294967296≤4294967295:=by omega
  have b2:x%4294967296≤4294967295:=by omega
  have b3:y/4294967296≤4294967295:=by omega
  have b4:y%4294967296≤4294967295:=by omega
  have c1:=Um b1 b3
  have c2:=Um b1 b4
  have c3:=Um b2 b3
  have c4:=Um b2 b4
  rw [e]
  clear e
  generalize x/4294967296*(y/4294967296)=p11,x/4294967296*(y%4294967296)=p10,x%4294967296*(y/4294967296)=p01,x%4294967296*(y%4294967296)=p00 at *
  omega
 ·rfl
def wV (n:Nat):Value := .agg #[.int .u64 ((n/18446744073709551616:Nat):Int),.int .u64 ((n%18446744073709551616:Nat):Int)]
theorem rf_wV (n:Nat):rf (wV n)=true:=rfl
theorem Qmp {x y c:Nat} (hc:c≤1):Yd T 159 [.int .u64 x,.int .u64 y,.int .u64 c] []=some (.tuple #[.int .u64 ((x+y+c)%18446744073709551616:Nat),.int .u64 ((x+y+c)/18446744073709551616:Nat)],[],[]):=by
 rw [Yd.eq_def]
 have h1:T.fn 159=none:=rfl
 have h2:([.int .u64 (x:Int),.int .u64 (y:Int),.int .u64 (c:Int)]:List Value).all rf=true:=rfl
 have h3:T.ext 159 [.int .u64 x,.int .u64 y,.int .u64 c]=some (.tuple #[.int .u64 ((x+y+c)%18446744073709551616:Nat),.int .u64 ((x+y+c)/18446744073709551616:Nat)]):=by
  have h4:(c:Int).toNat≤1:=by omega
  simp [T,Zat,hc]
 rw [h1]
 simp only [h2,if_true,h3,Zb]
theorem Qzc {x y:Nat} (hx:x<18446744073709551616) (hy:y<18446744073709551616):∃ l,Yd T 127 [.int .u64 x,.int .u64 y] []=some (wV (x*y),l,[]):=by
 have h:=Qtc hx hy
 have hf:∀ a b:Int,fillL [Value.int .u64 0,Value.int .u64 0] [(0,1,.int .u64 a),(1,1,.int .u64 b)]=some [.int .u64 a,.int .u64 b]:=fun _ _=>rfl
 apply Zu
 rw [Zz (fn:=a77) rfl]
 simp only [a77,Zw,quiet,cF,↓pF,reduceCtorEq,Qb,Qq,Wg,X8,↓Zy,↓Zx,↓Z7,↓Jb,↓Z9,↓Ja,cL,Qp,Qo,Qy,Qx,Qv,Ql,Qk,Qw,Qc,Q1,Q2,Qr,Qg,Qi,Qh,Qu,Qt,Qs,Qn,Qd,cJ,Kc,h,hf]
 rfl
theorem Q11 {n x y:Nat} (hx:x<18446744073709551616) (hy:y<18446744073709551616) (hn:n+x*y<340282366920938463463374607431768211456):∃ l,Yd T 128 [wV n,.int .u64 x,.int .u64 y] []=some (wV (n+x*y),l,[]):=by
 have h:=Qtc hx hy
 have hf:∀ a b:Int,fillL [Value.int .u64 0,Value.int .u64 0] [(0,1,.int .u64 a),(1,1,.int .u64 b)]=some [.int .u64 a,.int .u64 b]:=fun _ _=>rfl
 have a1:=Qmp (x:=n%18446744073709551616) (y:=x*y%18446744073709551616) (c:=0) (by decide)
 have a2:=Qmp (x:=n/18446744073709551616) (y:=x*y/18446744073709551616) (c:=(n%18446744073709551616+x*y%18446744073709551616)/18446744073709551616) (by omega)
 simp only [J6,Jy] at a1
 have key:∀ (a b:Nat) (l:List Ob),a=(n+x*y)/18446744073709551616→b=(n+x*y)%18446744073709551616→(some (.agg #[.int .u64 (a:Int),.int .u64 (b:Int)],l,[]):Option (Value×List Ob×List Nat))=some (wV (n+x*y),l,[]):=by
  rintro a b l rfl rfl; rfl
 apply Zu
 rw [Zz (fn:=a78) rfl]
 simp only [wV,a78,Zw,quiet,cF,↓pF,reduceCtorEq,Qb,Qq,Wg,X8,↓Zy,↓Zx,↓Z7,↓Jb,↓Z9,↓Ja,cL,Qp,Qo,Qy,Qx,Qv,Ql,Qk,Qw,Qc,Q1,Q2,Qr,Qg,Qi,Qh,Qu,Qt,Qs,Qn,Qd,cJ,Kc,h,hf,a1,a2]
 apply key
 ·generalize x*y=p at *
  omega
 ·generalize x*y=p at *
  omega
theorem Q2w {n:Nat} (hn:n<41538374868278621028243970633760768):∃ l,Yd T 129 [wV n] []=some (.tuple #[.int .u64 ((n/2251799813685248:Nat):Int),.int .u64 ((n%2251799813685248:Nat):Int)],l,[]):=by
 have key:∀ (a b:Nat) (l:List Ob),a=n/2251799813685248→b=n%2251799813685248→(some (.tuple #[.int .u64 (a:Int),.int .u64 (b:Int)],l,[]):Option (Value×List Ob×List Nat))=some (.tuple #[.int .u64 ((n/2251799813685248:Nat):Int),.int .u64 ((n%2251799813685248:Nat):Int)],l,[]):=by
  rintro a b l rfl rfl; rfl
 have hor:=fun a b:Nat=>n_or .u64 rfl a b
 apply Zu
 rw [Zz (fn:=a79) rfl]
 simp only [wV,a79,Zw,quiet,cF,↓pF,reduceCtorEq,Qb,Qq,Wg,X8,↓Zy,↓Zx,↓Z7,↓Jb,↓Z9,↓Ja,cL,Qp,Qo,Qy,Qx,Qv,Ql,Qk,Qw,Qc,Q1,Q2,Qr,Qg,Qi,Qh,Qu,Qt,Qs,Qn,Qd,cJ,Kc,cU,hor]
 apply key
 ·have h1:n/18446744073709551616<2251799813685248:=by omega
  have e1:n/18446744073709551616*8192%18446744073709551616%2^IntKind.u64.bits=n/18446744073709551616*2^13:=by
   rw [show (2:Nat)^IntKind.u64.bits=18446744073709551616 from rfl]; omega
  have e2:n%18446744073709551616/2251799813685248%2^IntKind.u64.bits=n%18446744073709551616/2251799813685248:=by
   rw [show (2:Nat)^IntKind.u64.bits=18446744073709551616 from rfl]; omega
  rw [e1,e2,M0 (by omega)]
  omega
 ·omega
theorem Q9u {n x:Nat} (hn:n+x<340282366920938463463374607431768211456) (hx:x<18446744073709551616):∃ l,Yd T 130 [wV n,.int .u64 x] []=some (wV (n+x),l,[]):=by
 have hf:∀ a b:Int,fillL [Value.int .u64 0,Value.int .u64 0] [(0,1,.int .u64 a),(1,1,.int .u64 b)]=some [.int .u64 a,.int .u64 b]:=fun _ _=>rfl
 have a1:=Qmp (x:=n%18446744073709551616) (y:=x) (c:=0) (by decide)
 simp only [J6,Jy] at a1
 have key:∀ (a b:Nat) (l:List Ob),a=(n+x)/18446744073709551616→b=(n+x)%18446744073709551616→(some (.agg #[.int .u64 (a:Int),.int .u64 (b:Int)],l,[]):Option (Value×List Ob×List Nat))=some (wV (n+x),l,[]):=by
  rintro a b l rfl rfl; rfl
 apply Zu
 rw [Zz (fn:=a80) rfl]
 simp only [wV,a80,Zw,quiet,cF,↓pF,reduceCtorEq,Qb,Qq,Wg,X8,↓Zy,↓Zx,↓Z7,↓Jb,↓Z9,↓Ja,cL,Qp,Qo,Qy,Qx,Qv,Ql,Qk,Qw,Qc,Q1,Q2,Qr,Qg,Qi,Qh,Qu,Qt,Qs,Qn,Qd,cJ,Kc,cU,hf,a1]
 apply key
 ·omega
 ·omega
def eV (l:List Nat):Value := .agg (ns .u64 l).toArray
theorem Ko (l:List Nat):rf (eV l)=true:=by
 show (ns .u64 l).toArray.toList.all Yg=true
 rw [show (ns .u64 l).toArray.toList=ns .u64 l from rfl]
 simp [ns,Yg]
theorem Qxx (k:IntKind) (l:List Nat):rf (.agg (ns k l).toArray)=true:=by
 show (ns k l).toArray.toList.all Yg=true
 rw [show (ns k l).toArray.toList=ns k l from rfl]
 simp [ns,Yg]
structure El (l:List Nat) (b:Nat):Prop where
 len:l.length=5
 lt:∀ x∈l,x<b
theorem El.five {l:List Nat} {b:Nat} (h:El l b):∃ x0 x1 x2 x3 x4,l=[x0,x1,x2,x3,x4]∧x0<b∧x1<b∧x2<b∧x3<b∧x4<b:=by
 obtain ⟨h1,h2⟩:=h
 match l,h1 with
 | [x0,x1,x2,x3,x4],_=>exact ⟨x0,x1,x2,x3,x4,rfl,h2 _ (by simp),h2 _ (by simp),h2 _ (by simp),h2 _ (by simp),h2 _ (by simp)⟩
theorem El.mk5 {x0 x1 x2 x3 x4 b:Nat} (h0:x0<b) (h1:x1<b) (h2:x2<b) (h3:x3<b) (h4:x4<b):El [x0,x1,x2,x3,x4] b:=⟨rfl,by simp; exact ⟨h0,h1,h2,h3,h4⟩⟩
def v51 (l:List Nat):Nat:=num 2251799813685248 l
def fe (l:List Nat):Go.Fp.Fe:=Go.Fp.fp (v51 l)
def T7 (x0 x1 x2 x3 x4:Nat):List Nat :=
 let c0:=x0/2251799813685248
 let c1:=(x1+c0)/2251799813685248
 let c2:=(x2+c1)/2251799813685248
 let c3:=(x3+c2)/2251799813685248
 let c4:=(x4+c3)/2251799813685248
 [x0%2251799813685248+19*c4,(x1+c0)%2251799813685248,(x2+c1)%2251799813685248,(x3+c2)%2251799813685248,(x4+c3)%2251799813685248]
theorem Qg5 {x0 x1 x2 x3 x4:Nat}:∃ k,v51 (T7 x0 x1 x2 x3 x4)+k*Go.Fp.P=v51 [x0,x1,x2,x3,x4]:=by
 refine ⟨(x4+(x3+(x2+(x1+x0/2251799813685248)/2251799813685248)/2251799813685248)/2251799813685248)/2251799813685248,?_⟩
 simp only [v51,T7,num,Go.Fp.Qd4]
 omega
theorem Zcb {a b k:Nat} (h:a+k*Go.Fp.P=b):Go.Fp.fp a=Go.Fp.fp b:=by
 rw [←h,Go.Fp.Dg,Go.Fp.Qyp]; grobner
theorem Qw3 {x0 x1 x2 x3 x4:Nat} (h0:x0<9223372036854775808) (h1:x1<9223372036854775808) (h2:x2<9223372036854775808) (h3:x3<9223372036854775808) (h4:x4<9223372036854775808) :
  ∃ l,Yd T 131 [eV [x0,x1,x2,x3,x4]] []=some (eV (T7 x0 x1 x2 x3 x4),l,[]):=by
 have key:∀ (a b c d e:Nat) (l:List Ob),[a,b,c,d,e]=T7 x0 x1 x2 x3 x4→(some (.agg [.int .u64 (a:Int),.int .u64 (b:Int),.int .u64 (c:Int),.int .u64 (d:Int),.int .u64 (e:Int)].toArray,l,[]):Option (Value×List Ob×List Nat))=some (eV (T7 x0 x1 x2 x3 x4),l,[]):=by
  intro a b c d e l h
  rw [←h]; rfl
 have hz:Qa 5 (Value.int .u64 0)=[.int .u64 0,.int .u64 0,.int .u64 0,.int .u64 0,.int .u64 0]:=rfl
 apply Zu
 rw [Zz (fn:=a81) rfl]
 simp only [eV,Rk,Qdm,a81,Zw,quiet,cF,↓pF,reduceCtorEq,Qb,Qq,Wg,X8,↓Zy,↓Zx,↓Z7,↓Jb,↓Z9,↓Ja,cL,Qp,Qo,Qy,Qx,Qv,Ql,Qk,Qw,Qc,Q1,Q2,Qr,Qg,Qi,Qh,Qu,Qt,Qs,Qn,Qd,cJ,Kc,cU,hz,J1,Wr,Q7b]
 apply key
 simp only [T7,List.cons.injEq,and_true]
 rw [show x0%18446744073709551616=x0 by omega]
 have b0:x0/2251799813685248<8192:=by omega
 have hx0:x0%2251799813685248<2251799813685248:=by omega
 generalize x0/2251799813685248=c0,x0%2251799813685248=r0 at *
 rw [show (x1+c0)%18446744073709551616=x1+c0 by omega]
 have b1:(x1+c0)/2251799813685248<8192:=by omega
 generalize (x1+c0)/2251799813685248=c1 at *
 rw [show (x2+c1)%18446744073709551616=x2+c1 by omega]
 have b2:(x2+c1)/2251799813685248<8192:=by omega
 generalize (x2+c1)/2251799813685248=c2 at *
 rw [show (x3+c2)%18446744073709551616=x3+c2 by omega]
 have b3:(x3+c2)/2251799813685248<8192:=by omega
 generalize (x3+c2)/2251799813685248=c3 at *
 rw [show (x4+c3)%18446744073709551616=x4+c3 by omega]
 have b4:(x4+c3)/2251799813685248<8192:=by omega
 generalize (x4+c3)/2251799813685248=c4 at *
 refine ⟨by omega,rfl,rfl,rfl,rfl⟩
theorem Q9s (B P x0 x1 x2 x3 x4 y0 y1 y2 y3 y4:Nat) (h:B*B*B*B*B=P+19) :
  (x0+B*(x1+B*(x2+B*(x3+B*(x4+B*0)))))*(y0+B*(y1+B*(y2+B*(y3+B*(y4+B*0))))) =
   (x0*y0+19*x1*y4+19*x2*y3+19*x3*y2+19*x4*y1)+B*((x0*y1+x1*y0+19*x2*y4+19*x3*y3+19*x4*y2)+B*((x0*y2+x1*y1+x2*y0+19*x3*y4+19*x4*y3)+B*((x0*y3+x1*y2+x2*y1+x3*y0+19*x4*y4)+B*(x0*y4+x1*y3+x2*y2+x3*y1+x4*y0)))) +
   (x1*y4+x2*y3+x3*y2+x4*y1+B*(x2*y4+x3*y3+x4*y2+B*(x3*y4+x4*y3+B*(x4*y4))))*P:=by grind
theorem Qec {x y:Nat} (hx:x<18446744073709551616) (hy:y<18446744073709551616):evVal T 127 [.int .u64 x,.int .u64 y]=some (wV (x*y)):=Jx (Qzc hx hy)
theorem B4 {n x y:Nat} (hx:x<18446744073709551616) (hy:y<18446744073709551616) (hn:n+x*y<340282366920938463463374607431768211456):evVal T 128 [wV n,.int .u64 x,.int .u64 y]=some (wV (n+x*y)):=Jx (Q11 hx hy hn)
theorem Qee {n:Nat} (hn:n<41538374868278621028243970633760768):evVal T 129 [wV n]=some (.tuple #[.int .u64 ((n/2251799813685248:Nat):Int),.int .u64 ((n%2251799813685248:Nat):Int)]):=Jx (Q2w hn)
theorem Zdy {n x:Nat} (hn:n+x<340282366920938463463374607431768211456) (hx:x<18446744073709551616):evVal T 130 [wV n,.int .u64 x]=some (wV (n+x)):=Jx (Q9u hn hx)
theorem Qb0 {x0 x1 x2 x3 x4:Nat} (h0:x0<9223372036854775808) (h1:x1<9223372036854775808) (h2:x2<9223372036854775808) (h3:x3<9223372036854775808) (h4:x4<9223372036854775808):evVal T 131 [eV [x0,x1,x2,x3,x4]]=some (eV (T7 x0 x1 x2 x3 x4)):=Jx (Qw3 h0 h1 h2 h3 h4)
theorem T3 {a b c d e:Nat} (ha:a<2^109) (hb:b<2^109) (hc:c<2^109) (hd:d<2^109) (he:e<2^109):a+b+c+d+e<2^112:=by omega
theorem Wp {x y:Nat} (hx:x<2^57) (hy:y<2^52):x*y<2^109:=by
 rw [show (2:Nat)^109=2^57*2^52 from rfl]
 exact Qus hx hy
theorem Q9r {s0 s1 s2 s3 s4:Nat} (h0:s0<2^112) (h1:s1<2^112) (h2:s2<2^112) (h3:s3<2^112) (h4:s4<2^112):∃ r,El r (2^52)∧(∃ k,v51 r+k*Go.Fp.P=s0+2251799813685248*(s1+2251799813685248*(s2+2251799813685248*(s3+2251799813685248*s4)))) ∧
  r=T7 ((19*(s4/2251799813685248)+s0%2251799813685248)%2251799813685248) (s1%2251799813685248+s0/2251799813685248+(19*(s4/2251799813685248)+s0%2251799813685248)/2251799813685248) (s2%2251799813685248+s1/2251799813685248) (s3%2251799813685248+s2/2251799813685248) (s4%2251799813685248+s3/2251799813685248):=by
 refine ⟨_,?_,?_,rfl⟩
 ·simp only [T7]
  apply El.mk5<;>omega
 ·obtain ⟨k,hk⟩:=Qg5 (x0:=(19*(s4/2251799813685248)+s0%2251799813685248)%2251799813685248) (x1:=s1%2251799813685248+s0/2251799813685248+(19*(s4/2251799813685248)+s0%2251799813685248)/2251799813685248) (x2:=s2%2251799813685248+s1/2251799813685248) (x3:=s3%2251799813685248+s2/2251799813685248) (x4:=s4%2251799813685248+s3/2251799813685248)
  refine ⟨k+s4/2251799813685248,?_⟩
  rw [Kw,←Kc,hk]
  simp only [v51,num,Go.Fp.Qd4]
  omega
theorem Uw {x y:List Nat} (hx:El x (2^52)) (hy:El y (2^52)):∃ r,evVal T 76 [eV x,eV y]=some (eV r)∧El r (2^52)∧fe r=fe x*fe y:=by
 obtain ⟨x0,x1,x2,x3,x4,rfl,a0,a1,a2,a3,a4⟩:=hx.five
 obtain ⟨y0,y1,y2,y3,y4,rfl,b0,b1,b2,b3,b4⟩:=hy.five
 have m1:19*x1%18446744073709551616=19*x1:=by omega
 have m2:19*x2%18446744073709551616=19*x2:=by omega
 have m3:19*x3%18446744073709551616=19*x3:=by omega
 have m4:19*x4%18446744073709551616=19*x4:=by omega
 have t00:=Qec (x:=x0) (y:=y0) (by omega) (by omega)
 have p00:x0*y0<2^109:=Wp (by omega) (by omega)
 have p01:19*x1*y4<2^109:=Wp (by omega) (by omega)
 have p02:19*x2*y3<2^109:=Wp (by omega) (by omega)
 have p03:19*x3*y2<2^109:=Wp (by omega) (by omega)
 have p04:19*x4*y1<2^109:=Wp (by omega) (by omega)
 have t01:=B4 (n:=x0*y0) (x:=19*x1) (y:=y4) (by omega) (by omega) (by omega)
 have t02:=B4 (n:=x0*y0+19*x1*y4) (x:=19*x2) (y:=y3) (by omega) (by omega) (by omega)
 have t03:=B4 (n:=x0*y0+19*x1*y4+19*x2*y3) (x:=19*x3) (y:=y2) (by omega) (by omega) (by omega)
 have t04:=B4 (n:=x0*y0+19*x1*y4+19*x2*y3+19*x3*y2) (x:=19*x4) (y:=y1) (by omega) (by omega) (by omega)
 have q0:=T3 p00 p01 p02 p03 p04
 have t10:=Qec (x:=x0) (y:=y1) (by omega) (by omega)
 have p10:x0*y1<2^109:=Wp (by omega) (by omega)
 have p11:x1*y0<2^109:=Wp (by omega) (by omega)
 have p12:19*x2*y4<2^109:=Wp (by omega) (by omega)
 have p13:19*x3*y3<2^109:=Wp (by omega) (by omega)
 have p14:19*x4*y2<2^109:=Wp (by omega) (by omega)
 have t11:=B4 (n:=x0*y1) (x:=x1) (y:=y0) (by omega) (by omega) (by omega)
 have t12:=B4 (n:=x0*y1+x1*y0) (x:=19*x2) (y:=y4) (by omega) (by omega) (by omega)
 have t13:=B4 (n:=x0*y1+x1*y0+19*x2*y4) (x:=19*x3) (y:=y3) (by omega) (by omega) (by omega)
 have t14:=B4 (n:=x0*y1+x1*y0+19*x2*y4+19*x3*y3) (x:=19*x4) (y:=y2) (by omega) (by omega) (by omega)
 have q1:=T3 p10 p11 p12 p13 p14
 have t20:=Qec (x:=x0) (y:=y2) (by omega) (by omega)
 have p20:x0*y2<2^109:=Wp (by omega) (by omega)
 have p21:x1*y1<2^109:=Wp (by omega) (by omega)
 have p22:x2*y0<2^109:=Wp (by omega) (by omega)
 have p23:19*x3*y4<2^109:=Wp (by omega) (by omega)
 have p24:19*x4*y3<2^109:=Wp (by omega) (by omega)
 have t21:=B4 (n:=x0*y2) (x:=x1) (y:=y1) (by omega) (by omega) (by omega)
 have t22:=B4 (n:=x0*y2+x1*y1) (x:=x2) (y:=y0) (by omega) (by omega) (by omega)
 have t23:=B4 (n:=x0*y2+x1*y1+x2*y0) (x:=19*x3) (y:=y4) (by omega) (by omega) (by omega)
 have t24:=B4 (n:=x0*y2+x1*y1+x2*y0+19*x3*y4) (x:=19*x4) (y:=y3) (by omega) (by omega) (by omega)
 have q2:=T3 p20 p21 p22 p23 p24
 have t30:=Qec (x:=x0) (y:=y3) (by omega) (by omega)
 have p30:x0*y3<2^109:=Wp (by omega) (by omega)
 have p31:x1*y2<2^109:=Wp (by omega) (by omega)
 have p32:x2*y1<2^109:=Wp (by omega) (by omega)
 have p33:x3*y0<2^109:=Wp (by omega) (by omega)
 have p34:19*x4*y4<2^109:=Wp (by omega) (by omega)
 have t31:=B4 (n:=x0*y3) (x:=x1) (y:=y2) (by omega) (by omega) (by omega)
 have t32:=B4 (n:=x0*y3+x1*y2) (x:=x2) (y:=y1) (by omega) (by omega) (by omega)
 have t33:=B4 (n:=x0*y3+x1*y2+x2*y1) (x:=x3) (y:=y0) (by omega) (by omega) (by omega)
 have t34:=B4 (n:=x0*y3+x1*y2+x2*y1+x3*y0) (x:=19*x4) (y:=y4) (by omega) (by omega) (by omega)
 have q3:=T3 p30 p31 p32 p33 p34
 have t40:=Qec (x:=x0) (y:=y4) (by omega) (by omega)
 have p40:x0*y4<2^109:=Wp (by omega) (by omega)
 have p41:x1*y3<2^109:=Wp (by omega) (by omega)
 have p42:x2*y2<2^109:=Wp (by omega) (by omega)
 have p43:x3*y1<2^109:=Wp (by omega) (by omega)
 have p44:x4*y0<2^109:=Wp (by omega) (by omega)
 have t41:=B4 (n:=x0*y4) (x:=x1) (y:=y3) (by omega) (by omega) (by omega)
 have t42:=B4 (n:=x0*y4+x1*y3) (x:=x2) (y:=y2) (by omega) (by omega) (by omega)
 have t43:=B4 (n:=x0*y4+x1*y3+x2*y2) (x:=x3) (y:=y1) (by omega) (by omega) (by omega)
 have t44:=B4 (n:=x0*y4+x1*y3+x2*y2+x3*y1) (x:=x4) (y:=y0) (by omega) (by omega) (by omega)
 have q4:=T3 p40 p41 p42 p43 p44
 obtain ⟨r,hr1,⟨k,hr2⟩,hr3⟩:=Q9r q0 q1 q2 q3 q4
 have d0:=Qee (n:=x0*y0+19*x1*y4+19*x2*y3+19*x3*y2+19*x4*y1) (by omega)
 have d1:=Qee (n:=x0*y1+x1*y0+19*x2*y4+19*x3*y3+19*x4*y2) (by omega)
 have d2:=Qee (n:=x0*y2+x1*y1+x2*y0+19*x3*y4+19*x4*y3) (by omega)
 have d3:=Qee (n:=x0*y3+x1*y2+x2*y1+x3*y0+19*x4*y4) (by omega)
 have d4:=Qee (n:=x0*y4+x1*y3+x2*y2+x3*y1+x4*y0) (by omega)
 refine ⟨r,?_,hr1,?_⟩
 ·rw [hr3]
  clear hr2 hr3
  generalize x0*y0+19*x1*y4+19*x2*y3+19*x3*y2+19*x4*y1=s0,x0*y1+x1*y0+19*x2*y4+19*x3*y3+19*x4*y2=s1,x0*y2+x1*y1+x2*y0+19*x3*y4+19*x4*y3=s2,x0*y3+x1*y2+x2*y1+x3*y0+19*x4*y4=s3,x0*y4+x1*y3+x2*y2+x3*y1+x4*y0=s4 at *
  have u1:=Qec (x:=19) (y:=s4/2251799813685248) (by omega) (by omega)
  have u2:=Zdy (n:=19*(s4/2251799813685248)) (x:=s0%2251799813685248) (by omega) (by omega)
  have u3:=Qee (n:=19*(s4/2251799813685248)+s0%2251799813685248) (by omega)
  have w1:(s1%2251799813685248+s0/2251799813685248)%18446744073709551616=s1%2251799813685248+s0/2251799813685248:=by omega
  have w2:(s1%2251799813685248+s0/2251799813685248+(19*(s4/2251799813685248)+s0%2251799813685248)/2251799813685248)%18446744073709551616=s1%2251799813685248+s0/2251799813685248+(19*(s4/2251799813685248)+s0%2251799813685248)/2251799813685248:=by omega
  have w3:(s2%2251799813685248+s1/2251799813685248)%18446744073709551616=s2%2251799813685248+s1/2251799813685248:=by omega
  have w4:(s3%2251799813685248+s2/2251799813685248)%18446744073709551616=s3%2251799813685248+s2/2251799813685248:=by omega
  have w5:(s4%2251799813685248+s3/2251799813685248)%18446744073709551616=s4%2251799813685248+s3/2251799813685248:=by omega
  have v1:=Qb0 (x0:=(19*(s4/2251799813685248)+s0%2251799813685248)%2251799813685248) (x1:=s1%2251799813685248+s0/2251799813685248+(19*(s4/2251799813685248)+s0%2251799813685248)/2251799813685248) (x2:=s2%2251799813685248+s1/2251799813685248) (x3:=s3%2251799813685248+s2/2251799813685248) (x4:=s4%2251799813685248+s3/2251799813685248) (by omega) (by omega) (by omega) (by omega) (by omega)
  simp only [U0] at u1
  have hz:Qa 5 (Value.int .u64 0)=[.int .u64 0,.int .u64 0,.int .u64 0,.int .u64 0,.int .u64 0]:=rfl
  have hf:∀ a b c d e:Int,fillL [Value.int .u64 0,.int .u64 0,.int .u64 0,.int .u64 0,.int .u64 0] [(0,1,.int .u64 a),(1,1,.int .u64 b),(2,1,.int .u64 c),(3,1,.int .u64 d),(4,1,.int .u64 e)]=some [.int .u64 a,.int .u64 b,.int .u64 c,.int .u64 d,.int .u64 e]:=fun _ _ _ _ _=>rfl
  have hf5:∀ a b c d e:Int,fillL [Value.int .u64 0,.int .u64 0,.int .u64 0,.int .u64 0,.int .u64 0] [(0,5,.agg [.int .u64 a,.int .u64 b,.int .u64 c,.int .u64 d,.int .u64 e].toArray)]=some [.int .u64 a,.int .u64 b,.int .u64 c,.int .u64 d,.int .u64 e]:=fun _ _ _ _ _=>rfl
  have hr5:∀ a b c d e:Int,rf (.agg [.int .u64 a,.int .u64 b,.int .u64 c,.int .u64 d,.int .u64 e].toArray)=true:=fun _ _ _ _ _=>rfl
  have hw:∀ n,(wV n).cells.size=2:=fun _=>rfl
  have hw2:∀ n,(wV n).cells.toList=[.int .u64 ((n/18446744073709551616:Nat):Int),.int .u64 ((n%18446744073709551616:Nat):Int)]:=fun _=>rfl
  have hw3:∀ n,Yj (wV n)=true:=fun _=>rfl
  have hw4:∀ n,Value.agg [.int .u64 ((n/18446744073709551616:Nat):Int),.int .u64 ((n%18446744073709551616:Nat):Int)].toArray=wV n:=fun _=>rfl
  simp only [eV,Rk,Qdm] at v1 ⊢
  generalize hc:ns .u64 (T7 ((19*(s4/2251799813685248)+s0%2251799813685248)%2251799813685248) (s1%2251799813685248+s0/2251799813685248+(19*(s4/2251799813685248)+s0%2251799813685248)/2251799813685248) (s2%2251799813685248+s1/2251799813685248) (s3%2251799813685248+s2/2251799813685248) (s4%2251799813685248+s3/2251799813685248))=C at *
  have hC:C.length=5:=by rw [←hc]; rfl
  have hCr:rf (.agg C.toArray)=true:=by rw [←hc]; exact Qxx _ _
  apply Jx
  apply Zu
  rw [Zz (fn:=a51) rfl]
  simp only [a51,Zw,quiet,cF,↓pF,reduceCtorEq,Qb,Qq,Zj,X8,↓Zy,↓Zx,↓Z7,↓Jb,↓Z9,↓Ja,cL,Qp,Qo,Qy,Qx,Qv,Ql,Qk,Qw,Qc,Q1,Q2,Qr,Qg,Qi,Qh,Qu,Qt,Qs,Qn,Qd,cJ,cU,hz,m1,m2,m3,m4,t00,t01,t02,t03,t04,t10,t11,t12,t13,t14,t20,t21,t22,t23,t24,t30,t31,t32,t33,t34,t40,t41,t42,t43,t44,d0,d1,d2,d3,d4,u1,u2,u3,w1,w2,w3,w4,w5,hf,hf5,hr5,v1,rf_wV,hw,hw2,hw3,hw4,hC,hCr]
  rfl
 ·unfold fe
  rw [←Go.Fp.Ge]
  have h:=Q9s 2251799813685248 Go.Fp.P x0 x1 x2 x3 x4 y0 y1 y2 y3 y4 (by rw [Go.Fp.Qd4])
  have e:v51 [x0,x1,x2,x3,x4]*v51 [y0,y1,y2,y3,y4]=v51 r+(k+(x1*y4+x2*y3+x3*y2+x4*y1+2251799813685248*(x2*y4+x3*y3+x4*y2+2251799813685248*(x3*y4+x4*y3+2251799813685248*(x4*y4)))))*Go.Fp.P:=by
   simp only [v51,num] at hr2 h ⊢
   rw [h,←hr2,Kc,←Kw]
  exact Zcb e.symm
theorem Qmn {V w q s:Nat} (hs:s<w):V/(2^w)^q%2^w/2^s%2=V/2^(w*q+s)%2:=by
 have h1:(2:Nat)^w=2^s*2^(w-s):=by rw [←Ud]; congr 1; omega
 conv=>lhs; rw [show V/(2^w)^q%2^w=V/(2^w)^q%(2^s*2^(w-s)) from by rw [←h1]]
 have h2:(2:Nat)∣2^(w-s):=by
  obtain ⟨m,hm⟩:∃ m,w-s=m+1:=⟨w-s-1,by omega⟩
  rw [hm,Kv]
  exact Quu 2 _
 rw [Qcz,Rx _ h2,Kb,←Y5,←Ud]
theorem Qug (V i:Nat):V%2^i+V/2^i%2*2^i=V%2^(i+1):=by
 rw [Nat.mod_pow_succ,Ve (2^i)]
theorem Qcp (V i:Nat):V/2^i%2<2:=Jo _ (by decide)
theorem Qcc {n b:Nat} (h:n≤b):(2:Int)^min n b=((2^n:Nat):Int):=by rw [Vz h]; simp
theorem Qef {n:Nat} (hn:n<4294967296):evVal T 73 [.int .u32 n]=some (eV [n,0,0,0,0]):=by
 have hz:Qa 5 (Value.int .u64 0)=[.int .u64 0,.int .u64 0,.int .u64 0,.int .u64 0,.int .u64 0]:=rfl
 have hf:∀ a:Int,fillL [Value.int .u64 0,.int .u64 0,.int .u64 0,.int .u64 0,.int .u64 0] [(0,1,.int .u64 a)]=some [.int .u64 a,.int .u64 0,.int .u64 0,.int .u64 0,.int .u64 0]:=fun _=>rfl
 have hf5:∀ a b c d e:Int,fillL [Value.int .u64 0,.int .u64 0,.int .u64 0,.int .u64 0,.int .u64 0] [(0,5,.agg [.int .u64 a,.int .u64 b,.int .u64 c,.int .u64 d,.int .u64 e].toArray)]=some [.int .u64 a,.int .u64 b,.int .u64 c,.int .u64 d,.int .u64 e]:=fun _ _ _ _ _=>rfl
 have hm:n%18446744073709551616=n:=by omega
 apply Jx
 apply Zu
 rw [Zz (fn:=a50) rfl]
 simp only [a50,Zw,quiet,cF,↓pF,reduceCtorEq,Qb,Qq,Zj,X8,↓Zy,↓Zx,↓Z7,↓Jb,↓Z9,↓Ja,cL,Qp,Qo,Qy,Qx,Qv,Ql,Qk,Qw,Qc,Q1,Q2,Qr,Qg,Qi,Qh,Qu,Qt,Qs,Qn,Qd,cJ,cU,hz,hf,hf5,hm,eV,Rk,Qdm]
 rfl
theorem Qbk {n:Nat} (hn:n<2^52):El [n,0,0,0,0] (2^52):=El.mk5 hn (by decide) (by decide) (by decide) (by decide)
theorem Qbj (n:Nat):fe [n,0,0,0,0]=Go.Fp.fp n:=by simp [fe,v51,num]
def ofX (V i:Nat):List Nat:=dig (2^51) 5 (V%2^i)
def Qs5 (k x:List Nat) (i:Nat) (ex:Env):St:=⟨[(1,.pointer (some ⟨0,0,none⟩)),(2,.pointer (some ⟨1,0,none⟩)),(3,.pointer (some ⟨2,0,none⟩)),(5,.int .i64 i)]++ex,[⟨u8s k,true,true,true,1⟩,⟨ns .u64 [0,0,0,0,0],true,true,true,1⟩,⟨ns .u64 x,true,true,true,1⟩],[]⟩
theorem Q4w {k:List Nat} (lk:k.length=32) (xk:∀ x∈k,x<256) {i:Nat} (hi:i<255) :
  Jl T 0 Qnc (Qs5 k (ofX (num 256 k) i) i [])=some (.normal,Qs5 k (ofX (num 256 k) (i+1)) (i+1) []):=by
 obtain ⟨b,hb⟩:∃ b,k[i/8]?=some b:=⟨_,Q3 (by omega)⟩
 have hbv:=G8 (B:=256) (by decide) xk hb
 have hbc:=Wy hb
 have hlen:(ofX (num 256 k) i).length=5:=Km _ _ _
 obtain ⟨y,hy⟩:∃ b,(ofX (num 256 k) i)[i/51]?=some b:=⟨_,Q3 (by omega)⟩
 have hyc:=Yy (k := .u64) hy
 have hy':y<2^51:=Dh (by decide) (Zp hy)
 have hbit:b/2^(i%8)%2=num 256 k/2^i%2:=by
  rw [←hbv,show (256:Nat)=2^8 from rfl,Qmn (Jo _ (by decide)),Ya]
 have hput:=Qkh (w:=51) (m:=5) (q:=i/51) (s:=i%51) (y:=num 256 k/2^i%2) (M:=num 256 k%2^i) (by omega) (Jo _ (by decide)) (by rw [Ya]; exact Jo _ (Us (by decide))) (by
  have h1:=Qcp (num 256 k) i
  have h2:(2:Nat)^(i%51)≤2^50:=Vr (by decide) (by have:=Jo i (by decide:0<51); omega)
  have h3:num 256 k/2^i%2*2^(i%51)≤1*2^50:=Um (by omega) h2
  omega)
 rw [Ya,Qug] at hput
 have hgd:(dig (2^51) 5 (num 256 k%2^i)).getD (i/51) 0=y:=by rw [Jz]; unfold ofX at hy; rw [hy]; rfl
 rw [hgd] at hput
 have hset:=Bf .u64 (ofX (num 256 k) i) (i/51) (y|||num 256 k/2^i%2*2^(i%51))
 rw [show (ofX (num 256 k) i).set (i/51) (y|||num 256 k/2^i%2*2^(i%51))=ofX (num 256 k) (i+1) from hput] at hset
 have hbl:=Qcp (num 256 k) i
 have h50:(2:Nat)^(i%51)≤2^50:=Vr (by decide) (by have:=Jo i (by decide:0<51); omega)
 have hprod:num 256 k/2^i%2*2^(i%51)≤1*2^50:=Um (by omega) h50
 have s1:(2:Int)^min (i%8) IntKind.u8.bits=((2^(i%8):Nat):Int):=Qcc (W3 (Jo _ (by decide)))
 have s2:(2:Int)^min (i%51) IntKind.u64.bits=((2^(i%51):Nat):Int):=Qcc (by have:=Jo i (by decide:0<51); exact Uz (W3 this) (by decide))
 have o1:Vx .or .u64 (y:Int) ((num 256 k/2^i%2*2^(i%51):Nat):Int)=((y|||num 256 k/2^i%2*2^(i%51):Nat):Int):=Hg rfl (by show _<18446744073709551616; omega) (by show _<18446744073709551616; omega)
 have n1:(num 256 k/2^i%2*2^(i%51))%18446744073709551616=num 256 k/2^i%2*2^(i%51):=by omega
 have n2:(num 256 k/2^i%2)%18446744073709551616=num 256 k/2^i%2:=by omega
 have w1:IntKind.i64.wrap ((i/51:Nat):Int)=((i/51:Nat):Int):=Yi (by omega)
 have w2:IntKind.i64.wrap ((i/8:Nat):Int)=((i/8:Nat):Int):=Yi (by omega)
 have w3:IntKind.i64.wrap ((i+1:Nat):Int)=((i+1:Nat):Int):=Yi (by omega)
 have e1:((i:Int)<255)=True:=eq_true (by omega)
 have e2:(((i/51:Nat):Int)<5)=True:=eq_true (by omega)
 have e3:(((i/8:Nat):Int)<32)=True:=eq_true (by omega)
 have e4:(((i%8:Nat):Int)<0)=False:=eq_false (by omega)
 have e5:(((i%51:Nat):Int)<0)=False:=eq_false (by omega)
 have e6:i/51+1≤5:=by omega
 simp only [Qs5,Qnc,Zw,quiet,cF,↓pF,reduceCtorEq,Qb,Qq,Zj,X8,↓Zy,↓Zx,↓Z7,↓Jb,↓Z9,↓Ja,cL,Qp,Qo,Qy,Qx,Qv,Ql,Qk,Qw,Qc,Q1,Q2,Qr,Qg,Qi,Qh,Qu,Qt,Qs,Qn,Qd,cJ,cU,hbc,hyc,hbit,s1,s2,o1,n1,n2,w1,w2,w3,e1,e2,e3,e4,e5,e6,hset,J0,hlen]
theorem Q0c {k:List Nat} (lk:k.length=32) (xk:∀ x∈k,x<256):evVal T 72 [.agg (u8s k).toArray]=some (eV (dig (2^51) 5 (num 256 k%2^255))):=by
 have hz:Qa 5 (Value.int .u64 0)=ns .u64 [0,0,0,0,0]:=rfl
 have hb:=Wf (T:=T) (base:=0) (id:=0) (body:=Qnc) (fun i=>Qs5 k (ofX (num 256 k) i) i []) (s':=Qs5 k (ofX (num 256 k) 255) 255 [(6,.bool false)]) 255 (fun i hi=>Q4w lk xk hi) (by
  simp only [Qs5,Qnc,Zw,quiet,cF,↓pF,reduceCtorEq,Qb,Qq,Zj,X8,↓Zy,↓Zx,↓Z7,↓Jb,↓Z9,↓Ja,cL,Qp,Qo,Qy,Qx,Qv,Ql,Qk,Qw,Qc,Q1,Q2,Qr,Qg,Qi,Qh,Qu,Qt,Qs,Qn,Qd])
 have h0:ofX (num 256 k) 0=[0,0,0,0,0]:=by unfold ofX; rw [Yv,Quv]; decide
 rw [h0] at hb
 have hlen:(ofX (num 256 k) 255).length=5:=Km _ _ _
 rw [show dig (2^51) 5 (num 256 k%2^255)=ofX (num 256 k) 255 from rfl]
 generalize ofX (num 256 k) 255=X at *
 simp only [Qs5,Ze,Q9,J6] at hb
 apply Jx
 apply Zu
 rw [Zz (fn:=a49) rfl]
 have hl5:(ns .u64 [0,0,0,0,0]).length=5:=rfl
 simp only [a49,Zw,quiet,cF,↓pF,reduceCtorEq,Qb,Qq,Zj,X8,↓Zy,↓Zx,↓Z7,↓Jb,↓Z9,↓Ja,cL,Qp,Qo,Qy,Qx,Qv,Ql,Qk,Qw,Qc,Q1,Q2,Qr,Qg,Qi,Qh,Qu,Qt,Qs,Qn,Qd,cJ,hz,hb,Qs5,eV,hl5,J0,hlen]
 rfl
theorem Qs6 {V:Nat}:El (dig (2^51) 5 V) (2^52):=⟨Km _ _ _,fun x hx=>by have:=Dh (by decide) hx; omega⟩
theorem Qir {V:Nat}:v51 (dig (2^51) 5 (V%2^255))=V%2^255:=by
 have h:=Bq (B:=2^51) (by decide) 5 (V%2^255)
 rw [show ((2:Nat)^51)^5=2^255 from by rw [←Y5],Ha] at h
 exact h
theorem dm (a b:Nat):∃ r,a=b*(a/b)+r∧a%b=r∧(0<b→r<b):=⟨a%b,(Ya a b).symm,rfl,fun h=>Jo _ h⟩
theorem Q1m {x0 x1 x2 x3 x4:Nat} (h0:x0<9223372036854775808) (h1:x1<9223372036854775808) (h2:x2<9223372036854775808) (h3:x3<9223372036854775808) (h4:x4<9223372036854775808) :
  ∃ y0 y1 y2 y3 y4 z0 z1 z2 z3 z4,T7 x0 x1 x2 x3 x4=[y0,y1,y2,y3,y4]∧y0<9223372036854775808∧y1<9223372036854775808∧y2<9223372036854775808∧y3<9223372036854775808∧y4<9223372036854775808 ∧
   T7 y0 y1 y2 y3 y4=[z0,z1,z2,z3,z4]∧z0<2251799813685248+19∧z1<2251799813685248∧z2<2251799813685248∧z3<2251799813685248∧z4<2251799813685248∧(∃ k,v51 [z0,z1,z2,z3,z4]+k*Go.Fp.P=v51 [x0,x1,x2,x3,x4]):=by
 have key:∀ y0 y1 y2 y3 y4:Nat,y0<2251799813685248+19*8192→y1<2251799813685248→y2<2251799813685248→y3<2251799813685248→y4<2251799813685248→T7 x0 x1 x2 x3 x4=[y0,y1,y2,y3,y4] →
   ∃ z0 z1 z2 z3 z4,T7 y0 y1 y2 y3 y4=[z0,z1,z2,z3,z4]∧z0<2251799813685248+19∧z1<2251799813685248∧z2<2251799813685248∧z3<2251799813685248∧z4<2251799813685248∧(∃ k,v51 [z0,z1,z2,z3,z4]+k*Go.Fp.P=v51 [x0,x1,x2,x3,x4]):=by
  intro y0 y1 y2 y3 y4 b0 b1 b2 b3 b4 hy
  refine ⟨_,_,_,_,_,rfl,?_,Jo _ (by decide),Jo _ (by decide),Jo _ (by decide),Jo _ (by decide),?_⟩
  ·have c0:y0/2251799813685248≤1:=by omega
   have c1:(y1+y0/2251799813685248)/2251799813685248≤1:=by omega
   have c2:(y2+(y1+y0/2251799813685248)/2251799813685248)/2251799813685248≤1:=by omega
   have c3:(y3+(y2+(y1+y0/2251799813685248)/2251799813685248)/2251799813685248)/2251799813685248≤1:=by omega
   generalize (y3+(y2+(y1+y0/2251799813685248)/2251799813685248)/2251799813685248)/2251799813685248=c at *
   rcases Yp y0 2251799813685248 with h | h
   ·
    have d0:y0/2251799813685248=0:=by omega
    have c4:(y4+c)/2251799813685248≤1:=by omega
    have:=Jo y0 (by decide:0<2251799813685248)
    omega
   ·have c4:(y4+c)/2251799813685248≤1:=by omega
    have:=Jo y0 (by decide:0<2251799813685248)
    omega
  ·obtain ⟨k1,e1⟩:=Qg5 (x0:=y0) (x1:=y1) (x2:=y2) (x3:=y3) (x4:=y4)
   obtain ⟨k2,e2⟩:=Qg5 (x0:=x0) (x1:=x1) (x2:=x2) (x3:=x3) (x4:=x4)
   rw [hy] at e2
   refine ⟨k1+k2,?_⟩
   rw [Kw,←Kc,←e2,←e1]
   rfl
 have c0:x0/2251799813685248<8192:=by omega
 have c1:(x1+x0/2251799813685248)/2251799813685248<8192:=by omega
 have c2:(x2+(x1+x0/2251799813685248)/2251799813685248)/2251799813685248<8192:=by omega
 have c3:(x3+(x2+(x1+x0/2251799813685248)/2251799813685248)/2251799813685248)/2251799813685248<8192:=by omega
 have c4:(x4+(x3+(x2+(x1+x0/2251799813685248)/2251799813685248)/2251799813685248)/2251799813685248)/2251799813685248<8192:=by omega
 have m0:=Jo x0 (by decide:0<2251799813685248)
 have m1:=Jo (x1+x0/2251799813685248) (by decide:0<2251799813685248)
 have m2:=Jo (x2+(x1+x0/2251799813685248)/2251799813685248) (by decide:0<2251799813685248)
 have m3:=Jo (x3+(x2+(x1+x0/2251799813685248)/2251799813685248)/2251799813685248) (by decide:0<2251799813685248)
 have m4:=Jo (x4+(x3+(x2+(x1+x0/2251799813685248)/2251799813685248)/2251799813685248)/2251799813685248) (by decide:0<2251799813685248)
 obtain ⟨z0,z1,z2,z3,z4,g1,g2⟩:=key _ _ _ _ _ (by
  generalize (x4+(x3+(x2+(x1+x0/2251799813685248)/2251799813685248)/2251799813685248)/2251799813685248)/2251799813685248=c,x0%2251799813685248=r at *
  show r+19*c<_
  omega) m1 m2 m3 m4 rfl
 refine ⟨_,_,_,_,_,z0,z1,z2,z3,z4,rfl,?_,Uc m1 (by decide),Uc m2 (by decide),Uc m3 (by decide),Uc m4 (by decide),g1,g2⟩
 generalize (x4+(x3+(x2+(x1+x0/2251799813685248)/2251799813685248)/2251799813685248)/2251799813685248)/2251799813685248=c,x0%2251799813685248=r at *
 show r+19*c<_
 omega
def Qp4 (z0 z1 z2 z3 z4:Nat):Nat:=(z4+(z3+(z2+(z1+(z0+19)/2251799813685248)/2251799813685248)/2251799813685248)/2251799813685248)/2251799813685248
def Q07 (z0 z1 z2 z3 z4:Nat):List Nat :=
 let u0:=z0/2251799813685248
 let u1:=(z1+u0)/2251799813685248
 let u2:=(z2+u1)/2251799813685248
 let u3:=(z3+u2)/2251799813685248
 [z0%2251799813685248,(z1+u0)%2251799813685248,(z2+u1)%2251799813685248,(z3+u2)%2251799813685248,(z4+u3)%2251799813685248]
theorem Zao {z0 z1 z2 z3 z4:Nat} (h0:z0<2251799813685248+19) (h1:z1<2251799813685248) (h2:z2<2251799813685248) (h3:z3<2251799813685248) (h4:z4<2251799813685248) :
  Qp4 z0 z1 z2 z3 z4≤1∧Q07 (z0+19*Qp4 z0 z1 z2 z3 z4) z1 z2 z3 z4=dig (2^51) 5 (v51 [z0,z1,z2,z3,z4]%Go.Fp.P):=by
 have hc:Qp4 z0 z1 z2 z3 z4≤1∧((Qp4 z0 z1 z2 z3 z4=0∧v51 [z0,z1,z2,z3,z4]<Go.Fp.P)∨(Qp4 z0 z1 z2 z3 z4=1∧Go.Fp.P≤v51 [z0,z1,z2,z3,z4])):=by
  simp only [Qp4,v51,num,Go.Fp.Qd4]
  obtain ⟨r0,e0,-,l0⟩:=dm (z0+19) 2251799813685248
  generalize (z0+19)/2251799813685248=t0 at *
  obtain ⟨r1,e1,-,l1⟩:=dm (z1+t0) 2251799813685248
  generalize (z1+t0)/2251799813685248=t1 at *
  obtain ⟨r2,e2,-,l2⟩:=dm (z2+t1) 2251799813685248
  generalize (z2+t1)/2251799813685248=t2 at *
  obtain ⟨r3,e3,-,l3⟩:=dm (z3+t2) 2251799813685248
  generalize (z3+t2)/2251799813685248=t3 at *
  obtain ⟨r4,e4,-,l4⟩:=dm (z4+t3) 2251799813685248
  generalize (z4+t3)/2251799813685248=t4 at *
  have l0:=l0 (by decide)
  have l1:=l1 (by decide)
  have l2:=l2 (by decide)
  have l3:=l3 (by decide)
  have l4:=l4 (by decide)
  omega
 have hP:=Go.Fp.Qd4
 obtain ⟨hc1,hc2⟩:=hc
 refine ⟨hc1,?_⟩
 generalize Qp4 z0 z1 z2 z3 z4=c at *
 have hlt:∀ x∈Q07 (z0+19*c) z1 z2 z3 z4,x<2251799813685248:=by
  intro x hx
  simp only [Q07,Wh,W8,or_false] at hx
  rcases hx with h | h | h | h | h<;>(rw [h]; exact Jo _ (by decide))
 have hnum:num 2251799813685248 (Q07 (z0+19*c) z1 z2 z3 z4)=v51 [z0,z1,z2,z3,z4]%Go.Fp.P:=by
  have hV:v51 [z0,z1,z2,z3,z4]%Go.Fp.P=v51 [z0,z1,z2,z3,z4]-c*Go.Fp.P:=by
   rcases hc2 with ⟨g1,g2⟩ | ⟨g1,g2⟩
   ·rw [Z5 g2,g1]; omega
   ·have g3:v51 [z0,z1,z2,z3,z4]<Go.Fp.P+Go.Fp.P:=by
     simp only [v51,num,Go.Fp.Qd4] at *
     omega
    rw [g1,Ul,Nat.mod_eq_sub_mod g2,Z5 (by omega)]
  rw [hV]
  simp only [Q07,v51,num,Go.Fp.Qd4] at hc2 ⊢
  obtain ⟨r0,e0,f0,l0⟩:=dm (z0+19*c) 2251799813685248
  rw [f0]
  generalize (z0+19*c)/2251799813685248=t0 at *
  obtain ⟨r1,e1,f1,l1⟩:=dm (z1+t0) 2251799813685248
  rw [f1]
  generalize (z1+t0)/2251799813685248=t1 at *
  obtain ⟨r2,e2,f2,l2⟩:=dm (z2+t1) 2251799813685248
  rw [f2]
  generalize (z2+t1)/2251799813685248=t2 at *
  obtain ⟨r3,e3,f3,l3⟩:=dm (z3+t2) 2251799813685248
  rw [f3]
  generalize (z3+t2)/2251799813685248=t3 at *
  obtain ⟨r4,e4,f4,l4⟩:=dm (z4+t3) 2251799813685248
  rw [f4]
  generalize (z4+t3)/2251799813685248=t4 at *
  have l0:=l0 (by decide)
  have l1:=l1 (by decide)
  have l2:=l2 (by decide)
  have l3:=l3 (by decide)
  have l4:=l4 (by decide)
  rcases hc2 with ⟨g1,g2⟩ | ⟨g1,g2⟩<;>subst g1<;>omega
 have h5:=Tc (B:=2251799813685248) (by decide) hlt
 rw [hnum] at h5
 exact h5.symm
def byX (V i:Nat):List Nat:=dig (2^8) 32 (V%2^i)
def Qrb (x k:List Nat) (R:Ob) (i:Nat) (ex:Env):St:=⟨[(1,.pointer (some ⟨0,0,none⟩)),(2,.pointer (some ⟨1,0,none⟩)),(6,.pointer (some ⟨2,0,none⟩)),(54,.int .i64 i)]++ex,[⟨ns .u64 x,true,true,true,1⟩,R,⟨u8s k,true,true,true,1⟩],[]⟩
theorem Q60 {V:Nat} {R:Ob} {i:Nat} (hi:i<255) :
  Jl T 0 Qi6 (Qrb (dig (2^51) 5 V) (byX V i) R i [])=some (.normal,Qrb (dig (2^51) 5 V) (byX V (i+1)) R (i+1) []):=by
 obtain ⟨b,hb⟩:∃ b,(dig (2^51) 5 V)[i/51]?=some b:=⟨_,Q3 (by rw [Km]; omega)⟩
 have hbv:V/(2^51)^(i/51)%2^51=b:=by rw [B6 (by omega)] at hb; exact B0 hb
 have hbc:=Yy (k := .u64) hb
 have hlen:(byX V i).length=32:=Km _ _ _
 obtain ⟨y,hy⟩:∃ b,(byX V i)[i/8]?=some b:=⟨_,Q3 (by omega)⟩
 have hyc:=Wy hy
 have hy':y<2^8:=Dh (by decide) (Zp hy)
 have hbit:b/2^(i%51)%2=V/2^i%2:=by
  rw [←hbv,Qmn (Jo _ (by decide)),Ya]
 have hsm:(2:Nat)^(i%8)≤2^7:=Vr (by decide) (by have:=Jo i (by decide:0<8); omega)
 have hbl:=Qcp V i
 have hprod:V/2^i%2*2^(i%8)≤1*2^7:=Um (by omega) hsm
 have hput:=Qkh (w:=8) (m:=32) (q:=i/8) (s:=i%8) (y:=V/2^i%2) (M:=V%2^i) (by omega) (Jo _ (by decide)) (by rw [Ya]; exact Jo _ (Us (by decide))) (by omega)
 rw [Ya,Qug] at hput
 have hgd:(dig (2^8) 32 (V%2^i)).getD (i/8) 0=y:=by rw [Jz]; unfold byX at hy; rw [hy]; rfl
 rw [hgd] at hput
 have hset:=Ba (byX V i) (i/8) (y|||V/2^i%2*2^(i%8))
 rw [show (byX V i).set (i/8) (y|||V/2^i%2*2^(i%8))=byX V (i+1) from hput] at hset
 have s1:(2:Int)^min (i%8) IntKind.u8.bits=((2^(i%8):Nat):Int):=Qcc (W3 (Jo _ (by decide)))
 have s2:(2:Int)^min (i%51) IntKind.u64.bits=((2^(i%51):Nat):Int):=Qcc (by have:=Jo i (by decide:0<51); exact Uz (W3 this) (by decide))
 have o1:Vx .or .u8 (y:Int) ((V/2^i%2*2^(i%8):Nat):Int)=((y|||V/2^i%2*2^(i%8):Nat):Int):=Hg rfl (by show _<256; omega) (by show _<256; omega)
 have n1:(V/2^i%2*2^(i%8))%256=V/2^i%2*2^(i%8):=by omega
 have n2:(V/2^i%2)%256=V/2^i%2:=by omega
 have w1:IntKind.i64.wrap ((i/51:Nat):Int)=((i/51:Nat):Int):=Yi (by omega)
 have w2:IntKind.i64.wrap ((i/8:Nat):Int)=((i/8:Nat):Int):=Yi (by omega)
 have w3:IntKind.i64.wrap ((i+1:Nat):Int)=((i+1:Nat):Int):=Yi (by omega)
 have e1:((i:Int)<255)=True:=eq_true (by omega)
 have e2:(((i/51:Nat):Int)<5)=True:=eq_true (by omega)
 have e3:(((i/8:Nat):Int)<32)=True:=eq_true (by omega)
 have e4:(((i%8:Nat):Int)<0)=False:=eq_false (by omega)
 have e5:(((i%51:Nat):Int)<0)=False:=eq_false (by omega)
 have e6:i/8+1≤32:=by omega
 simp only [Qrb,Qi6,Zw,quiet,cF,↓pF,reduceCtorEq,Qb,Qq,Zj,X8,↓Zy,↓Zx,↓Z7,↓Jb,↓Z9,↓Ja,cL,Qp,Qo,Qy,Qx,Qv,Ql,Qk,Qw,Qc,Q1,Q2,Qr,Qg,Qi,Qh,Qu,Qt,Qs,Qn,Qd,cJ,cU,hbc,hyc,hbit,s1,s2,o1,n1,n2,w1,w2,w3,e1,e2,e3,e4,e5,e6,hset,Zv,hlen]
theorem Q1o {V:Nat} {R:Ob} (hV:V<2^255):Jl T 0 (.block 4 (.loop Qi6)) (Qrb (dig (2^51) 5 V) (dig 256 32 0) R 0 [])=some (.normal,Qrb (dig (2^51) 5 V) (dig 256 32 V) R 255 [(55,.bool false)]):=by
 have hb:=Wf (T:=T) (base:=0) (id:=4) (body:=Qi6) (fun i=>Qrb (dig (2^51) 5 V) (byX V i) R i []) (s':=Qrb (dig (2^51) 5 V) (byX V 255) R 255 [(55,.bool false)]) 255 (fun i hi=>Q60 hi) (by
  simp only [Qrb,Qi6,Zw,quiet,cF,↓pF,reduceCtorEq,Qb,Qq,Zj,X8,↓Zy,↓Zx,↓Z7,↓Jb,↓Z9,↓Ja,cL,Qp,Qo,Qy,Qx,Qv,Ql,Qk,Qw,Qc,Q1,Q2,Qr,Qg,Qi,Qh,Qu,Qt,Qs,Qn,Qd])
 rw [show byX V 0=dig 256 32 0 from by unfold byX; rw [Yv,Quv],show byX V 255=dig 256 32 V from by unfold byX; rw [Z5 hV]] at hb
 exact hb
theorem Q1n {x0 x1 x2 x3 x4:Nat} (h0:x0<9223372036854775808) (h1:x1<9223372036854775808) (h2:x2<9223372036854775808) (h3:x3<9223372036854775808) (h4:x4<9223372036854775808) :
  evVal T 78 [eV [x0,x1,x2,x3,x4]]=some (.agg (u8s (dig 256 32 (v51 [x0,x1,x2,x3,x4]%Go.Fp.P))).toArray):=by
 obtain ⟨y0,y1,y2,y3,y4,z0,z1,z2,z3,z4,hy,a0,a1,a2,a3,a4,hz,b0,b1,b2,b3,b4,⟨kk,hk⟩⟩:=Q1m h0 h1 h2 h3 h4
 have hV:v51 [x0,x1,x2,x3,x4]%Go.Fp.P=v51 [z0,z1,z2,z3,z4]%Go.Fp.P:=by rw [←hk,Hf]
 obtain ⟨hc,hfin⟩:=Zao b0 b1 b2 b3 b4
 have c1:=Qb0 h0 h1 h2 h3 h4
 have c2:=Qb0 a0 a1 a2 a3 a4
 rw [hy] at c1
 rw [hz] at c2
 have hN:v51 [z0,z1,z2,z3,z4]%Go.Fp.P<2^255:=Uc (Jo _ (by decide)) (by rw [Go.Fp.Qd4]; decide)
 have hb:=Q1o (R:=⟨u8s (dig 256 32 0),true,true,true,1⟩) hN
 rw [hV]
 generalize v51 [z0,z1,z2,z3,z4]%Go.Fp.P=N at *
 have hz5:Qa 5 (Value.int .u64 0)=[.int .u64 0,.int .u64 0,.int .u64 0,.int .u64 0,.int .u64 0]:=rfl
 have hz32:Qa 32 (Value.int .u8 0)=u8s (dig 256 32 0):=rfl
 have hr5:∀ a b c d e:Int,rf (.agg [.int .u64 a,.int .u64 b,.int .u64 c,.int .u64 d,.int .u64 e].toArray)=true:=fun _ _ _ _ _=>rfl
 have hlk:(dig 256 32 N).length=32:=Km _ _ _
 have hl0:(dig 256 32 0).length=32:=rfl
 have f0:(z0+19)%18446744073709551616=z0+19:=by omega
 have f1:(z1+(z0+19)/2251799813685248)%18446744073709551616=z1+(z0+19)/2251799813685248:=by omega
 have f2:(z2+(z1+(z0+19)/2251799813685248)/2251799813685248)%18446744073709551616=z2+(z1+(z0+19)/2251799813685248)/2251799813685248:=by
  generalize (z1+(z0+19)/2251799813685248)=t at *; omega
 have f3:(z3+(z2+(z1+(z0+19)/2251799813685248)/2251799813685248)/2251799813685248)%18446744073709551616=z3+(z2+(z1+(z0+19)/2251799813685248)/2251799813685248)/2251799813685248:=by
  have:(z2+(z1+(z0+19)/2251799813685248)/2251799813685248)/2251799813685248<2251799813685248:=by omega
  generalize (z2+(z1+(z0+19)/2251799813685248)/2251799813685248)/2251799813685248=t at *; omega
 have f4:(z4+(z3+(z2+(z1+(z0+19)/2251799813685248)/2251799813685248)/2251799813685248)/2251799813685248)%18446744073709551616=z4+(z3+(z2+(z1+(z0+19)/2251799813685248)/2251799813685248)/2251799813685248)/2251799813685248:=by
  have:(z2+(z1+(z0+19)/2251799813685248)/2251799813685248)/2251799813685248<2251799813685248:=by omega
  generalize (z2+(z1+(z0+19)/2251799813685248)/2251799813685248)/2251799813685248=t at *; omega
 have ft:(z4+(z3+(z2+(z1+(z0+19)/2251799813685248)/2251799813685248)/2251799813685248)/2251799813685248)/2251799813685248=Qp4 z0 z1 z2 z3 z4:=rfl
 generalize Qp4 z0 z1 z2 z3 z4=c at *
 have g0:19*c%18446744073709551616=19*c:=by omega
 have g1:(z0+19*c)%18446744073709551616=z0+19*c:=by omega
 have g2:(z0+19*c+0)%18446744073709551616=z0+19*c:=by omega
 have k0:(z0+19*c)/2251799813685248<8:=by omega
 have g3:(z1+(z0+19*c)/2251799813685248)%18446744073709551616=z1+(z0+19*c)/2251799813685248:=by omega
 have k1:(z1+(z0+19*c)/2251799813685248)/2251799813685248<8:=by omega
 have g4:(z2+(z1+(z0+19*c)/2251799813685248)/2251799813685248)%18446744073709551616=z2+(z1+(z0+19*c)/2251799813685248)/2251799813685248:=by
  generalize (z1+(z0+19*c)/2251799813685248)/2251799813685248=t at *; omega
 have k2:(z2+(z1+(z0+19*c)/2251799813685248)/2251799813685248)/2251799813685248<8:=by
  generalize (z1+(z0+19*c)/2251799813685248)/2251799813685248=t at *; omega
 have g5:(z3+(z2+(z1+(z0+19*c)/2251799813685248)/2251799813685248)/2251799813685248)%18446744073709551616=z3+(z2+(z1+(z0+19*c)/2251799813685248)/2251799813685248)/2251799813685248:=by
  generalize (z2+(z1+(z0+19*c)/2251799813685248)/2251799813685248)/2251799813685248=t at *; omega
 have k3:(z3+(z2+(z1+(z0+19*c)/2251799813685248)/2251799813685248)/2251799813685248)/2251799813685248<8:=by
  generalize (z2+(z1+(z0+19*c)/2251799813685248)/2251799813685248)/2251799813685248=t at *; omega
 have g6:(z4+(z3+(z2+(z1+(z0+19*c)/2251799813685248)/2251799813685248)/2251799813685248)/2251799813685248)%18446744073709551616=z4+(z3+(z2+(z1+(z0+19*c)/2251799813685248)/2251799813685248)/2251799813685248)/2251799813685248:=by
  generalize (z3+(z2+(z1+(z0+19*c)/2251799813685248)/2251799813685248)/2251799813685248)/2251799813685248=t at *; omega
 rw [←hfin] at hb
 simp only [eV,Rk,Qdm] at c1 c2 ⊢
 simp only [Qrb,Q07,Rk,Qdm,Ze,Q9,J6] at hb
 apply Jx
 apply Zu
 rw [Zz (fn:=a57) rfl]
 have u0:=fun s=>@Wr T 0 Qna s
 have u1:=fun s=>@Wr T 0 Qnb s
 have v0:=fun s=>@J1 T 0 0 (.loop Qna) s
 have v1:=fun s=>@J1 T 0 2 (.loop Qnb) s
 have d0:∀ s,Jl T 0 Qna s=Jl T 0 _ s:=fun s=>congrArg (fun c=>Jl T 0 c s) Qna.eq_1
 have d1:∀ s,Jl T 0 Qnb s=Jl T 0 _ s:=fun s=>congrArg (fun c=>Jl T 0 c s) Qnb.eq_1
 simp only [a57,Zw,quiet,cF,↓pF,reduceCtorEq,Qb,Qq,Zj,X8,↓Zy,↓Zx,↓Z7,↓Jb,↓Z9,↓Ja,cL,Qp,Qo,Qy,Qx,Qv,Ql,Qk,Qw,Qc,Q1,Q2,Qr,Qg,Qi,Qh,Qu,Qt,Qs,Qn,Qd,cJ,cU,hz5,hz32,c1,c2,hr5,u0,u1,v0,v1,d0,d1,f0,f1,f2,f3,f4,ft,g0,g1,g2,g3,g4,g5,g6,hb,Zv,hlk,hl0]
 rfl
theorem key_inj {a b:Nat} (ha:a<256^32) (hb:b<256^32):(dig 256 32 a==dig 256 32 b)=decide (a=b):=by
 by_cases h:a=b
 ·subst h; simp
 ·have:¬ dig 256 32 a=dig 256 32 b:=fun he=>h (by
   have h1:=congrArg (num 256) he
   rwa [Bq (by decide),Bq (by decide),Z5 ha,Z5 hb] at h1)
  rw [decide_eq_false h,beq_eq_false_iff_ne.2 this]
theorem P_lt:Go.Fp.P<256^32:=by rw [Go.Fp.Qd4]; decide
theorem Zec (l:List Nat):(fe l).val=v51 l%Go.Fp.P:=rfl
theorem Qcm {l:List Nat} (h:El l (2^52)):evVal T 78 [eV l]=some (.agg (u8s (dig 256 32 (fe l).val)).toArray):=by
 obtain ⟨x0,x1,x2,x3,x4,rfl,a0,a1,a2,a3,a4⟩:=h.five
 exact Q1n (by omega) (by omega) (by omega) (by omega) (by omega)
theorem Zcc (a:Go.Fp.Fe):a.val<256^32:=Uc a.isLt P_lt
theorem Q6g (a b:Go.Fp.Fe):(dig 256 32 a.val==dig 256 32 b.val)=decide (a=b):=by
 rw [key_inj (Zcc a) (Zcc b)]
 by_cases h:a=b
 ·subst h; simp
 ·have:¬ a.val=b.val:=fun he=>h (Fin.ext he)
  rw [decide_eq_false h,decide_eq_false this]
theorem Jf (l:List Nat):(eV l).cells.toList=ns .u64 l:=rfl
theorem Jt (l:List Nat):(eV l).cells.size=l.length:=J0 _ _
theorem Ku (l:List Nat):Yj (eV l)=true:=rfl
theorem Ju (l:List Nat):Value.agg (ns .u64 l).toArray=eV l:=rfl
theorem Zav {x y:List Nat} (hx:El x (2^52)) (hy:El y (2^52)):evVal T 146 [eV x,eV y]=some (.bool (decide (fe x=fe y))):=by
 have h1:=Qcm hx
 have h2:=Qcm hy
 have l1:=hx.len
 have l2:=hy.len
 apply Jx
 apply Zu
 rw [Zz (fn:=a55) rfl]
 simp only [a55,Zw,quiet,cF,↓pF,reduceCtorEq,Qb,Qq,Zj,X8,↓Zy,↓Zx,↓Z7,↓Jb,↓Z9,↓Ja,cL,Qp,Qo,Qy,Qx,Qv,Ql,Qk,Qw,Qc,Q1,Q2,Qr,Qg,Qi,Qh,Qu,Qt,Qs,Qn,Qd,cJ,Jf,Jt,Ku,Ju,J0,l1,l2,h1,h2,He,Km,Q6g,Ko]
 rfl
theorem Q5l {x:List Nat} (hx:El x (2^52)):evVal T 92 [eV x]=some (.bool (decide (fe x=0))):=by
 have h1:=Qcm hx
 have l1:=hx.len
 have f0:fillL (Qa 32 (Value.int .u8 0)) []=some (u8s (dig 256 32 (0:Go.Fp.Fe).val)):=rfl
 apply Jx
 apply Zu
 rw [Zz (fn:=a63) rfl]
 simp only [a63,Zw,quiet,cF,↓pF,reduceCtorEq,Qb,Qq,Zj,X8,↓Zy,↓Zx,↓Z7,↓Jb,↓Z9,↓Ja,cL,Qp,Qo,Qy,Qx,Qv,Ql,Qk,Qw,Qc,Q1,Q2,Qr,Qg,Qi,Qh,Qu,Qt,Qs,Qn,Qd,cJ,Jf,Jt,Ku,Ju,J0,l1,h1,f0,He,Km,Q6g,Ko]
 rfl
theorem Q4x {x:List Nat} (hx:El x (2^52)):evVal T 103 [eV x]=some (.bool (decide ((fe x).val%2=1))):=by
 have h1:=Qcm hx
 have l1:=hx.len
 have h0:(u8s (dig 256 32 (fe x).val))[0]?=some (.int .u8 (((fe x).val%256:Nat):Int)):=by
  apply Wy
  rw [B6 (by decide),Yv,Ww]
 have hm:(fe x).val%256%2=(fe x).val%2:=by omega
 have hd:((((fe x).val%2:Nat):Int)==1)=decide ((fe x).val%2=1):=by
  by_cases h:(fe x).val%2=1
  ·rw [h]; rfl
  ·have:¬ ((((fe x).val%2:Nat):Int)=1):=by omega
   rw [decide_eq_false h,beq_eq_false_iff_ne.2 this]
 apply Jx
 apply Zu
 rw [Zz (fn:=a58) rfl]
 simp only [a58,Zw,quiet,cF,↓pF,reduceCtorEq,Qb,Qq,Zj,X8,↓Zy,↓Zx,↓Z7,↓Jb,↓Z9,↓Ja,cL,Qp,Qo,Qy,Qx,Qv,Ql,Qk,Qw,Qc,Q1,Q2,Qr,Qg,Qi,Qh,Qu,Qt,Qs,Qn,Qd,cJ,cU,Jf,Jt,Ku,Ju,J0,l1,h1,h0,hm,hd,Zv,Km,Ko]
 rfl
theorem Qub {k:List Nat} (lk:k.length=32) (xk:∀ x∈k,x<256):evVal T 87 [.agg (u8s k).toArray]=some (.bool (decide (num 256 k<Go.Fp.P))):=by
 have h0:=Q0c lk xk
 have hel:=Qs6 (V:=num 256 k%2^255)
 have h1:=Qcm hel
 rw [Zec,Qir] at h1
 have hb:(dig 256 32 (num 256 k%2^255%Go.Fp.P)==k)=decide (num 256 k<Go.Fp.P):=by
  have hk:=Tc (B:=256) (by decide) xk
  rw [lk] at hk
  have hkl:=num_lt xk
  rw [lk] at hkl
  rw [show (dig 256 32 (num 256 k%2^255%Go.Fp.P)==k)=(dig 256 32 (num 256 k%2^255%Go.Fp.P)==dig 256 32 (num 256 k)) from by rw [hk]]
  have hP:=Go.Fp.Qd4
  rw [key_inj (Uc (Jo _ (by rw [hP]; decide)) P_lt) hkl]
  by_cases h:num 256 k<Go.Fp.P
  ·rw [decide_eq_true h,Z5 (a:=num 256 k) (by rw [hP] at h; omega),Z5 h]; simp
  ·rw [decide_eq_false h,decide_eq_false]
   have:=Jo (num 256 k%2^255) (show 0<Go.Fp.P by rw [hP]; decide)
   omega
 apply Jx
 apply Zu
 rw [Zz (fn:=a59) rfl]
 simp only [a59,Zw,quiet,cF,↓pF,reduceCtorEq,Qb,Qq,Zj,X8,↓Zy,↓Zx,↓Z7,↓Jb,↓Z9,↓Ja,cL,Qp,Qo,Qy,Qx,Qv,Ql,Qk,Qw,Qc,Q1,Q2,Qr,Qg,Qi,Qh,Qu,Qt,Qs,Qn,Qd,cJ,Jf,Jt,Ku,Ju,J0,Zv,lk,h0,h1,He,Km,hb,Ko]
 rfl
end Go.Ev.YtpgphpkjlpkcbaaGreat
namespace Go.Ev.YtpgphpkjlpkcbaaGreat
open Go Go.Ev
attribute [local congr] W5 Up W4 Uq Wo
set_option maxRecDepth 100000
theorem Qyx {x0 x1 x2 x3 x4:Nat} (h0:x0<2^60) (h1:x1<2^60) (h2:x2<2^60) (h3:x3<2^60) (h4:x4<2^60):El (T7 x0 x1 x2 x3 x4) (2^52):=by
 simp only [T7]
 have c0:x0/2251799813685248<1024:=by omega
 have c1:(x1+x0/2251799813685248)/2251799813685248<1024:=by omega
 have c2:(x2+(x1+x0/2251799813685248)/2251799813685248)/2251799813685248<1024:=by omega
 have c3:(x3+(x2+(x1+x0/2251799813685248)/2251799813685248)/2251799813685248)/2251799813685248<1024:=by omega
 have c4:(x4+(x3+(x2+(x1+x0/2251799813685248)/2251799813685248)/2251799813685248)/2251799813685248)/2251799813685248<1024:=by omega
 have m0:=Jo x0 (by decide:0<2251799813685248)
 apply El.mk5
 ·generalize (x4+(x3+(x2+(x1+x0/2251799813685248)/2251799813685248)/2251799813685248)/2251799813685248)/2251799813685248=c at *
  omega
 all_goals exact Uc (Jo _ (by decide)) (by decide)
theorem Qyw {x0 x1 x2 x3 x4:Nat}:fe (T7 x0 x1 x2 x3 x4)=fe [x0,x1,x2,x3,x4]:=by
 obtain ⟨k,hk⟩:=Qg5 (x0:=x0) (x1:=x1) (x2:=x2) (x3:=x3) (x4:=x4)
 exact Zcb hk
theorem Qct {x y:List Nat} (hx:El x (2^52)) (hy:El y (2^52)):∃ r,evVal T 89 [eV x,eV y]=some (eV r)∧El r (2^52)∧fe r=fe x-fe y:=by
 obtain ⟨x0,x1,x2,x3,x4,rfl,a0,a1,a2,a3,a4⟩:=hx.five
 obtain ⟨y0,y1,y2,y3,y4,rfl,b0,b1,b2,b3,b4⟩:=hy.five
 refine ⟨T7 (x0+(9007199254740988-y0)-72) (x1+(9007199254740988-y1)) (x2+(9007199254740988-y2)) (x3+(9007199254740988-y3)) (x4+(9007199254740988-y4)),?_,Qyx (by omega) (by omega) (by omega) (by omega) (by omega),?_⟩
 ·have s0:(9007199254740988+(18446744073709551616-y0%18446744073709551616))%18446744073709551616=9007199254740988-y0:=by omega
  have s1:(9007199254740988+(18446744073709551616-y1%18446744073709551616))%18446744073709551616=9007199254740988-y1:=by omega
  have s2:(9007199254740988+(18446744073709551616-y2%18446744073709551616))%18446744073709551616=9007199254740988-y2:=by omega
  have s3:(9007199254740988+(18446744073709551616-y3%18446744073709551616))%18446744073709551616=9007199254740988-y3:=by omega
  have s4:(9007199254740988+(18446744073709551616-y4%18446744073709551616))%18446744073709551616=9007199254740988-y4:=by omega
  have t0:(x0+(9007199254740988-y0))%18446744073709551616=x0+(9007199254740988-y0):=by omega
  have t1:(x1+(9007199254740988-y1))%18446744073709551616=x1+(9007199254740988-y1):=by omega
  have t2:(x2+(9007199254740988-y2))%18446744073709551616=x2+(9007199254740988-y2):=by omega
  have t3:(x3+(9007199254740988-y3))%18446744073709551616=x3+(9007199254740988-y3):=by omega
  have t4:(x4+(9007199254740988-y4))%18446744073709551616=x4+(9007199254740988-y4):=by omega
  have r0:(x0+(9007199254740988-y0)+18446744073709551544)%18446744073709551616=x0+(9007199254740988-y0)-72:=by omega
  have c1:=Qb0 (x0:=x0+(9007199254740988-y0)-72) (x1:=x1+(9007199254740988-y1)) (x2:=x2+(9007199254740988-y2)) (x3:=x3+(9007199254740988-y3)) (x4:=x4+(9007199254740988-y4)) (by omega) (by omega) (by omega) (by omega) (by omega)
  have hl:(T7 (x0+(9007199254740988-y0)-72) (x1+(9007199254740988-y1)) (x2+(9007199254740988-y2)) (x3+(9007199254740988-y3)) (x4+(9007199254740988-y4))).length=5:=rfl
  generalize T7 (x0+(9007199254740988-y0)-72) (x1+(9007199254740988-y1)) (x2+(9007199254740988-y2)) (x3+(9007199254740988-y3)) (x4+(9007199254740988-y4))=C at *
  have hz5:Qa 5 (Value.int .u64 0)=[.int .u64 0,.int .u64 0,.int .u64 0,.int .u64 0,.int .u64 0]:=rfl
  have hr5:∀ a b c d e:Int,rf (.agg [.int .u64 a,.int .u64 b,.int .u64 c,.int .u64 d,.int .u64 e].toArray)=true:=fun _ _ _ _ _=>rfl
  have u0:=fun s=>@Wr T 0 Qm9 s
  have v0:=fun s=>@J1 T 0 0 (.loop Qm9) s
  have d0:∀ s,Jl T 0 Qm9 s=Jl T 0 _ s:=fun s=>congrArg (fun c=>Jl T 0 c s) Qm9.eq_1
  have hrC:rf (.agg (ns .u64 C).toArray)=true:=Qxx _ _
  simp only [eV,Rk,Qdm] at c1 ⊢
  apply Jx
  apply Zu
  rw [Zz (fn:=a61) rfl]
  simp only [a61,Zw,quiet,cF,↓pF,reduceCtorEq,Qb,Qq,Zj,X8,↓Zy,↓Zx,↓Z7,↓Jb,↓Z9,↓Ja,cL,Qp,Qo,Qy,Qx,Qv,Ql,Qk,Qw,Qc,Q1,Q2,Qr,Qg,Qi,Qh,Qu,Qt,Qs,Qn,Qd,cJ,cU,hz5,c1,hr5,u0,v0,d0,s0,s1,s2,s3,s4,t0,t1,t2,t3,t4,r0,J0,hl,hrC]
  rfl
 ·rw [Qyw]
  have e:v51 [x0+(9007199254740988-y0)-72,x1+(9007199254740988-y1),x2+(9007199254740988-y2),x3+(9007199254740988-y3),x4+(9007199254740988-y4)]+v51 [y0,y1,y2,y3,y4]=v51 [x0,x1,x2,x3,x4]+4*Go.Fp.P:=by
   simp only [v51,num,Go.Fp.Qd4]
   omega
  have h:=congrArg Go.Fp.fp e
  rw [Go.Fp.Dg,Go.Fp.Dg,Go.Fp.Qyp] at h
  unfold fe
  grobner
theorem Qo6 {x:List Nat} (hx:El x (2^52)):∃ r,evVal T 93 [eV x]=some (eV r)∧El r (2^52)∧fe r = -fe x:=by
 have hz:=Qbk (n:=0) (by decide)
 obtain ⟨r,h1,h2,h3⟩:=Qct hz hx
 refine ⟨r,?_,h2,?_⟩
 ·have f0:fillL (ns .u64 [0,0,0,0,0]) []=some (ns .u64 [0,0,0,0,0]):=rfl
  have hz5:Qa 5 (Value.int .u64 0)=ns .u64 [0,0,0,0,0]:=rfl
  have l1:=hx.len
  have l2:=h2.len
  have l0:(ns .u64 [0,0,0,0,0]).length=5:=rfl
  apply Jx
  apply Zu
  rw [Zz (fn:=a64) rfl]
  simp only [a64,Zw,quiet,cF,↓pF,reduceCtorEq,Qb,Qq,Zj,X8,↓Zy,↓Zx,↓Z7,↓Jb,↓Z9,↓Ja,cL,Qp,Qo,Qy,Qx,Qv,Ql,Qk,Qw,Qc,Q1,Q2,Qr,Qg,Qi,Qh,Qu,Qt,Qs,Qn,Qd,cJ,f0,hz5,h1,Jf,Jt,Ku,Ju,J0,l0,l1,l2,Ko]
  rfl
 ·rw [h3,Qbj,Go.Fp.Qyo]; grobner
def Qu5 (x y:List Nat):Ob:=⟨ns .u64 (x++y),true,true,true,1⟩
set_option maxHeartbeats 2000000 in
theorem Mh {H:List Ob} {id:Nat} {x y:List Nat} (hx:El x (2^52)) (hy:El y (2^52)) (h:H[id]?=some (Qu5 x y)):∃ r s,Yd T 90 [.slice (some ⟨id,0,none⟩) 2 2] H=some (eV r,H++[⟨ns .u64 r,true,true,true,1⟩,⟨ns .u64 s,true,true,true,1⟩,⟨ns .u64 x,true,true,true,1⟩,⟨ns .u64 y,true,true,true,1⟩],[])∧El r (2^52)∧fe r=fe x+fe y:=by
 have hid:id<H.length:=(Q7.1 h).1
 have hA:∀ l,(H++l)[id]?=some (Qu5 x y):=fun l=>by rw [Qm hid]; exact h
 obtain ⟨x0,x1,x2,x3,x4,rfl,a0,a1,a2,a3,a4⟩:=hx.five
 obtain ⟨y0,y1,y2,y3,y4,rfl,b0,b1,b2,b3,b4⟩:=hy.five
 refine ⟨T7 (x0+y0) (x1+y1) (x2+y2) (x3+y3) (x4+y4),[x0+y0,x1+y1,x2+y2,x3+y3,x4+y4],?_,Qyx (by omega) (by omega) (by omega) (by omega) (by omega),?_⟩
 ·have s0:(0+x0)%18446744073709551616=x0:=by omega
  have s1:(0+x1)%18446744073709551616=x1:=by omega
  have s2:(0+x2)%18446744073709551616=x2:=by omega
  have s3:(0+x3)%18446744073709551616=x3:=by omega
  have s4:(0+x4)%18446744073709551616=x4:=by omega
  have q0:x0%18446744073709551616=x0:=by omega
  have q1:x1%18446744073709551616=x1:=by omega
  have q2:x2%18446744073709551616=x2:=by omega
  have q3:x3%18446744073709551616=x3:=by omega
  have q4:x4%18446744073709551616=x4:=by omega
  have t0:(x0+y0)%18446744073709551616=x0+y0:=by omega
  have t1:(x1+y1)%18446744073709551616=x1+y1:=by omega
  have t2:(x2+y2)%18446744073709551616=x2+y2:=by omega
  have t3:(x3+y3)%18446744073709551616=x3+y3:=by omega
  have t4:(x4+y4)%18446744073709551616=x4+y4:=by omega
  have c1:=Qb0 (x0:=x0+y0) (x1:=x1+y1) (x2:=x2+y2) (x3:=x3+y3) (x4:=x4+y4) (by omega) (by omega) (by omega) (by omega) (by omega)
  have hl:(T7 (x0+y0) (x1+y1) (x2+y2) (x3+y3) (x4+y4)).length=5:=rfl
  generalize T7 (x0+y0) (x1+y1) (x2+y2) (x3+y3) (x4+y4)=C at *
  have hz5:Qa 5 (Value.int .u64 0)=[.int .u64 0,.int .u64 0,.int .u64 0,.int .u64 0,.int .u64 0]:=rfl
  have hr5:∀ a b c d e:Int,rf (.agg [.int .u64 a,.int .u64 b,.int .u64 c,.int .u64 d,.int .u64 e].toArray)=true:=fun _ _ _ _ _=>rfl
  have u0:=fun s=>@Wr T H.length Qm8 s
  have v0:=fun s=>@J1 T H.length 2 (.loop Qm8) s
  have d0:∀ s,Jl T H.length Qm8 s=Jl T H.length _ s:=fun s=>congrArg (fun c=>Jl T H.length c s) Qm8.eq_1
  have u1:=fun s=>@Wr T H.length Qm7 s
  have v1:=fun s=>@J1 T H.length 0 (.loop Qm7) s
  have d1:∀ s,Jl T H.length Qm7 s=Jl T H.length _ s:=fun s=>congrArg (fun c=>Jl T H.length c s) Qm7.eq_1
  have hrC:rf (.agg (ns .u64 C).toArray)=true:=Qxx _ _
  have p1:∀ a b c d e f g i j k:Value,Vt 5 (W0 0 [a,b,c,d,e,f,g,i,j,k])=[a,b,c,d,e]:=fun _ _ _ _ _ _ _ _ _ _=>rfl
  have p2:∀ a b c d e f g i j k:Value,Vt 5 (W0 5 [a,b,c,d,e,f,g,i,j,k])=[f,g,i,j,k]:=fun _ _ _ _ _ _ _ _ _ _=>rfl
  simp only [eV,Rk,Qdm] at c1 ⊢
  simp only [Qu5,Ze,Q9,Rk,Qdm] at hA h
  rw [Zz (fn:=a62) rfl]
  simp only [a62,Q6,Q5,Zw,quiet,cF,↓pF,reduceCtorEq,Qb,Qq,Zj,X8,↓Zy,↓Zx,↓Z7,↓Jb,↓Z9,↓Ja,cL,Qp,Qo,Qy,Qx,Qv,Ql,Qk,Qw,Qc,Q1,Q2,Qr,Qg,Qi,Qh,Qu,Qt,Qs,Qn,Qd,cJ,cU,h,hA,hz5,c1,hr5,u0,v0,d0,u1,v1,d1,p1,p2,s0,s1,s2,s3,s4,q0,q1,q2,q3,q4,t0,t1,t2,t3,t4,J0,hl,hrC]
 ·rw [Qyw]
  have e:v51 [x0+y0,x1+y1,x2+y2,x3+y3,x4+y4]=v51 [x0,x1,x2,x3,x4]+v51 [y0,y1,y2,y3,y4]:=by
   simp only [v51,num]
   omega
  unfold fe
  rw [e,Go.Fp.Dg]
theorem part5 {a b c:List Nat} {n:Nat} (hb:b.length=5) (ha:a.length=n):Vt 5 (W0 n (ns .u64 (a++(b++c))))=ns .u64 b:=by
 simp only [Qel]
 rw [Y3 (by rw [J0]; omega),Vv (by rw [J0]; omega),Q9,Yr (by rw [J0]; omega),Zk (by rw [J0]; omega)]
theorem Qzv {H:List Ob} {l:List Ob} {id n i:Nat} {o x r R:List Nat} {cs:List Value} {g:List Ob} (hi:i<n) (hn:n<100) (hx:El x (2^52)) (ho:El o (2^52)) (hm:evVal T 76 [eV o,eV x]=some (eV r)) (hr:El r (2^52))
  (hA:∀ l,(H++l)[id]?=some ⟨cs,true,true,true,1⟩) (hcs:(cs.drop (i*5)).take 5=ns .u64 x) (hlen:i*5+5≤cs.length) :
  Jl T H.length Qmz ⟨[(2,.pointer (some ⟨H.length,0,none⟩)),(3,.pointer (some ⟨H.length+1,0,none⟩)),(7,.slice (some ⟨id,0,none⟩) n n),(8,.int .i64 n),(9,.int .i64 i)],H++(⟨ns .u64 R,true,true,true,1⟩::⟨ns .u64 o,true,true,true,1⟩::g),[]⟩ =
   some (.normal,⟨[(2,.pointer (some ⟨H.length,0,none⟩)),(3,.pointer (some ⟨H.length+1,0,none⟩)),(7,.slice (some ⟨id,0,none⟩) n n),(8,.int .i64 n),(9,.int .i64 ((i+1:Nat):Int))],H++(⟨ns .u64 R,true,true,true,1⟩::⟨ns .u64 r,true,true,true,1⟩::(g++[⟨ns .u64 x,true,true,true,1⟩])),[]⟩):=by
 have hz5:Qa 5 (Value.int .u64 0)=ns .u64 [0,0,0,0,0]:=rfl
 have l0:(ns .u64 [0,0,0,0,0]).length=5:=rfl
 have l1:=hx.len
 have l2:=ho.len
 have l3:=hr.len
 have e1:((i:Int)<(n:Int))=True:=eq_true (by omega)
 have w3:IntKind.i64.wrap ((i:Int)+1)=((i+1:Nat):Int):=Yi (n:=i+1) (by omega)
 simp only [Qmz,Zw,quiet,cF,↓pF,reduceCtorEq,Qb,Qq,Zj,X8,↓Zy,↓Zx,↓Z7,↓Jb,↓Z9,↓Ja,cL,Qp,Qo,Qy,Qx,Qv,Ql,Qk,Qw,Qc,Q1,Q2,Qr,Qg,Qi,Qh,Qu,Qt,Qs,Qn,Qd,cJ,Kc,hz5,hA,hcs,hlen,hm,Jf,Jt,Ku,Ju,J0,l0,l1,l2,l3,Ko,e1,w3]
theorem Qfv:fe [1,0,0,0,0]=1:=by rw [Qbj]; rfl
theorem Qfw:El [1,0,0,0,0] (2^52):=Qbk (by decide)
theorem Qan {H:List Ob} {id n:Nat} {xs:List (List Nat)} (hn:xs.length=n) (hN:n<100) (hx:∀ x∈xs,El x (2^52)) (h:H[id]?=some ⟨ns .u64 xs.flatten,true,true,true,1⟩) :
  ∃ r,Yd T 126 [.slice (some ⟨id,0,none⟩) n n] H=some (eV r,H++(⟨ns .u64 r,true,true,true,1⟩::⟨ns .u64 r,true,true,true,1⟩::xs.map fun x=>(⟨ns .u64 x,true,true,true,1⟩:Ob)),[])∧El r (2^52)∧fe r=(xs.map fe).foldl (· * ·) 1:=by
 have hid:id<H.length:=(Q7.1 h).1
 have hA:∀ l,(H++l)[id]?=some ⟨ns .u64 xs.flatten,true,true,true,1⟩:=fun l=>by rw [Qm hid]; exact h
 have hfl:∀ (ys:List (List Nat)),(∀ x∈ys,El x (2^52))→ys.flatten.length=ys.length*5:=by
  intro ys hy
  induction ys with
  | nil=>rfl
  | cons y ys ih =>
   rw [Xs,Zh,ih (fun x hx=>hy x (by simp [hx])),(hy y (by simp)).len,Jc]; omega
 obtain ⟨st,hb,r,rfl,hr1,hr2⟩:=Vi (T:=T) (base:=H.length) (id:=0) (body:=Qmz)
  (fun i st=>∃ r:List Nat,st=⟨[(2,.pointer (some ⟨H.length,0,none⟩)),(3,.pointer (some ⟨H.length+1,0,none⟩)),(7,.slice (some ⟨id,0,none⟩) n n),(8,.int .i64 n),(9,.int .i64 (i:Nat))],H++(⟨ns .u64 [0,0,0,0,0],true,true,true,1⟩::⟨ns .u64 r,true,true,true,1⟩::((xs.take i).map fun x=>(⟨ns .u64 x,true,true,true,1⟩:Ob))),[]⟩∧El r (2^52)∧fe r=((xs.take i).map fe).foldl (· * ·) 1)
  (Q:=fun st=>∃ r:List Nat,st=⟨[(2,.pointer (some ⟨H.length,0,none⟩)),(3,.pointer (some ⟨H.length+1,0,none⟩)),(7,.slice (some ⟨id,0,none⟩) n n),(8,.int .i64 n),(9,.int .i64 n),(10,.bool false)],H++(⟨ns .u64 [0,0,0,0,0],true,true,true,1⟩::⟨ns .u64 r,true,true,true,1⟩::(xs.map fun x=>(⟨ns .u64 x,true,true,true,1⟩:Ob))),[]⟩∧El r (2^52)∧fe r=(xs.map fe).foldl (· * ·) 1)
  n (s:=⟨[(2,.pointer (some ⟨H.length,0,none⟩)),(3,.pointer (some ⟨H.length+1,0,none⟩)),(7,.slice (some ⟨id,0,none⟩) n n),(8,.int .i64 n),(9,.int .i64 0)],H++[⟨ns .u64 [0,0,0,0,0],true,true,true,1⟩,⟨ns .u64 [1,0,0,0,0],true,true,true,1⟩],[]⟩) ⟨[1,0,0,0,0],rfl,Qfw,Qfv⟩
  (fun i st hi hs=>by
   obtain ⟨r,rfl,hr1,hr2⟩:=hs
   obtain ⟨x,hxi⟩:∃ y,xs[i]?=some y:=⟨_,Q3 (by omega)⟩
   have hxe:=hx x (Zp hxi)
   obtain ⟨r',hm,g1,g2⟩:=Uw hr1 hxe
   have hsplit:xs=xs.take i++x::xs.drop (i+1):=by
    have h1:=Q7.1 hxi
    conv=>lhs; rw [←Yn i xs,Ui h1.1,h1.2]
   have htl:(xs.take i).flatten.length=i*5:=by
    rw [hfl _ (fun y hy=>hx y (Ki hy)),Js,Vz (by omega)]
   have hcs:((ns .u64 xs.flatten).drop (i*5)).take 5=ns .u64 x:=by
    conv=>lhs; rw [hsplit,Y9,Xs]
    exact part5 hxe.len htl
   have hb:=Qzv (R:=[0,0,0,0,0]) (g:=(xs.take i).map fun x=>(⟨ns .u64 x,true,true,true,1⟩:Ob)) (l:=[]) hi hN hxe hr1 hm g1 hA hcs (by rw [J0,hfl xs hx,hn]; omega)
   have htk:xs.take (i+1)=xs.take i++[x]:=by rw [Ym,hxi]; rfl
   refine ⟨_,hb,r',?_,g1,?_⟩
   ·rw [htk,Hq]; rfl
   ·rw [htk,Hq,List.foldl_append,←hr2,g2]; rfl)
  (fun st hs=>by
   obtain ⟨r,rfl,hr1,hr2⟩:=hs
   have e1:((n:Int)<(n:Int))=False:=eq_false (by omega)
   have ht:xs.take n=xs:=Zk (by omega)
   rw [ht] at hr2 ⊢
   refine ⟨_,?_,r,rfl,hr1,hr2⟩
   simp only [Qmz,Zw,quiet,cF,↓pF,reduceCtorEq,Qb,Qq,Zj,X8,↓Zy,↓Zx,↓Z7,↓Jb,↓Z9,↓Ja,cL,Qp,Qo,Qy,Qx,Qv,Ql,Qk,Qw,Qc,Q1,Q2,Qr,Qg,Qi,Qh,Qu,Qt,Qs,Qn,Qd,e1])
 refine ⟨r,?_,hr1,hr2⟩
 have hz5:Qa 5 (Value.int .u64 0)=ns .u64 [0,0,0,0,0]:=rfl
 have l0:(ns .u64 [0,0,0,0,0]).length=5:=rfl
 have l1:=hr1.len
 have hs:=Qef (n:=1) (by decide)
 have l2:([1,0,0,0,0]:List Nat).length=5:=rfl
 simp only [Hr] at hs
 rw [Zz (fn:=a82) rfl]
 simp only [a82,Zw,quiet,cF,↓pF,reduceCtorEq,Qb,Qq,Zj,X8,↓Zy,↓Zx,↓Z7,↓Jb,↓Z9,↓Ja,cL,Qp,Qo,Qy,Qx,Qv,Ql,Qk,Qw,Qc,Q1,Q2,Qr,Qg,Qi,Qh,Qu,Qt,Qs,Qn,Qd,cJ,Kc,hz5,hs,hb,Jf,Jt,Ku,Ju,J0,l0,l1,l2,Ko]
def pwI (x k o:List Nat) (i:Int) (ex:Env):St:=⟨[(2,.pointer (some ⟨0,0,none⟩)),(3,.pointer (some ⟨1,0,none⟩)),(4,.pointer (some ⟨2,0,none⟩)),(5,.pointer (some ⟨3,0,none⟩)),(6,.int .i64 i)]++ex,[⟨ns .u64 x,true,true,true,1⟩,⟨u8s k,true,true,true,1⟩,⟨ns .u64 [0,0,0,0,0],true,true,true,1⟩,⟨ns .u64 o,true,true,true,1⟩],[]⟩
theorem Qsj (a:Go.Fp.Fe) (m b:Nat) (hb:b<2):Go.Fp.pow a (2*m+b)=if b=1 then Go.Fp.pow a m*Go.Fp.pow a m*a else Go.Fp.pow a m*Go.Fp.pow a m:=by
 have h1:Go.Fp.pow a (2*m)=Go.Fp.pow a m*Go.Fp.pow a m:=by rw [show 2*m=m+m by omega,Go.Fp.pow_add]
 by_cases h:b=1
 ·subst h
  rw [if_pos rfl,Go.Fp.pow,h1]
 ·have:b=0:=by omega
  subst this
  rw [if_neg (by decide),Jy,h1]
theorem Q8s {x k o:List Nat} {i:Nat} {ex:Env} (hx:El x (2^52)) (lk:k.length=32) (xk:∀ x∈k,x<256) (hi:i<256) (ho:El o (2^52)) (hp:fe o=Go.Fp.pow (fe x) (num 256 k/2^(i+1))) :
  ∃ r,Jl T 0 Qi5 (pwI x k o i ex)=some (.normal,pwI x k r ((i:Int)-1) [])∧El r (2^52)∧fe r=Go.Fp.pow (fe x) (num 256 k/2^i):=by
 obtain ⟨b,hb⟩:∃ b,k[i/8]?=some b:=⟨_,Q3 (by omega)⟩
 have hbv:=G8 (B:=256) (by decide) xk hb
 have hbc:=Wy hb
 have hbit:b/2^(i%8)%2=num 256 k/2^i%2:=by
  rw [←hbv,show (256:Nat)=2^8 from rfl,Qmn (Jo _ (by decide)),Ya]
 obtain ⟨r1,m1,g1,g2⟩:=Uw ho ho
 obtain ⟨r2,m2,g3,g4⟩:=Uw g1 hx
 have hlt:=Qcp (num 256 k) i
 have hnum:num 256 k/2^i=2*(num 256 k/2^(i+1))+num 256 k/2^i%2:=by
  rw [Kv,←Kb]
  omega
 have hstep:=Qsj (fe x) (num 256 k/2^(i+1)) (num 256 k/2^i%2) hlt
 rw [←hnum,←hp] at hstep
 have s1:(2:Int)^min (i%8) IntKind.u8.bits=((2^(i%8):Nat):Int):=Qcc (W3 (Jo _ (by decide)))
 have w2:IntKind.i64.wrap ((i/8:Nat):Int)=((i/8:Nat):Int):=Yi (by omega)
 have w3:IntKind.i64.wrap ((i:Int)-1)=(i:Int)-1:=Kn (by omega) (by omega)
 have e1:((0:Int)≤(i:Int))=True:=eq_true (by omega)
 have e3:(((i/8:Nat):Int)<32)=True:=eq_true (by omega)
 have e4:(((i%8:Nat):Int)<0)=False:=eq_false (by omega)
 have l1:=hx.len
 have l2:=ho.len
 have l3:=g1.len
 have l4:=g3.len
 have l0:([0,0,0,0,0]:List Nat).length=5:=rfl
 generalize hB:num 256 k/2^i%2=B at *
 by_cases hB1:B=1
 ·have hbq:((B:Int)==1)=true:=by rw [hB1]; rfl
  rw [if_pos hB1] at hstep
  refine ⟨r2,?_,g3,by rw [hstep,g4,g2]⟩
  simp only [pwI,Qi5,Zw,quiet,cF,↓pF,reduceCtorEq,Qb,Qq,Zj,X8,↓Zy,↓Zx,↓Z7,↓Jb,↓Z9,↓Ja,cL,Qp,Qo,Qy,Qx,Qv,Ql,Qk,Qw,Qc,Q1,Q2,Qr,Qg,Qi,Qh,Qu,Qt,Qs,Qn,Qd,cJ,cU,hbc,hbit,s1,w2,w3,e1,e3,e4,m1,m2,hbq,Jf,Jt,Ku,Ju,J0,l1,l2,l3,l4,Ko]
 ·have hbq:((B:Int)==1)=false:=by
   have:B=0:=by omega
   rw [this]; rfl
  rw [if_neg hB1] at hstep
  refine ⟨r1,?_,g1,by rw [hstep,g2]⟩
  simp only [pwI,Qi5,Zw,quiet,cF,↓pF,reduceCtorEq,Qb,Qq,Zj,X8,↓Zy,↓Zx,↓Z7,↓Jb,↓Z9,↓Ja,cL,Qp,Qo,Qy,Qx,Qv,Ql,Qk,Qw,Qc,Q1,Q2,Qr,Qg,Qi,Qh,Qu,Qt,Qs,Qn,Qd,cJ,cU,hbc,hbit,s1,w2,w3,e1,e3,e4,m1,m2,hbq,Jf,Jt,Ku,Ju,J0,l1,l2,l3,l4,Ko]
theorem Q8t {x k:List Nat} (hx:El x (2^52)) (lk:k.length=32) (xk:∀ x∈k,x<256):∃ r,evVal T 132 [eV x,.agg (u8s k).toArray]=some (eV r)∧El r (2^52)∧fe r=Go.Fp.pow (fe x) (num 256 k):=by
 have hK:=num_lt xk
 rw [lk,show (256:Nat)^32=2^256 from by rw [show (256:Nat)=2^8 from rfl,←Y5]] at hK
 obtain ⟨st,hb,r,rfl,hr1,hr2⟩:=Vi (T:=T) (base:=0) (id:=0) (body:=Qi5)
  (fun j st=>∃ r:List Nat,st=pwI x k r ((255:Int)-j) []∧El r (2^52)∧fe r=Go.Fp.pow (fe x) (num 256 k/2^(256-j)))
  (Q:=fun st=>∃ r:List Nat,st=pwI x k r (-1) [(9,.bool false)]∧El r (2^52)∧fe r=Go.Fp.pow (fe x) (num 256 k))
  256 (s:=pwI x k [1,0,0,0,0] 255 []) ⟨_,rfl,Qfw,by rw [Qfv,Xw,Uk hK]; rfl⟩
  (fun j st hj hs=>by
   obtain ⟨r,rfl,h1,h2⟩:=hs
   obtain ⟨i,hi⟩:∃ i,256-j=i+1:=⟨255-j,by omega⟩
   rw [hi] at h2
   obtain ⟨r',g1,g2,g3⟩:=Q8s (ex:=[]) hx lk xk (i:=i) (by omega) h1 h2
   rw [show (255:Int)-j=(i:Int) by omega]
   refine ⟨_,g1,r',?_,g2,?_⟩
   ·rw [show (255:Int)-((j+1:Nat):Int)=(i:Int)-1 by omega]
   ·rw [show 256-(j+1)=i by omega]; exact g3)
  (fun st hs=>by
   obtain ⟨r,rfl,h1,h2⟩:=hs
   rw [Jw,Yv,Ww] at h2
   have e:((0:Int) ≤ -1)=False:=by decide
   refine ⟨_,?_,r,rfl,h1,h2⟩
   rw [show (255:Int)-((256:Nat):Int) = -1 by omega]
   simp only [pwI,Qi5,Zw,quiet,cF,↓pF,reduceCtorEq,Qb,Qq,Zj,X8,↓Zy,↓Zx,↓Z7,↓Jb,↓Z9,↓Ja,cL,Qp,Qo,Qy,Qx,Qv,Ql,Qk,Qw,Qc,Q1,Q2,Qr,Qg,Qi,Qh,Qu,Qt,Qs,Qn,Qd,e])
 refine ⟨r,?_,hr1,hr2⟩
 have hz5:Qa 5 (Value.int .u64 0)=ns .u64 [0,0,0,0,0]:=rfl
 have hs:=Qef (n:=1) (by decide)
 have l2:([1,0,0,0,0]:List Nat).length=5:=rfl
 have l0:([0,0,0,0,0]:List Nat).length=5:=rfl
 have l1:=hx.len
 have l3:=hr1.len
 simp only [Hr] at hs
 simp only [pwI,Ze,Q9] at hb
 apply Jx
 apply Zu
 rw [Zz (fn:=a83) rfl]
 simp only [a83,Zw,quiet,cF,↓pF,reduceCtorEq,Qb,Qq,Zj,X8,↓Zy,↓Zx,↓Z7,↓Jb,↓Z9,↓Ja,cL,Qp,Qo,Qy,Qx,Qv,Ql,Qk,Qw,Qc,Q1,Q2,Qr,Qg,Qi,Qh,Qu,Qt,Qs,Qn,Qd,cJ,hz5,hs,hb,pwI,Jf,Jt,Ku,Ju,J0,l0,l1,l2,l3,Ko]
 rfl
def onX (i:Nat):List Nat:=dig (2^8) 32 (2^i-1)
def onI (less:Value) (n:Int) (k:List Nat) (i:Nat) (ex:Env):St:=⟨[(1,less),(4,.pointer (some ⟨0,0,none⟩)),(5,.pointer (some ⟨1,0,none⟩)),(7,.int .i64 n),(8,.int .i64 i)]++ex,[⟨u8s (dig 256 32 0),true,true,true,1⟩,⟨u8s k,true,true,true,1⟩],[]⟩
theorem Q9b {less:Value} {n i:Nat} (hn:n≤256) (hi:i<n):Jl T 0 Qmy (onI less n (onX i) i [])=some (.normal,onI less n (onX (i+1)) (i+1) []):=by
 have hlen:(onX i).length=32:=Km _ _ _
 obtain ⟨y,hy⟩:∃ b,(onX i)[i/8]?=some b:=⟨_,Q3 (by omega)⟩
 have hyc:=Wy hy
 have hy':y<2^8:=Dh (by decide) (Zp hy)
 have hsm:(2:Nat)^(i%8)≤2^7:=Vr (by decide) (by have:=Jo i (by decide:0<8); omega)
 have hp:0<(2:Nat)^i:=Us (by decide)
 have hput:=Qkh (w:=8) (m:=32) (q:=i/8) (s:=i%8) (y:=1) (M:=2^i-1) (by omega) (Jo _ (by decide)) (by rw [Ya]; omega) (by omega)
 rw [Ya,show 2^i-1+1*2^i=2^(i+1)-1 by rw [Kv]; omega] at hput
 have hgd:(dig (2^8) 32 (2^i-1)).getD (i/8) 0=y:=by rw [Jz]; unfold onX at hy; rw [hy]; rfl
 rw [hgd,Ul] at hput
 have hset:=Ba (onX i) (i/8) (y|||2^(i%8))
 rw [show (onX i).set (i/8) (y|||2^(i%8))=onX (i+1) from hput] at hset
 have s1:(2:Int)^min (i%8) IntKind.u8.bits=((2^(i%8):Nat):Int):=Qcc (W3 (Jo _ (by decide)))
 have o1:Vx .or .u8 (y:Int) ((2^(i%8):Nat):Int)=((y|||2^(i%8):Nat):Int):=Hg rfl (by show _<256; omega) (by show _<256; omega)
 have n1:(2^(i%8))%256=2^(i%8):=Z5 (Wv hsm (by decide))
 have w2:IntKind.i64.wrap ((i/8:Nat):Int)=((i/8:Nat):Int):=Yi (by omega)
 have w3:IntKind.i64.wrap ((i+1:Nat):Int)=((i+1:Nat):Int):=Yi (by omega)
 have e1:((i:Int)<(n:Int))=True:=eq_true (by omega)
 have e3:(((i/8:Nat):Int)<32)=True:=eq_true (by omega)
 have e4:(((i%8:Nat):Int)<0)=False:=eq_false (by omega)
 have e6:i/8+1≤32:=by omega
 have p1:1*2^(i%8)=2^(i%8):=Ul _
 simp only [onI,Qmy,Zw,quiet,cF,↓pF,reduceCtorEq,Qb,Qq,Zj,X8,↓Zy,↓Zx,↓Z7,↓Jb,↓Z9,↓Ja,cL,Qp,Qo,Qy,Qx,Qv,Ql,Qk,Qw,Qc,Q1,Q2,Qr,Qg,Qi,Qh,Qu,Qt,Qs,Qn,Qd,cJ,cU,hyc,s1,o1,n1,w2,w3,e1,e3,e4,e6,p1,hset,Zv,hlen]
theorem Qv3 {n less:Nat} (hn:n≤256) (h8:8≤n) (hl:less<256):evVal T 133 [.int .i64 n,.int .u8 less]=some (.agg (u8s (dig 256 32 (2^n-1-less))).toArray):=by
 have hb:=Wf (T:=T) (base:=0) (id:=0) (body:=Qmy) (fun i=>onI (.int .u8 less) n (onX i) i []) (s':=onI (.int .u8 less) n (onX n) n [(9,.bool false)]) n (fun i hi=>Q9b hn hi) (by
  have e1:((n:Int)<(n:Int))=False:=eq_false (by omega)
  simp only [onI,Qmy,Zw,quiet,cF,↓pF,reduceCtorEq,Qb,Qq,Zj,X8,↓Zy,↓Zx,↓Z7,↓Jb,↓Z9,↓Ja,cL,Qp,Qo,Qy,Qx,Qv,Ql,Qk,Qw,Qc,Q1,Q2,Qr,Qg,Qi,Qh,Qu,Qt,Qs,Qn,Qd,e1])
 rw [show onX 0=dig 256 32 0 from rfl] at hb
 have hp8:(256:Nat)≤2^n:=by
  have:=Vr (n:=2) (by decide) h8
  exact this
 have hmod:2^n%256=0:=by
  rw [show n=8+(n-8) by omega,Ud]; exact Nat.mul_mod_right _ _
 have h0:(onX n)[0]?=some 255:=by
  unfold onX
  rw [B6 (by decide),Yv,Ww]
  congr 1
  omega
 have h0c:=Wy h0
 have w0:IntKind.u8.wrap (255-(less:Int))=((255-less:Nat):Int):=by rw [wrap_u8]; omega
 have hset:=Ba (onX n) 0 (255-less)
 have hfin:(onX n).set 0 (255-less)=dig 256 32 (2^n-1-less):=by
  apply Qet (by rw [Jk]; exact Km _ _ _)
  intro t ht
  by_cases h0t:t=0
  ·subst h0t
   rw [Jj (by rw [show (onX n).length=32 from Km _ _ _]; decide),Yv,Ww]
   congr 1
   omega
  ·rw [Z4 (Ne.symm h0t)]
   unfold onX
   rw [B6 ht]
   congr 2
   obtain ⟨m,rfl⟩:∃ m,t=m+1:=⟨t-1,by omega⟩
   rw [show (2:Nat)^8=256 from rfl,Kv,Ve,←Kb,←Kb]
   congr 1
   omega
 rw [hfin] at hset
 simp only [U0] at h0c
 have l1:(dig 256 32 (2^n-1-less)).length=32:=Km _ _ _
 have l2:(onX n).length=32:=Km _ _ _
 have l3:(dig 256 32 0).length=32:=rfl
 have hz32:Qa 32 (Value.int .u8 0)=u8s (dig 256 32 0):=rfl
 simp only [onI,Ze,Q9,J6] at hb
 apply Jx
 apply Zu
 rw [Zz (fn:=a84) rfl]
 simp only [a84,Zw,quiet,cF,↓pF,reduceCtorEq,Qb,Qq,Zj,X8,↓Zy,↓Zx,↓Z7,↓Jb,↓Z9,↓Ja,cL,Qp,Qo,Qy,Qx,Qv,Ql,Qk,Qw,Qc,Q1,Q2,Qr,Qg,Qi,Qh,Qu,Qt,Qs,Qn,Qd,cJ,hz32,hb,onI,h0c,w0,hset,Zv,l1,l2,l3]
 rfl
theorem Rb {v:Nat}:∀ x∈dig 256 32 v,x<256:=fun _ h=>Dh (by decide) h
theorem Qft {x:List Nat} {n less:Nat} (hx:El x (2^52)) (hn:n≤256) (h8:8≤n) (hl:less<256):∃ r,evVal T 132 [eV x,.agg (u8s (dig 256 32 (2^n-1-less))).toArray]=some (eV r)∧El r (2^52)∧fe r=Go.Fp.pow (fe x) (2^n-1-less):=by
 obtain ⟨r,h1,h2,h3⟩:=Q8t (k:=dig 256 32 (2^n-1-less)) hx (Km _ _ _) Rb
 refine ⟨r,h1,h2,?_⟩
 rw [h3,Bq (by decide),Z5]
 have h4:(2:Nat)^n≤256^32:=by
  rw [show (256:Nat)^32=2^256 from by rw [show (256:Nat)=2^8 from rfl,←Y5]]
  exact Vr (by decide) hn
 have:0<(2:Nat)^n:=Us (by decide)
 omega
theorem Qtj {x:List Nat} (hx:El x (2^52)):∃ r,evVal T 77 [eV x]=some (eV r)∧El r (2^52)∧fe r=Go.Fp.iv (fe x):=by
 have h1:=Qv3 (n:=255) (less:=20) (by decide) (by decide) (by decide)
 obtain ⟨r,h2,h3,h4⟩:=Qft (n:=255) (less:=20) hx (by decide) (by decide) (by decide)
 refine ⟨r,?_,h3,?_⟩
 ·have hz5:Qa 5 (Value.int .u64 0)=ns .u64 [0,0,0,0,0]:=rfl
  have l0:([0,0,0,0,0]:List Nat).length=5:=rfl
  have l1:=hx.len
  have l2:=h3.len
  simp only [U0] at h1
  generalize dig 256 32 (2^255-1-20)=K at *
  apply Jx
  apply Zu
  rw [Zz (fn:=a56) rfl]
  simp only [a56,Zw,quiet,cF,↓pF,reduceCtorEq,Qb,Qq,Zj,X8,↓Zy,↓Zx,↓Z7,↓Jb,↓Z9,↓Ja,cL,Qp,Qo,Qy,Qx,Qv,Ql,Qk,Qw,Qc,Q1,Q2,Qr,Qg,Qi,Qh,Qu,Qt,Qs,Qn,Qd,cJ,hz5,h1,h2,Jf,Jt,Ku,Ju,J0,l0,l1,l2,Ko]
  rfl
 ·rw [h4]
  unfold Go.Fp.iv
  rw [Go.Fp.Qd4]
end Go.Ev.YtpgphpkjlpkcbaaGreat
namespace Go.Ev
section
variable {T:Tab} {b:Nat}
theorem Qck:∀ (o1 o2:List AOper) (s:St) (recs:List Rec),evOps T b (o1++o2) s recs=(evOps T b o1 s recs).bind fun r=>evOps T b o2 r.1 r.2
 | [],o2,s,recs=>by rw [Vs]; rfl
 | o::o1,o2,s,recs=>by
  rw [Ze,Kx,Kx]
  cases hg:guardOf s.env o.guard with
  | none=>rfl
  | some g =>
   cases g with
   | false=>exact Qck o1 o2 _ _
   | true =>
    cases hx:Wj T o.op s.env s.h with
    | none=>simp [hx]
    | some x =>
     simp only [hx,Zb]
     exact Qck o1 o2 _ _
theorem Qfy:∀ (ops:List AOper) (s:St) (recs:List Rec) (s':St),steps T b false ops s=some s'→∃ m,evOps T b ops s recs=some (s',recs++m)
 | [],s,recs,s',h=>by
  simp only [steps,Zf] at h
  subst h
  exact ⟨[],by rw [Vs,Xd]⟩
 | o::r,s,recs,s',h=>by
  rw [Kx]
  unfold steps at h
  cases hg:guardOf s.env o.guard with
  | none=>simp only [hg] at h; cases h
  | some g =>
   simp only [hg] at h
   cases g with
   | false =>
    obtain ⟨m,h1⟩:=Qfy r _ (recs++[(some [],[])]) s' h
    exact ⟨(some [],[])::m,by rw [h1]; simp⟩
   | true =>
    cases hx:Wj T o.op s.env s.h with
    | none=>simp [hx] at h
    | some x =>
     simp only [hx,Zb,Qj5,Jd,if_false] at h
     obtain ⟨m,h1⟩:=Qfy r _ (recs++[(x.2.2.1,x.2.2.2)]) s' h
     exact ⟨(x.2.2.1,x.2.2.2)::m,by simp only [hx,Zb]; rw [h1]; simp⟩
theorem Qjg {r1 r2:List Rec}:∀ {pairs:List (Nat×Nat)},(pairs.all fun p=>decide (p.1<r1.length)&&decide (p.2<r1.length))=true→Yl r1 pairs=true→Yl (r1++r2) pairs=true
 | [],_,_=>rfl
 | (i,j)::ps,h,k=>by
  simp only [Xi,Yw,decide_eq_true_eq] at h
  simp only [Yl,Xi,Yw] at k ⊢
  have ih:=Qjg (r1:=r1) (r2:=r2) (pairs:=ps) h.2 k.2
  simp only [Yl] at ih
  refine ⟨?_,ih⟩
  rw [Qm h.1.1,Qm h.1.2]
  exact k.1
def Dx:List (Nat×Nat)→Nat
 | []=>0
 | (_,j)::r=>if j+1≤Dx r then Dx r else j+1
theorem Zc:Dx []=0:=rfl
theorem Q8 {i j:Nat} {r:List (Nat×Nat)}:Dx ((i,j)::r)=if j+1≤Dx r then Dx r else j+1:=rfl
def Qqk (T:Tab) (b:Nat) (ops:List AOper) (pairs:List (Nat×Nat)) (s:St):Option St :=
 gate ((pairs.all fun p=>decide (p.1<Dx pairs)&&decide (p.2<Dx pairs))=true∧Dx pairs≤ops.length)
  ((steps T b true (ops.take (Dx pairs)) s).bind fun s1=>steps T b false (ops.drop (Dx pairs)) s1)
theorem Zg {ops:List AOper} {pairs:List (Nat×Nat)} {s:St}:Qqk T b ops pairs s=gate ((pairs.all fun p=>decide (p.1<Dx pairs)&&decide (p.2<Dx pairs))=true∧Dx pairs≤ops.length)
  ((steps T b true (ops.take (Dx pairs)) s).bind fun s1=>steps T b false (ops.drop (Dx pairs)) s1):=Eq.trans rfl rfl
theorem Zd {ops:List AOper} {keep:Option (List Nat)} {p:Nat×Nat} {ps:List (Nat×Nat)} {s:St}:Jl T b (.region ops keep (p::ps)) s=Qgl ((Qqk T b ops (p::ps) s).bind fun s'=>some (.normal,s'.after keep)) (Qdr T b (.region ops keep (p::ps)) s):=by
 cases hq:Qqk T b ops (p::ps) s with
 | none=>rfl
 | some s' =>
  simp only [Zb,Qgl]
  unfold Qqk gate at hq
  split at hq
  ·rename_i hp
   simp only [Qj] at hq
   obtain ⟨s1,k1,k2⟩:=hq
   obtain ⟨recs,h1,h2,h3⟩:=Qaq _ s [] s1 k1 (by simp)
   obtain ⟨m,h4⟩:=Qfy _ s1 recs s' k2
   simp only [Jg,Z3,Js,Vz hp.2] at h3
   rw [Xj]
   conv=>lhs; rw [←Yn (Dx (p::ps)) ops]
   rw [Qck,h1]
   simp only [Zb,h4]
   have hpk:=hp.1
   rw [←h3] at hpk
   rw [if_pos (Qjg hpk (Qa5 h2 hpk))]
  ·cases hq
end
end Go.Ev
namespace Go.Ev.YtpgphpkjlpkcbaaGreat
open Go Go.Ev
attribute [local congr] W5 Up W4 Uq Wo
set_option maxRecDepth 100000
theorem Ji {cs:List Value} {n:Nat} (h:cs.length=n):cs.take n=cs:=Zk (by omega)
def pL (x y z t:List Nat):List Nat:=x++(y++(z++t))
def pV (x y z t:List Nat):Value := .agg (ns .u64 (pL x y z t)).toArray
theorem Zb4 (x y z t:List Nat):rf (pV x y z t)=true:=Qxx _ _
theorem Qsp (x y z t:List Nat):(pV x y z t).cells.toList=ns .u64 (pL x y z t):=rfl
theorem Qx5 (x y z t:List Nat):(pV x y z t).cells.size=(pL x y z t).length:=J0 _ _
theorem Zb7 (x y z t:List Nat):Yj (pV x y z t)=true:=rfl
theorem Qx6 (x y z t:List Nat):Value.agg (ns .u64 (pL x y z t)).toArray=pV x y z t:=rfl
theorem Mz {x y z t:List Nat} {b:Nat} (hx:El x b) (hy:El y b) (hz:El z b) (ht:El t b):(pL x y z t).length=20:=by
 simp [pL,hx.len,hy.len,hz.len,ht.len]
theorem Qvr {x y z t:List Nat} {b:Nat} (hx:El x b) (hy:El y b) (hz:El z b) (ht:El t b) :
  Vt 5 (ns .u64 (pL x y z t))=ns .u64 x∧Vt 5 (W0 5 (ns .u64 (pL x y z t)))=ns .u64 y∧Vt 5 (W0 10 (ns .u64 (pL x y z t)))=ns .u64 z∧Vt 5 (W0 15 (ns .u64 (pL x y z t)))=ns .u64 t:=by
 obtain ⟨a0,a1,a2,a3,a4,rfl,-⟩:=hx.five
 obtain ⟨b0,b1,b2,b3,b4,rfl,-⟩:=hy.five
 obtain ⟨c0,c1,c2,c3,c4,rfl,-⟩:=hz.five
 obtain ⟨d0,d1,d2,d3,d4,rfl,-⟩:=ht.five
 exact ⟨rfl,rfl,rfl,rfl⟩
theorem T4 {a b:List Nat} {k:Nat} (ha:El a k) (hb:El b k):fillL (Qa 10 (Value.int .u64 0)) [(0,5,eV a),(5,5,eV b)]=some (ns .u64 (a++b)):=by
 obtain ⟨a0,a1,a2,a3,a4,rfl,-⟩:=ha.five
 obtain ⟨b0,b1,b2,b3,b4,rfl,-⟩:=hb.five
 rfl
theorem Qpl {a b c:List Nat} {k:Nat} (ha:El a k) (hb:El b k) (hc:El c k):fillL (Qa 15 (Value.int .u64 0)) [(0,5,eV a),(5,5,eV b),(10,5,eV c)]=some (ns .u64 [a,b,c].flatten):=by
 obtain ⟨a0,a1,a2,a3,a4,rfl,-⟩:=ha.five
 obtain ⟨b0,b1,b2,b3,b4,rfl,-⟩:=hb.five
 obtain ⟨c0,c1,c2,c3,c4,rfl,-⟩:=hc.five
 rfl
theorem Qjp {a b c d:List Nat} {k:Nat} (ha:El a k) (hb:El b k) (hc:El c k) (hd:El d k):fillL (Qa 20 (Value.int .u64 0)) [(0,5,eV a),(5,5,eV b),(10,5,eV c),(15,5,eV d)]=some (ns .u64 (pL a b c d)):=by
 obtain ⟨a0,a1,a2,a3,a4,rfl,-⟩:=ha.five
 obtain ⟨b0,b1,b2,b3,b4,rfl,-⟩:=hb.five
 obtain ⟨c0,c1,c2,c3,c4,rfl,-⟩:=hc.five
 obtain ⟨d0,d1,d2,d3,d4,rfl,-⟩:=hd.five
 rfl
theorem Qx7 (a b c d:List Nat):pL a b c d=[a,b,c,d].flatten:=by simp [pL]
theorem Q2m:El [2,0,0,0,0] (2^52):=Qbk (by decide)
theorem Q2j:evVal T 73 [.int .u32 2]=some (eV [2,0,0,0,0]):=Qef (n:=2) (by decide)
theorem Qu4:fe [2,0,0,0,0]=2:=by rw [Qbj]; rfl
theorem Zda {x1 y1 z1 t1 x2 y2 z2 t2 d:List Nat} (Ex1:El x1 (2^52)) (Ey1:El y1 (2^52)) (Ez1:El z1 (2^52)) (Et1:El t1 (2^52)) (Ex2:El x2 (2^52)) (Ey2:El y2 (2^52)) (Ez2:El z2 (2^52)) (Et2:El t2 (2^52)) (Ed:El d (2^52)) :
  ∃ x y z t,evVal T 102 [pV x1 y1 z1 t1,pV x2 y2 z2 t2,eV d]=some (pV x y z t)∧El x (2^52)∧El y (2^52)∧El z (2^52)∧El t (2^52) ∧
   ∃ a b c e:Go.Fp.Fe,a=(fe y1-fe x1)*(fe y2-fe x2)∧b=(fe y1+fe x1)*(fe y2+fe x2)∧c=1*2*fe d*fe t1*fe t2∧e=1*2*fe z1*fe z2 ∧
    fe x=(b-a)*(e-c)∧fe y=(e+c)*(b+a)∧fe z=(e-c)*(e+c)∧fe t=(b-a)*(b+a):=by
 obtain ⟨two,htwo⟩:∃ two:List Nat,two=[2,0,0,0,0]:=⟨_,rfl⟩
 have Etwo:El two (2^52):=by rw [htwo]; exact Q2m
 have vtwo:evVal T 73 [.int .u32 2]=some (eV two):=by rw [htwo]; exact Q2j
 have ftwo:fe two=2:=by rw [htwo]; exact Qu4
 clear htwo
 obtain ⟨r1,hr1,Er1,fr1⟩:=Qct Ey1 Ex1
 obtain ⟨r2,hr2,Er2,fr2⟩:=Qct Ey2 Ex2
 obtain ⟨r3,hr3,Er3,fr3⟩:=Uw Er1 Er2
 obtain ⟨r4,sr4,hr4,Er4,fr4⟩:=Mh (H:=[⟨ns .u64 (pL x1 y1 z1 t1),true,true,true,1⟩,⟨ns .u64 (pL x2 y2 z2 t2),true,true,true,1⟩,⟨ns .u64 d,true,true,true,1⟩,⟨Qa 20 (.int .u64 0),true,true,true,1⟩,⟨ns .u64 r3,true,true,true,1⟩,⟨ns .u64 (y1++x1),true,true,true,1⟩]) (id:=5) Ey1 Ex1 rfl
 simp only [Ze,Q9] at hr4
 obtain ⟨r5,sr5,hr5,Er5,fr5⟩:=Mh (H:=[⟨ns .u64 (pL x1 y1 z1 t1),true,true,true,1⟩,⟨ns .u64 (pL x2 y2 z2 t2),true,true,true,1⟩,⟨ns .u64 d,true,true,true,1⟩,⟨Qa 20 (.int .u64 0),true,true,true,1⟩,⟨ns .u64 r3,true,true,true,1⟩,⟨ns .u64 (y1++x1),true,true,true,1⟩,⟨ns .u64 r4,true,true,true,1⟩,⟨ns .u64 sr4,true,true,true,1⟩,⟨ns .u64 y1,true,true,true,1⟩,⟨ns .u64 x1,true,true,true,1⟩,⟨ns .u64 (y2++x2),true,true,true,1⟩]) (id:=10) Ey2 Ex2 rfl
 simp only [Ze,Q9] at hr5
 obtain ⟨r6,hr6,Er6,fr6⟩:=Uw Er4 Er5
 obtain ⟨r7,hr7,Er7,fr7⟩:=Qan (H:=[⟨ns .u64 (pL x1 y1 z1 t1),true,true,true,1⟩,⟨ns .u64 (pL x2 y2 z2 t2),true,true,true,1⟩,⟨ns .u64 d,true,true,true,1⟩,⟨Qa 20 (.int .u64 0),true,true,true,1⟩,⟨ns .u64 r3,true,true,true,1⟩,⟨ns .u64 (y1++x1),true,true,true,1⟩,⟨ns .u64 r4,true,true,true,1⟩,⟨ns .u64 sr4,true,true,true,1⟩,⟨ns .u64 y1,true,true,true,1⟩,⟨ns .u64 x1,true,true,true,1⟩,⟨ns .u64 (y2++x2),true,true,true,1⟩,⟨ns .u64 r5,true,true,true,1⟩,⟨ns .u64 sr5,true,true,true,1⟩,⟨ns .u64 y2,true,true,true,1⟩,⟨ns .u64 x2,true,true,true,1⟩,⟨ns .u64 r6,true,true,true,1⟩,⟨ns .u64 [two,d,t1,t2].flatten,true,true,true,1⟩]) (id:=16) (n:=4) (xs:=[two,d,t1,t2]) rfl (by decide) (by intro w hw; simp only [Wh,W8,or_false] at hw; rcases hw with rfl | rfl | rfl | rfl<;>assumption) rfl
 simp only [Ze,Q9,W7,Be,U8,Dq] at hr7 fr7
 obtain ⟨r8,hr8,Er8,fr8⟩:=Qan (H:=[⟨ns .u64 (pL x1 y1 z1 t1),true,true,true,1⟩,⟨ns .u64 (pL x2 y2 z2 t2),true,true,true,1⟩,⟨ns .u64 d,true,true,true,1⟩,⟨Qa 20 (.int .u64 0),true,true,true,1⟩,⟨ns .u64 r3,true,true,true,1⟩,⟨ns .u64 (y1++x1),true,true,true,1⟩,⟨ns .u64 r4,true,true,true,1⟩,⟨ns .u64 sr4,true,true,true,1⟩,⟨ns .u64 y1,true,true,true,1⟩,⟨ns .u64 x1,true,true,true,1⟩,⟨ns .u64 (y2++x2),true,true,true,1⟩,⟨ns .u64 r5,true,true,true,1⟩,⟨ns .u64 sr5,true,true,true,1⟩,⟨ns .u64 y2,true,true,true,1⟩,⟨ns .u64 x2,true,true,true,1⟩,⟨ns .u64 r6,true,true,true,1⟩,⟨ns .u64 [two,d,t1,t2].flatten,true,true,true,1⟩,⟨ns .u64 r7,true,true,true,1⟩,⟨ns .u64 r7,true,true,true,1⟩,⟨ns .u64 two,true,true,true,1⟩,⟨ns .u64 d,true,true,true,1⟩,⟨ns .u64 t1,true,true,true,1⟩,⟨ns .u64 t2,true,true,true,1⟩,⟨ns .u64 r7,true,true,true,1⟩,⟨ns .u64 [two,z1,z2].flatten,true,true,true,1⟩]) (id:=24) (n:=3) (xs:=[two,z1,z2]) rfl (by decide) (by intro w hw; simp only [Wh,W8,or_false] at hw; rcases hw with rfl | rfl | rfl<;>assumption) rfl
 simp only [Ze,Q9,W7,Be,U8,Dq] at hr8 fr8
 obtain ⟨r9,hr9,Er9,fr9⟩:=Qct Er6 Er3
 obtain ⟨r10,hr10,Er10,fr10⟩:=Qct Er8 Er7
 obtain ⟨r11,sr11,hr11,Er11,fr11⟩:=Mh (H:=[⟨ns .u64 (pL x1 y1 z1 t1),true,true,true,1⟩,⟨ns .u64 (pL x2 y2 z2 t2),true,true,true,1⟩,⟨ns .u64 d,true,true,true,1⟩,⟨Qa 20 (.int .u64 0),true,true,true,1⟩,⟨ns .u64 r3,true,true,true,1⟩,⟨ns .u64 (y1++x1),true,true,true,1⟩,⟨ns .u64 r4,true,true,true,1⟩,⟨ns .u64 sr4,true,true,true,1⟩,⟨ns .u64 y1,true,true,true,1⟩,⟨ns .u64 x1,true,true,true,1⟩,⟨ns .u64 (y2++x2),true,true,true,1⟩,⟨ns .u64 r5,true,true,true,1⟩,⟨ns .u64 sr5,true,true,true,1⟩,⟨ns .u64 y2,true,true,true,1⟩,⟨ns .u64 x2,true,true,true,1⟩,⟨ns .u64 r6,true,true,true,1⟩,⟨ns .u64 [two,d,t1,t2].flatten,true,true,true,1⟩,⟨ns .u64 r7,true,true,true,1⟩,⟨ns .u64 r7,true,true,true,1⟩,⟨ns .u64 two,true,true,true,1⟩,⟨ns .u64 d,true,true,true,1⟩,⟨ns .u64 t1,true,true,true,1⟩,⟨ns .u64 t2,true,true,true,1⟩,⟨ns .u64 r7,true,true,true,1⟩,⟨ns .u64 [two,z1,z2].flatten,true,true,true,1⟩,⟨ns .u64 r8,true,true,true,1⟩,⟨ns .u64 r8,true,true,true,1⟩,⟨ns .u64 two,true,true,true,1⟩,⟨ns .u64 z1,true,true,true,1⟩,⟨ns .u64 z2,true,true,true,1⟩,⟨ns .u64 r8,true,true,true,1⟩,⟨ns .u64 (r8++r7),true,true,true,1⟩]) (id:=31) Er8 Er7 rfl
 simp only [Ze,Q9] at hr11
 obtain ⟨r12,sr12,hr12,Er12,fr12⟩:=Mh (H:=[⟨ns .u64 (pL x1 y1 z1 t1),true,true,true,1⟩,⟨ns .u64 (pL x2 y2 z2 t2),true,true,true,1⟩,⟨ns .u64 d,true,true,true,1⟩,⟨Qa 20 (.int .u64 0),true,true,true,1⟩,⟨ns .u64 r3,true,true,true,1⟩,⟨ns .u64 (y1++x1),true,true,true,1⟩,⟨ns .u64 r4,true,true,true,1⟩,⟨ns .u64 sr4,true,true,true,1⟩,⟨ns .u64 y1,true,true,true,1⟩,⟨ns .u64 x1,true,true,true,1⟩,⟨ns .u64 (y2++x2),true,true,true,1⟩,⟨ns .u64 r5,true,true,true,1⟩,⟨ns .u64 sr5,true,true,true,1⟩,⟨ns .u64 y2,true,true,true,1⟩,⟨ns .u64 x2,true,true,true,1⟩,⟨ns .u64 r6,true,true,true,1⟩,⟨ns .u64 [two,d,t1,t2].flatten,true,true,true,1⟩,⟨ns .u64 r7,true,true,true,1⟩,⟨ns .u64 r7,true,true,true,1⟩,⟨ns .u64 two,true,true,true,1⟩,⟨ns .u64 d,true,true,true,1⟩,⟨ns .u64 t1,true,true,true,1⟩,⟨ns .u64 t2,true,true,true,1⟩,⟨ns .u64 r7,true,true,true,1⟩,⟨ns .u64 [two,z1,z2].flatten,true,true,true,1⟩,⟨ns .u64 r8,true,true,true,1⟩,⟨ns .u64 r8,true,true,true,1⟩,⟨ns .u64 two,true,true,true,1⟩,⟨ns .u64 z1,true,true,true,1⟩,⟨ns .u64 z2,true,true,true,1⟩,⟨ns .u64 r8,true,true,true,1⟩,⟨ns .u64 (r8++r7),true,true,true,1⟩,⟨ns .u64 r11,true,true,true,1⟩,⟨ns .u64 sr11,true,true,true,1⟩,⟨ns .u64 r8,true,true,true,1⟩,⟨ns .u64 r7,true,true,true,1⟩,⟨ns .u64 (r6++r3),true,true,true,1⟩]) (id:=36) Er6 Er3 rfl
 simp only [Ze,Q9] at hr12
 obtain ⟨r13,hr13,Er13,fr13⟩:=Uw Er9 Er10
 obtain ⟨r14,hr14,Er14,fr14⟩:=Uw Er11 Er12
 obtain ⟨r15,hr15,Er15,fr15⟩:=Uw Er10 Er11
 obtain ⟨r16,hr16,Er16,fr16⟩:=Uw Er9 Er12
 refine ⟨r13,r14,r15,r16,?_,Er13,Er14,Er15,Er16,fe r3,fe r6,fe r7,fe r8,?_⟩
 ·obtain ⟨q10,q11,q12,q13⟩:=Qvr Ex1 Ey1 Ez1 Et1
  obtain ⟨q20,q21,q22,q23⟩:=Qvr Ex2 Ey2 Ez2 Et2
  have p1:=Mz Ex1 Ey1 Ez1 Et1
  have p2:=Mz Ex2 Ey2 Ez2 Et2
  have p3:=Mz Er13 Er14 Er15 Er16
  have k4:=Qjp Etwo Ed Et1 Et2
  rw [Qx7] at k4
  have k3:=Qpl Etwo Ez1 Ez2
  have kp:=Qjp Er13 Er14 Er15 Er16
  have m1:=T4 Ey1 Ex1
  have m2:=T4 Ey2 Ex2
  have m3:=T4 Er8 Er7
  have m4:=T4 Er6 Er3
  have Lx1:=Ex1.len
  have Ly1:=Ey1.len
  have Lz1:=Ez1.len
  have Lt1:=Et1.len
  have Lx2:=Ex2.len
  have Ly2:=Ey2.len
  have Lz2:=Ez2.len
  have Lt2:=Et2.len
  have Ld:=Ed.len
  have Ltwo:=Etwo.len
  have Lr1:=Er1.len
  have Lr2:=Er2.len
  have Lr3:=Er3.len
  have Lr4:=Er4.len
  have Lr5:=Er5.len
  have Lr6:=Er6.len
  have Lr7:=Er7.len
  have Lr8:=Er8.len
  have Lr9:=Er9.len
  have Lr10:=Er10.len
  have Lr11:=Er11.len
  have Lr12:=Er12.len
  have Lr13:=Er13.len
  have Lr14:=Er14.len
  have Lr15:=Er15.len
  have Lr16:=Er16.len
  apply Jx
  apply Zu
  rw [Zz (fn:=a54) rfl]
  simp only [a54,Zw,quiet,cF,↓pF,reduceCtorEq,Qb,Qq,Zj,Zd,Zg,Zc,Q8,Qf,Q0,Qe,Qz,Q6,Q5,↓Zy,↓Zx,↓Z7,↓Jb,↓Z9,↓Ja,cL,Qp,Qo,Qy,Qx,Qv,Ql,Qk,Qw,Qc,Q1,Q2,Qr,Qg,Qi,Qh,Qu,Qt,Qs,Qn,Qd,cJ,Q4,Ji,Qsp,Qx5,Zb7,Qx6,Zb4,Jf,Jt,Ku,Ju,Ko,J0,q10,q11,q12,q13,q20,q21,q22,q23,p1,p2,p3,k4,k3,kp,m1,m2,m3,m4,vtwo,hr1,hr2,hr3,hr4,hr5,hr6,hr7,hr8,hr9,hr10,hr11,hr12,hr13,hr14,hr15,hr16,Lx1,Ly1,Lz1,Lt1,Lx2,Ly2,Lz2,Lt2,Ld,Ltwo,Lr1,Lr2,Lr3,Lr4,Lr5,Lr6,Lr7,Lr8,Lr9,Lr10,Lr11,Lr12,Lr13,Lr14,Lr15,Lr16]
  rfl
 ·refine ⟨?_,?_,?_,?_,?_,?_,?_,?_⟩
  ·rw [fr3,fr1,fr2]
  ·rw [fr6,fr4,fr5]
  ·rw [fr7,ftwo]
  ·rw [fr8,ftwo]
  ·rw [fr13,fr9,fr10]
  ·rw [fr14,fr11,fr12]
  ·rw [fr15,fr10,fr11]
  ·rw [fr16,fr9,fr12]
theorem Q72 {x1 y1 z1 t1:List Nat} (Ex1:El x1 (2^52)) (Ey1:El y1 (2^52)) (Ez1:El z1 (2^52)) (Et1:El t1 (2^52)) :
  ∃ x y z t,evVal T 95 [pV x1 y1 z1 t1]=some (pV x y z t)∧El x (2^52)∧El y (2^52)∧El z (2^52)∧El t (2^52) ∧
   ∃ a b c h e g f:Go.Fp.Fe,a=fe x1*fe x1∧b=fe y1*fe y1∧c=1*2*fe z1*fe z1∧h=a+b∧e=h-(fe x1+fe y1)*(fe x1+fe y1)∧g=a-b∧f=c+g ∧
    fe x=e*f∧fe y=g*h∧fe z=f*g∧fe t=e*h:=by
 obtain ⟨two,htwo⟩:∃ two:List Nat,two=[2,0,0,0,0]:=⟨_,rfl⟩
 have Etwo:El two (2^52):=by rw [htwo]; exact Q2m
 have vtwo:evVal T 73 [.int .u32 2]=some (eV two):=by rw [htwo]; exact Q2j
 have ftwo:fe two=2:=by rw [htwo]; exact Qu4
 clear htwo
 obtain ⟨r1,hr1,Er1,fr1⟩:=Uw Ex1 Ex1
 obtain ⟨r2,hr2,Er2,fr2⟩:=Uw Ey1 Ey1
 obtain ⟨r3,hr3,Er3,fr3⟩:=Qan (H:=[⟨ns .u64 (pL x1 y1 z1 t1),true,true,true,1⟩,⟨Qa 20 (.int .u64 0),true,true,true,1⟩,⟨ns .u64 r1,true,true,true,1⟩,⟨ns .u64 r2,true,true,true,1⟩,⟨ns .u64 [two,z1,z1].flatten,true,true,true,1⟩]) (id:=4) (n:=3) (xs:=[two,z1,z1]) rfl (by decide) (by intro w hw; simp only [Wh,W8,or_false] at hw; rcases hw with rfl | rfl | rfl<;>assumption) rfl
 simp only [Ze,Q9,W7,Be,U8,Dq] at hr3 fr3
 obtain ⟨r4,sr4,hr4,Er4,fr4⟩:=Mh (H:=[⟨ns .u64 (pL x1 y1 z1 t1),true,true,true,1⟩,⟨Qa 20 (.int .u64 0),true,true,true,1⟩,⟨ns .u64 r1,true,true,true,1⟩,⟨ns .u64 r2,true,true,true,1⟩,⟨ns .u64 [two,z1,z1].flatten,true,true,true,1⟩,⟨ns .u64 r3,true,true,true,1⟩,⟨ns .u64 r3,true,true,true,1⟩,⟨ns .u64 two,true,true,true,1⟩,⟨ns .u64 z1,true,true,true,1⟩,⟨ns .u64 z1,true,true,true,1⟩,⟨ns .u64 r3,true,true,true,1⟩,⟨ns .u64 (r1++r2),true,true,true,1⟩]) (id:=11) Er1 Er2 rfl
 simp only [Ze,Q9] at hr4
 obtain ⟨r5,sr5,hr5,Er5,fr5⟩:=Mh (H:=[⟨ns .u64 (pL x1 y1 z1 t1),true,true,true,1⟩,⟨Qa 20 (.int .u64 0),true,true,true,1⟩,⟨ns .u64 r1,true,true,true,1⟩,⟨ns .u64 r2,true,true,true,1⟩,⟨ns .u64 [two,z1,z1].flatten,true,true,true,1⟩,⟨ns .u64 r3,true,true,true,1⟩,⟨ns .u64 r3,true,true,true,1⟩,⟨ns .u64 two,true,true,true,1⟩,⟨ns .u64 z1,true,true,true,1⟩,⟨ns .u64 z1,true,true,true,1⟩,⟨ns .u64 r3,true,true,true,1⟩,⟨ns .u64 (r1++r2),true,true,true,1⟩,⟨ns .u64 r4,true,true,true,1⟩,⟨ns .u64 sr4,true,true,true,1⟩,⟨ns .u64 r1,true,true,true,1⟩,⟨ns .u64 r2,true,true,true,1⟩,⟨ns .u64 r4,true,true,true,1⟩,⟨ns .u64 (x1++y1),true,true,true,1⟩]) (id:=17) Ex1 Ey1 rfl
 simp only [Ze,Q9] at hr5
 obtain ⟨r6,hr6,Er6,fr6⟩:=Uw Er5 Er5
 obtain ⟨r7,hr7,Er7,fr7⟩:=Qct Er4 Er6
 obtain ⟨r8,hr8,Er8,fr8⟩:=Qct Er1 Er2
 obtain ⟨r9,sr9,hr9,Er9,fr9⟩:=Mh (H:=[⟨ns .u64 (pL x1 y1 z1 t1),true,true,true,1⟩,⟨Qa 20 (.int .u64 0),true,true,true,1⟩,⟨ns .u64 r1,true,true,true,1⟩,⟨ns .u64 r2,true,true,true,1⟩,⟨ns .u64 [two,z1,z1].flatten,true,true,true,1⟩,⟨ns .u64 r3,true,true,true,1⟩,⟨ns .u64 r3,true,true,true,1⟩,⟨ns .u64 two,true,true,true,1⟩,⟨ns .u64 z1,true,true,true,1⟩,⟨ns .u64 z1,true,true,true,1⟩,⟨ns .u64 r3,true,true,true,1⟩,⟨ns .u64 (r1++r2),true,true,true,1⟩,⟨ns .u64 r4,true,true,true,1⟩,⟨ns .u64 sr4,true,true,true,1⟩,⟨ns .u64 r1,true,true,true,1⟩,⟨ns .u64 r2,true,true,true,1⟩,⟨ns .u64 r4,true,true,true,1⟩,⟨ns .u64 (x1++y1),true,true,true,1⟩,⟨ns .u64 r5,true,true,true,1⟩,⟨ns .u64 sr5,true,true,true,1⟩,⟨ns .u64 x1,true,true,true,1⟩,⟨ns .u64 y1,true,true,true,1⟩,⟨ns .u64 r5,true,true,true,1⟩,⟨ns .u64 r7,true,true,true,1⟩,⟨ns .u64 r8,true,true,true,1⟩,⟨ns .u64 (r3++r8),true,true,true,1⟩]) (id:=25) Er3 Er8 rfl
 simp only [Ze,Q9] at hr9
 obtain ⟨r10,hr10,Er10,fr10⟩:=Uw Er7 Er9
 obtain ⟨r11,hr11,Er11,fr11⟩:=Uw Er8 Er4
 obtain ⟨r12,hr12,Er12,fr12⟩:=Uw Er9 Er8
 obtain ⟨r13,hr13,Er13,fr13⟩:=Uw Er7 Er4
 refine ⟨r10,r11,r12,r13,?_,Er10,Er11,Er12,Er13,fe r1,fe r2,fe r3,fe r4,fe r7,fe r8,fe r9,?_⟩
 ·obtain ⟨q10,q11,q12,q13⟩:=Qvr Ex1 Ey1 Ez1 Et1
  have p1:=Mz Ex1 Ey1 Ez1 Et1
  have p3:=Mz Er10 Er11 Er12 Er13
  have k3:=Qpl Etwo Ez1 Ez1
  have kp:=Qjp Er10 Er11 Er12 Er13
  have m1:=T4 Er1 Er2
  have m2:=T4 Ex1 Ey1
  have m3:=T4 Er3 Er8
  have Lx1:=Ex1.len
  have Ly1:=Ey1.len
  have Lz1:=Ez1.len
  have Lt1:=Et1.len
  have Ltwo:=Etwo.len
  have Lr1:=Er1.len
  have Lr2:=Er2.len
  have Lr3:=Er3.len
  have Lr4:=Er4.len
  have Lr5:=Er5.len
  have Lr6:=Er6.len
  have Lr7:=Er7.len
  have Lr8:=Er8.len
  have Lr9:=Er9.len
  have Lr10:=Er10.len
  have Lr11:=Er11.len
  have Lr12:=Er12.len
  have Lr13:=Er13.len
  apply Jx
  apply Zu
  rw [Zz (fn:=a53) rfl]
  simp only [a53,Zw,quiet,cF,↓pF,reduceCtorEq,Qb,Qq,Zj,Zd,Zg,Zc,Q8,Qf,Q0,Qe,Qz,Q6,Q5,↓Zy,↓Zx,↓Z7,↓Jb,↓Z9,↓Ja,cL,Qp,Qo,Qy,Qx,Qv,Ql,Qk,Qw,Qc,Q1,Q2,Qr,Qg,Qi,Qh,Qu,Qt,Qs,Qn,Qd,cJ,Q4,Ji,Qsp,Qx5,Zb7,Qx6,Zb4,Jf,Jt,Ku,Ju,Ko,J0,q10,q11,q12,q13,p1,p3,k3,kp,m1,m2,m3,vtwo,hr1,hr2,hr3,hr4,hr5,hr6,hr7,hr8,hr9,hr10,hr11,hr12,hr13,Lx1,Ly1,Lz1,Lt1,Ltwo,Lr1,Lr2,Lr3,Lr4,Lr5,Lr6,Lr7,Lr8,Lr9,Lr10,Lr11,Lr12,Lr13]
  rfl
 ·refine ⟨fr1,fr2,by rw [fr3,ftwo],fr4,by rw [fr7,fr6,fr5],fr8,fr9,?_,?_,?_,?_⟩
  ·rw [fr10]
  ·rw [fr11]
  ·rw [fr12]
  ·rw [fr13]
structure Rep (x y z t:List Nat) (p:Go.Cv.Pt Go.Fp.P Go.Fp.d):Prop where
 ex:El x (2^52)
 ey:El y (2^52)
 ez:El z (2^52)
 et:El t (2^52)
 nz:fe z≠0
 x:fe x=p.x*fe z
 y:fe y=p.y*fe z
 t:fe t=p.x*p.y*fe z
abbrev W6 (p q:Go.Cv.Pt Go.Fp.P Go.Fp.d):Go.Cv.Pt Go.Fp.P Go.Fp.d:=Go.Cv.Pt.add Go.Fp.fld p q
abbrev Ys (k:Nat) (p:Go.Cv.Pt Go.Fp.P Go.Fp.d):Go.Cv.Pt Go.Fp.P Go.Fp.d:=Go.Cv.Pt.mul Go.Fp.fld k p
abbrev Bt:Go.Cv.Pt Go.Fp.P Go.Fp.d:=Go.Cv.Pt.zero
theorem Qot {x1 y1 z1 t1 x2 y2 z2 t2 dd a b c e x y z t px py qx qy rx ry:Go.Fp.Fe} (hx1:x1=px*z1) (hy1:y1=py*z1) (ht1:t1=px*py*z1) (hx2:x2=qx*z2) (hy2:y2=qy*z2) (ht2:t2=qx*qy*z2)
  (ha:a=(y1-x1)*(y2-x2)) (hb:b=(y1+x1)*(y2+x2)) (hc:c=1*2*dd*t1*t2) (he:e=1*2*z1*z2) (hx:x=(b-a)*(e-c)) (hy:y=(e+c)*(b+a)) (hz:z=(e-c)*(e+c)) (ht:t=(b-a)*(b+a))
  (hrx:rx*(1+dd*px*qx*py*qy)=px*qy+qx*py) (hry:ry*(1-dd*px*qx*py*qy)=py*qy+px*qx) :
  x=rx*z∧y=ry*z∧t=rx*ry*z∧z=(2*z1*z2)*(2*z1*z2)*((1-dd*px*qx*py*qy)*(1+dd*px*qx*py*qy)):=by
 have e1:b-a=(2*z1*z2)*(px*qy+qx*py):=by rw [hb,ha,hx1,hy1,hx2,hy2]; grobner
 have e2:b+a=(2*z1*z2)*(py*qy+px*qx):=by rw [hb,ha,hx1,hy1,hx2,hy2]; grobner
 have e3:e-c=(2*z1*z2)*(1-dd*px*qx*py*qy):=by rw [he,hc,ht1,ht2]; grobner
 have e4:e+c=(2*z1*z2)*(1+dd*px*qx*py*qy):=by rw [he,hc,ht1,ht2]; grobner
 rw [e1,←hrx,e3] at hx
 rw [e4,e2,←hry] at hy
 rw [e3,e4] at hz
 rw [e1,e2,←hrx,←hry] at ht
 clear hx1 hy1 ht1 hx2 hy2 ht2 ha hb hc he hrx hry e1 e2 e3 e4
 generalize 1+dd*px*qx*py*qy=k,1-dd*px*qx*py*qy=m,2*z1*z2=w at *
 subst hx hy hz ht
 refine ⟨?_,?_,?_,?_⟩<;>grobner
theorem Rep.plus {x1 y1 z1 t1 x2 y2 z2 t2 d:List Nat} {p q:Go.Cv.Pt Go.Fp.P Go.Fp.d} (h1:Rep x1 y1 z1 t1 p) (h2:Rep x2 y2 z2 t2 q) (Ed:El d (2^52)) (hd:fe d=Go.Fp.d) :
  ∃ x y z t,evVal T 102 [pV x1 y1 z1 t1,pV x2 y2 z2 t2,eV d]=some (pV x y z t)∧Rep x y z t (W6 p q):=by
 obtain ⟨x,y,z,t,hv,Ex,Ey,Ez,Et,a,b,c,e,ha,hb,hc,he,hx,hy,hz,ht⟩:=Zda h1.ex h1.ey h1.ez h1.et h2.ex h2.ey h2.ez h2.et Ed
 rw [hd] at hc
 obtain ⟨g1,g2,g3,g4⟩:=Qot h1.x h1.y h1.t h2.x h2.y h2.t ha hb hc he hx hy hz ht (Go.Cv.Qfj Go.Fp.fld p q) (Go.Cv.Qb1 Go.Fp.fld p q)
 refine ⟨x,y,z,t,hv,Ex,Ey,Ez,Et,?_,g1,g2,g3⟩
 rw [g4]
 have F:=Go.Fp.fld
 have w:=F.mul_ne (F.mul_ne F.two h1.nz) h2.nz
 exact F.mul_ne (F.mul_ne w w) (F.mul_ne (F.denM p.on q.on) (F.denP p.on q.on))
theorem Qu6 {x1 y1 z1 dd a b c h e g f x y z t px py rx ry:Go.Fp.Fe} (hx1:x1=px*z1) (hy1:y1=py*z1) (on : -(px*px)+py*py=1+dd*(px*px)*(py*py))
  (ha:a=x1*x1) (hb:b=y1*y1) (hc:c=1*2*z1*z1) (hh:h=a+b) (he:e=h-(x1+y1)*(x1+y1)) (hg:g=a-b) (hf:f=c+g) (hx:x=e*f) (hy:y=g*h) (hz:z=f*g) (ht:t=e*h)
  (hrx:rx*(1+dd*px*px*py*py)=px*py+px*py) (hry:ry*(1-dd*px*px*py*py)=py*py+px*px) :
  x=rx*z∧y=ry*z∧t=rx*ry*z∧z = -((z1*z1)*(z1*z1)*((1-dd*px*px*py*py)*(1+dd*px*px*py*py))):=by
 have e1:e = -((z1*z1)*(px*py+px*py)):=by rw [he,hh,ha,hb,hx1,hy1]; grobner
 have e2:h=(z1*z1)*(py*py+px*px):=by rw [hh,ha,hb,hx1,hy1]; grobner
 have e3:g = -((z1*z1)*(1+dd*px*px*py*py)):=by
  have:1+dd*px*px*py*py=py*py-px*px:=by
   clear hx1 hy1 ha hb hc hh he hg hf hx hy hz ht hrx hry e1 e2
   grobner
  rw [this,hg,ha,hb,hx1,hy1]; grobner
 have e4:f=(z1*z1)*(1-dd*px*px*py*py):=by
  rw [hf,e3,hc]
  clear hx1 hy1 on ha hb hc hh he hg hf hx hy hz ht hrx hry e1 e2 e3
  grobner
 rw [←hrx] at e1
 rw [←hry] at e2
 clear hx1 hy1 on ha hb hc hh he hg hf hrx hry
 generalize 1+dd*px*px*py*py=k,1-dd*px*px*py*py=m,z1*z1=w at *
 subst e1 e2 e3 e4 hx hy hz ht
 refine ⟨?_,?_,?_,?_⟩<;>grobner
theorem Rep.twice {x1 y1 z1 t1:List Nat} {p:Go.Cv.Pt Go.Fp.P Go.Fp.d} (h1:Rep x1 y1 z1 t1 p):∃ x y z t,evVal T 95 [pV x1 y1 z1 t1]=some (pV x y z t)∧Rep x y z t (W6 p p):=by
 obtain ⟨x,y,z,t,hv,Ex,Ey,Ez,Et,a,b,c,h,e,g,f,ha,hb,hc,hh,he,hg,hf,hx,hy,hz,ht⟩:=Q72 h1.ex h1.ey h1.ez h1.et
 obtain ⟨g1,g2,g3,g4⟩:=Qu6 h1.x h1.y p.on ha hb hc hh he hg hf hx hy hz ht (Go.Cv.Qfj Go.Fp.fld p p) (Go.Cv.Qb1 Go.Fp.fld p p)
 refine ⟨x,y,z,t,hv,Ex,Ey,Ez,Et,?_,g1,g2,g3⟩
 rw [g4]
 have F:=Go.Fp.fld
 have w:=F.mul_ne h1.nz h1.nz
 have n:=F.mul_ne (F.mul_ne w w) (F.mul_ne (F.denM p.on p.on) (F.denP p.on p.on))
 intro h0
 exact n (by grobner)
def RepL (l:List Nat) (p:Go.Cv.Pt Go.Fp.P Go.Fp.d):Prop:=∃ x y z t,l=pL x y z t∧Rep x y z t p
theorem RepL.len {l:List Nat} {p:Go.Cv.Pt Go.Fp.P Go.Fp.d} (h:RepL l p):l.length=20:=by
 obtain ⟨x,y,z,t,rfl,h⟩:=h
 exact Mz h.ex h.ey h.ez h.et
theorem Zb6 {l m d:List Nat} {p q:Go.Cv.Pt Go.Fp.P Go.Fp.d} (h1:RepL l p) (h2:RepL m q) (Ed:El d (2^52)) (hd:fe d=Go.Fp.d):∃ r,evVal T 102 [eV l,eV m,eV d]=some (eV r)∧RepL r (W6 p q):=by
 obtain ⟨x,y,z,t,rfl,h1⟩:=h1
 obtain ⟨x2,y2,z2,t2,rfl,h2⟩:=h2
 obtain ⟨a,b,c,e,h3,h4⟩:=h1.plus h2 Ed hd
 exact ⟨pL a b c e,h3,a,b,c,e,rfl,h4⟩
theorem Qp3 {l:List Nat} {p:Go.Cv.Pt Go.Fp.P Go.Fp.d} (h1:RepL l p):∃ r,evVal T 95 [eV l]=some (eV r)∧RepL r (W6 p p):=by
 obtain ⟨x,y,z,t,rfl,h1⟩:=h1
 obtain ⟨a,b,c,e,h3,h4⟩:=h1.twice
 exact ⟨pL a b c e,h3,a,b,c,e,rfl,h4⟩
def dK:List Nat:=dig 256 32 Go.Fp.dN
theorem Zee:num 256 dK=Go.Fp.dN:=by decide +kernel
theorem dK_lt:∀ x∈dK,x<256:=fun _ h=>Dh (by decide) h
theorem Qmg:∃ r,evVal T 91 []=some (eV r)∧El r (2^52)∧fe r=Go.Fp.d:=by
 have h:=Q0c (k:=dK) (Km _ _ _) dK_lt
 refine ⟨dig (2^51) 5 (num 256 dK%2^255),?_,Qs6,?_⟩
 rotate_left
 ·unfold fe
  rw [Qir,Zee]
  rfl
 ·have hl:(dig (2^51) 5 (num 256 dK%2^255)).length=5:=Km _ _ _
  have hf:fillL (Qa 32 (Value.int .u8 0)) [(0,1,.int .u8 163),(1,1,.int .u8 120),(2,1,.int .u8 89),(3,1,.int .u8 19),(4,1,.int .u8 202),(5,1,.int .u8 77),(6,1,.int .u8 235),(7,1,.int .u8 117),(8,1,.int .u8 171),(9,1,.int .u8 216),(10,1,.int .u8 65),(11,1,.int .u8 65),(12,1,.int .u8 77),(13,1,.int .u8 10),(14,1,.int .u8 112),(15,1,.int .u8 0),(16,1,.int .u8 152),(17,1,.int .u8 232),(18,1,.int .u8 121),(19,1,.int .u8 119),(20,1,.int .u8 121),(21,1,.int .u8 64),(22,1,.int .u8 199),(23,1,.int .u8 140),(24,1,.int .u8 115),(25,1,.int .u8 254),(26,1,.int .u8 111),(27,1,.int .u8 43),(28,1,.int .u8 238),(29,1,.int .u8 108),(30,1,.int .u8 3),(31,1,.int .u8 82)]=some (u8s dK):=by
   have:dK=[163,120,89,19,202,77,235,117,171,216,65,65,77,10,112,0,152,232,121,119,121,64,199,140,115,254,111,43,238,108,3,82]:=by decide +kernel
   rw [this]; rfl
  generalize dig (2^51) 5 (num 256 dK%2^255)=D at *
  apply Jx
  apply Zu
  rw [Zz (fn:=a52) rfl]
  simp only [a52,Zw,quiet,cF,↓pF,reduceCtorEq,Qb,Qq,Zj,Zd,Zg,Zc,Q8,Qf,Q0,Qe,Qz,Q6,Q5,↓Zy,↓Zx,↓Z7,↓Jb,↓Z9,↓Ja,cL,Qp,Qo,Qy,Qx,Qv,Ql,Qk,Qw,Qc,Q1,Q2,Qr,Qg,Qi,Qh,Qu,Qt,Qs,Qn,Qd,cJ,hf,h,Q4,Ji,Jf,Jt,Ku,Ju,Ko,J0,hl]
  rfl
theorem Q4k:evVal T 73 [.int .u32 1]=some (eV [1,0,0,0,0]):=Qef (n:=1) (by decide)
theorem Qkm:El [0,0,0,0,0] (2^52):=Qbk (by decide)
theorem Qxe:fe [0,0,0,0,0]=0:=by rw [Qbj]; rfl
theorem Qux:∃ r,evVal T 96 []=some (eV r)∧RepL r Bt:=by
 refine ⟨pL [0,0,0,0,0] [1,0,0,0,0] [1,0,0,0,0] [0,0,0,0,0],?_,_,_,_,_,rfl,Qkm,Qfw,Qfw,Qkm,?_,?_,?_,?_⟩
 ·have hf:fillL (Qa 20 (Value.int .u64 0)) [(5,5,eV [1,0,0,0,0]),(10,5,eV [1,0,0,0,0])]=some (ns .u64 (pL [0,0,0,0,0] [1,0,0,0,0] [1,0,0,0,0] [0,0,0,0,0])):=rfl
  have hl:(pL [0,0,0,0,0] [1,0,0,0,0] [1,0,0,0,0] [0,0,0,0,0]).length=20:=rfl
  have hv:=Q4k
  generalize pL [0,0,0,0,0] [1,0,0,0,0] [1,0,0,0,0] [0,0,0,0,0]=Z at *
  generalize ([1,0,0,0,0]:List Nat)=O at *
  apply Jx
  apply Zu
  rw [Zz (fn:=a30) rfl]
  simp only [a30,Zw,quiet,cF,↓pF,reduceCtorEq,Qb,Qq,Zj,Zd,Zg,Zc,Q8,Qf,Q0,Qe,Qz,Q6,Q5,↓Zy,↓Zx,↓Z7,↓Jb,↓Z9,↓Ja,cL,Qp,Qo,Qy,Qx,Qv,Ql,Qk,Qw,Qc,Q1,Q2,Qr,Qg,Qi,Qh,Qu,Qt,Qs,Qn,Qd,cJ,hf,hv,Q4,Ji,Jf,Jt,Ku,Ju,Ko,J0,hl]
  rfl
 ·rw [Qfv]; exact Go.Fp.Mk
 ·rw [Qxe]; simp only [Go.Cv.Pt.zero]; grobner
 ·rw [Qfv]; simp only [Go.Cv.Pt.zero]; grobner
 ·rw [Qxe]; simp only [Go.Cv.Pt.zero]; grobner
theorem Qor (p:Go.Cv.Pt Go.Fp.P Go.Fp.d) (m b:Nat) (hb:b<2):Ys (2*m+b) p=if b=1 then W6 (W6 (Ys m p) (Ys m p)) p else W6 (Ys m p) (Ys m p):=by
 have h1:Ys (2*m) p=W6 (Ys m p) (Ys m p):=by rw [show 2*m=m+m by omega]; exact Go.Cv.mul_add Go.Fp.fld m m p
 by_cases h:b=1
 ·subst h
  rw [if_pos rfl]
  show W6 (Ys (2*m) p) p=_
  rw [h1]
 ·have:b=0:=by omega
  subst this
  rw [if_neg (by decide),Jy,h1]
def muI (l k o d:List Nat) (R:Ob) (i:Int) (ex:Env):St:=⟨[(2,.pointer (some ⟨0,0,none⟩)),(3,.pointer (some ⟨1,0,none⟩)),(4,.pointer (some ⟨2,0,none⟩)),(5,.pointer (some ⟨3,0,none⟩)),(6,.pointer (some ⟨4,0,none⟩)),(7,.int .i64 i)]++ex,[⟨ns .u64 l,true,true,true,1⟩,⟨u8s k,true,true,true,1⟩,R,⟨ns .u64 o,true,true,true,1⟩,⟨ns .u64 d,true,true,true,1⟩],[]⟩
theorem Q9t {l k o d:List Nat} {R:Ob} {i:Nat} {p:Go.Cv.Pt Go.Fp.P Go.Fp.d} (hl:RepL l p) (lk:k.length=32) (xk:∀ x∈k,x<256) (hi:i<256) (Ed:El d (2^52)) (hd:fe d=Go.Fp.d) (ho:RepL o (Ys (num 256 k/2^(i+1)) p)) :
  ∃ r,Jl T 0 Qi8 (muI l k o d R i [])=some (.normal,muI l k r d R ((i:Int)-1) [])∧RepL r (Ys (num 256 k/2^i) p):=by
 obtain ⟨b,hb⟩:∃ b,k[i/8]?=some b:=⟨_,Q3 (by omega)⟩
 have hbv:=G8 (B:=256) (by decide) xk hb
 have hbc:=Wy hb
 have hbit:b/2^(i%8)%2=num 256 k/2^i%2:=by
  rw [←hbv,show (256:Nat)=2^8 from rfl,Qmn (Jo _ (by decide)),Ya]
 obtain ⟨r1,m1,g1⟩:=Qp3 ho
 obtain ⟨r2,m2,g3⟩:=Zb6 g1 hl Ed hd
 have hlt:=Qcp (num 256 k) i
 have hnum:num 256 k/2^i=2*(num 256 k/2^(i+1))+num 256 k/2^i%2:=by
  rw [Kv,←Kb]
  omega
 have hstep:=Qor p (num 256 k/2^(i+1)) (num 256 k/2^i%2) hlt
 rw [←hnum] at hstep
 have s1:(2:Int)^min (i%8) IntKind.u8.bits=((2^(i%8):Nat):Int):=Qcc (W3 (Jo _ (by decide)))
 have w2:IntKind.i64.wrap ((i/8:Nat):Int)=((i/8:Nat):Int):=Yi (by omega)
 have w3:IntKind.i64.wrap ((i:Int)-1)=(i:Int)-1:=Kn (by omega) (by omega)
 have e1:((0:Int)≤(i:Int))=True:=eq_true (by omega)
 have e3:(((i/8:Nat):Int)<32)=True:=eq_true (by omega)
 have e4:(((i%8:Nat):Int)<0)=False:=eq_false (by omega)
 have l1:=hl.len
 have l2:=ho.len
 have l3:=g1.len
 have l4:=g3.len
 have l5:=Ed.len
 generalize hB:num 256 k/2^i%2=B at *
 by_cases hB1:B=1
 ·have hbq:((B:Int)==1)=true:=by rw [hB1]; rfl
  rw [if_pos hB1] at hstep
  refine ⟨r2,?_,by rw [hstep]; exact g3⟩
  simp only [muI,Qi8,Zw,quiet,cF,↓pF,reduceCtorEq,Qb,Qq,Zj,Zd,Zg,Zc,Q8,Qf,Q0,Qe,Qz,Q6,Q5,↓Zy,↓Zx,↓Z7,↓Jb,↓Z9,↓Ja,cL,Qp,Qo,Qy,Qx,Qv,Ql,Qk,Qw,Qc,Q1,Q2,Qr,Qg,Qi,Qh,Qu,Qt,Qs,Qn,Qd,cJ,cU,hbc,hbit,s1,w2,w3,e1,e3,e4,m1,m2,hbq,Ji,Jf,Jt,Ku,Ju,J0,l1,l2,l3,l4,l5,Ko]
 ·have hbq:((B:Int)==1)=false:=by
   have:B=0:=by omega
   rw [this]; rfl
  rw [if_neg hB1] at hstep
  refine ⟨r1,?_,by rw [hstep]; exact g1⟩
  simp only [muI,Qi8,Zw,quiet,cF,↓pF,reduceCtorEq,Qb,Qq,Zj,Zd,Zg,Zc,Q8,Qf,Q0,Qe,Qz,Q6,Q5,↓Zy,↓Zx,↓Z7,↓Jb,↓Z9,↓Ja,cL,Qp,Qo,Qy,Qx,Qv,Ql,Qk,Qw,Qc,Q1,Q2,Qr,Qg,Qi,Qh,Qu,Qt,Qs,Qn,Qd,cJ,cU,hbc,hbit,s1,w2,w3,e1,e3,e4,m1,m2,hbq,Ji,Jf,Jt,Ku,Ju,J0,l1,l2,l3,l4,l5,Ko]
theorem T1 {l k:List Nat} {p:Go.Cv.Pt Go.Fp.P Go.Fp.d} (hl:RepL l p) (lk:k.length=32) (xk:∀ x∈k,x<256):∃ r,evVal T 51 [eV l,.agg (u8s k).toArray]=some (eV r)∧RepL r (Ys (num 256 k) p):=by
 have hK:=num_lt xk
 rw [lk,show (256:Nat)^32=2^256 from by rw [show (256:Nat)=2^8 from rfl,←Y5]] at hK
 obtain ⟨z,hz,hz2⟩:=Qux
 obtain ⟨d,hd1,Ed,hd⟩:=Qmg
 obtain ⟨st,hb,r,rfl,hr1⟩:=Vi (T:=T) (base:=0) (id:=0) (body:=Qi8)
  (fun j st=>∃ r:List Nat,st=muI l k r d ⟨Qa 20 (.int .u64 0),true,true,true,1⟩ ((255:Int)-j) []∧RepL r (Ys (num 256 k/2^(256-j)) p))
  (Q:=fun st=>∃ r:List Nat,st=muI l k r d ⟨Qa 20 (.int .u64 0),true,true,true,1⟩ (-1) [(11,.bool false)]∧RepL r (Ys (num 256 k) p))
  256 (s:=muI l k z d ⟨Qa 20 (.int .u64 0),true,true,true,1⟩ 255 []) ⟨_,rfl,by rw [Xw,Uk hK]; exact hz2⟩
  (fun j st hj hs=>by
   obtain ⟨r,rfl,h2⟩:=hs
   obtain ⟨i,hi⟩:∃ i,256-j=i+1:=⟨255-j,by omega⟩
   rw [hi] at h2
   obtain ⟨r',g1,g3⟩:=Q9t (R:=⟨Qa 20 (.int .u64 0),true,true,true,1⟩) hl lk xk (i:=i) (by omega) Ed hd h2
   rw [show (255:Int)-j=(i:Int) by omega]
   refine ⟨_,g1,r',?_,?_⟩
   ·rw [show (255:Int)-((j+1:Nat):Int)=(i:Int)-1 by omega]
   ·rw [show 256-(j+1)=i by omega]; exact g3)
  (fun st hs=>by
   obtain ⟨r,rfl,h2⟩:=hs
   rw [Jw,Yv,Ww] at h2
   have e:((0:Int) ≤ -1)=False:=by decide
   refine ⟨_,?_,r,rfl,h2⟩
   rw [show (255:Int)-((256:Nat):Int) = -1 by omega]
   simp only [muI,Qi8,Zw,quiet,cF,↓pF,reduceCtorEq,Qb,Qq,Zj,Zd,Zg,Zc,Q8,Qf,Q0,Qe,Qz,Q6,Q5,↓Zy,↓Zx,↓Z7,↓Jb,↓Z9,↓Ja,cL,Qp,Qo,Qy,Qx,Qv,Ql,Qk,Qw,Qc,Q1,Q2,Qr,Qg,Qi,Qh,Qu,Qt,Qs,Qn,Qd,e])
 refine ⟨r,?_,hr1⟩
 have l1:=hl.len
 have l2:=hz2.len
 have l3:=hr1.len
 have l4:=Ed.len
 simp only [muI,Ze,Q9] at hb
 apply Jx
 apply Zu
 rw [Zz (fn:=a26) rfl]
 simp only [a26,Zw,quiet,cF,↓pF,reduceCtorEq,Qb,Qq,Zj,Zd,Zg,Zc,Q8,Qf,Q0,Qe,Qz,Q6,Q5,↓Zy,↓Zx,↓Z7,↓Jb,↓Z9,↓Ja,cL,Qp,Qo,Qy,Qx,Qv,Ql,Qk,Qw,Qc,Q1,Q2,Qr,Qg,Qi,Qh,Qu,Qt,Qs,Qn,Qd,cJ,hz,hd1,hb,muI,Q4,Ji,Jf,Jt,Ku,Ju,J0,l1,l2,l3,l4,Ko]
 rfl
theorem Zdr {l:List Nat} {p:Go.Cv.Pt Go.Fp.P Go.Fp.d} (hl:RepL l p):∃ r,evVal T 52 [eV l]=some (eV r)∧RepL r p.neg:=by
 obtain ⟨x,y,z,t,rfl,h⟩:=hl
 obtain ⟨a,ha,Ea,fa⟩:=Qo6 h.ex
 obtain ⟨b,hb,Eb,fb⟩:=Qo6 h.et
 obtain ⟨q0,q1,q2,q3⟩:=Qvr h.ex h.ey h.ez h.et
 have hf:=Qjp Ea h.ey h.ez Eb
 have p1:=Mz h.ex h.ey h.ez h.et
 have p2:=Mz Ea h.ey h.ez Eb
 refine ⟨pL a y z b,?_,a,y,z,b,rfl,Ea,h.ey,h.ez,Eb,h.nz,?_,?_,?_⟩
 ·generalize pL x y z t=L,pL a y z b=M at *
  apply Jx
  apply Zu
  rw [Zz (fn:=a34) rfl]
  simp only [a34,Zw,quiet,cF,↓pF,reduceCtorEq,Qb,Qq,Zj,Zd,Zg,Zc,Q8,Qf,Q0,Qe,Qz,Q6,Q5,↓Zy,↓Zx,↓Z7,↓Jb,↓Z9,↓Ja,cL,Qp,Qo,Qy,Qx,Qv,Ql,Qk,Qw,Qc,Q1,Q2,Qr,Qg,Qi,Qh,Qu,Qt,Qs,Qn,Qd,cJ,q0,q1,q2,q3,ha,hb,hf,Q4,Ji,Jf,Jt,Ku,Ju,J0,p1,p2,Ko]
  rfl
 ·rw [fa,h.x]; simp only [Go.Cv.Pt.neg]; grobner
 ·rw [h.y]; rfl
 ·rw [fb,h.t]; simp only [Go.Cv.Pt.neg]; grobner
instance decPt (p q:Go.Cv.Pt Go.Fp.P Go.Fp.d):Decidable (p=q):=if h:p.x=q.x∧p.y=q.y then isTrue (Go.Cv.Pt.ext h.1 h.2) else isFalse (fun e=>h (by rw [e]; exact ⟨rfl,rfl⟩))
theorem Q27 {a b z w:Go.Fp.Fe} (hz:z≠0) (hw:w≠0):(a*z*w=b*w*z)=(a=b):=by
 apply propext
 constructor
 ·intro h
  have F:=Go.Fp.fld
  refine F.cancel (F.mul_ne hz hw) ?_
  grobner
 ·intro h; subst h; grobner
theorem Zau {l m:List Nat} {p q:Go.Cv.Pt Go.Fp.P Go.Fp.d} (h1:RepL l p) (h2:RepL m q):evVal T 94 [eV l,eV m]=some (.bool (decide (p=q))):=by
 obtain ⟨x1,y1,z1,t1,rfl,h1⟩:=h1
 obtain ⟨x2,y2,z2,t2,rfl,h2⟩:=h2
 obtain ⟨a,ha,Ea,fa⟩:=Uw h1.ex h2.ez
 obtain ⟨b,hb,Eb,fb⟩:=Uw h2.ex h1.ez
 obtain ⟨c,hc,Ec,fc⟩:=Uw h1.ey h2.ez
 obtain ⟨e,he,Ee,fe_⟩:=Uw h2.ey h1.ez
 have q1:=Zav Ea Eb
 have q2:=Zav Ec Ee
 rw [fa,fb,h1.x,h2.x] at q1
 rw [fc,fe_,h1.y,h2.y] at q2
 simp only [Q27 h1.nz h2.nz] at q1 q2
 obtain ⟨u0,u1,u2,u3⟩:=Qvr h1.ex h1.ey h1.ez h1.et
 obtain ⟨v0,v1,v2,v3⟩:=Qvr h2.ex h2.ey h2.ez h2.et
 have p1:=Mz h1.ex h1.ey h1.ez h1.et
 have p2:=Mz h2.ex h2.ey h2.ez h2.et
 generalize pL x1 y1 z1 t1=L,pL x2 y2 z2 t2=M at *
 by_cases hx:p.x=q.x
 ·rw [decide_eq_true hx] at q1
  have hd:decide (p=q)=decide (p.y=q.y):=by
   by_cases hy:p.y=q.y
   ·rw [decide_eq_true hy,decide_eq_true (Go.Cv.Pt.ext hx hy)]
   ·rw [decide_eq_false hy,decide_eq_false (fun h=>hy (by rw [h]))]
  rw [hd]
  apply Jx
  apply Zu
  rw [Zz (fn:=a28) rfl]
  simp only [a28,Zw,quiet,cF,↓pF,reduceCtorEq,Qb,Qq,Zj,Zd,Zg,Zc,Q8,Qf,Q0,Qe,Qz,Q6,Q5,↓Zy,↓Zx,↓Z7,↓Jb,↓Z9,↓Ja,cL,Qp,Qo,Qy,Qx,Qv,Ql,Qk,Qw,Qc,Q1,Q2,Qr,Qg,Qi,Qh,Qu,Qt,Qs,Qn,Qd,cJ,u0,u1,u2,v0,v1,v2,ha,hb,hc,he,q1,q2,Q4,Ji,Jf,Jt,Ku,Ju,J0,p1,p2,Ko]
  rfl
 ·rw [decide_eq_false hx] at q1
  rw [decide_eq_false (fun h=>hx (by rw [h]))]
  apply Jx
  apply Zu
  rw [Zz (fn:=a28) rfl]
  simp only [a28,Zw,quiet,cF,↓pF,reduceCtorEq,Qb,Qq,Zj,Zd,Zg,Zc,Q8,Qf,Q0,Qe,Qz,Q6,Q5,↓Zy,↓Zx,↓Z7,↓Jb,↓Z9,↓Ja,cL,Qp,Qo,Qy,Qx,Qv,Ql,Qk,Qw,Qc,Q1,Q2,Qr,Qg,Qi,Qh,Qu,Qt,Qs,Qn,Qd,cJ,u0,u1,u2,v0,v1,v2,ha,hb,hc,he,q1,q2,Q4,Ji,Jf,Jt,Ku,Ju,J0,p1,p2,Ko]
  rfl
theorem Q6o (p:Go.Cv.Pt Go.Fp.P Go.Fp.d):W6 (W6 (W6 p p) (W6 p p)) (W6 (W6 p p) (W6 p p))=Ys 8 p:=by
 have h2:Ys 2 p=W6 p p:=Go.Cv.mul_two Go.Fp.fld p
 have h4:Ys 4 p=W6 (Ys 2 p) (Ys 2 p):=Go.Cv.mul_add Go.Fp.fld 2 2 p
 have h8:Ys 8 p=W6 (Ys 4 p) (Ys 4 p):=Go.Cv.mul_add Go.Fp.fld 4 4 p
 rw [h8,h4,h2]
theorem Zcv {l:List Nat} {p:Go.Cv.Pt Go.Fp.P Go.Fp.d} (h:RepL l p):evVal T 46 [eV l]=some (.bool (decide (Ys 8 p=Bt))):=by
 obtain ⟨a,ha,ra⟩:=Qp3 h
 obtain ⟨b,hb,rb⟩:=Qp3 ra
 obtain ⟨c,hc,rc⟩:=Qp3 rb
 obtain ⟨z,hz,rz⟩:=Qux
 have he:=Zau rc rz
 rw [Q6o] at he
 have p1:=h.len
 apply Jx
 apply Zu
 rw [Zz (fn:=a39) rfl]
 simp only [a39,Zw,quiet,cF,↓pF,reduceCtorEq,Qb,Qq,Zj,Zd,Zg,Zc,Q8,Qf,Q0,Qe,Qz,Q6,Q5,↓Zy,↓Zx,↓Z7,↓Jb,↓Z9,↓Ja,cL,Qp,Qo,Qy,Qx,Qv,Ql,Qk,Qw,Qc,Q1,Q2,Qr,Qg,Qi,Qh,Qu,Qt,Qs,Qn,Qd,cJ,ha,hb,hc,hz,he,Ji,Jf,Jt,Ku,Ju,J0,p1,Ko]
 rfl
def Qg1 (p:Go.Cv.Pt Go.Fp.P Go.Fp.d):Nat:=p.y.val+(p.x.val%2)*2^255
def enc (p:Go.Cv.Pt Go.Fp.P Go.Fp.d):List Nat:=dig 256 32 (Qg1 p)
theorem Rl (p:Go.Cv.Pt Go.Fp.P Go.Fp.d):(enc p).length=32:=Km _ _ _
theorem Qwv (p:Go.Cv.Pt Go.Fp.P Go.Fp.d):∀ x∈enc p,x<256:=Rb
theorem Qc7 (a:Go.Fp.Fe):a.val<2^255:=Uc a.isLt (by rw [Go.Fp.Qd4]; decide)
theorem Qq7 (p:Go.Cv.Pt Go.Fp.P Go.Fp.d):Qg1 p<256^32:=by
 have h1:=Qc7 p.y
 have h2:=Jo p.x.val (by decide:0<2)
 unfold Qg1
 have:p.x.val%2*2^255≤1*2^255:=Yh _ (by omega)
 have e:(256:Nat)^32=2^255+2^255:=by decide
 omega
theorem Qgz {l:List Nat} {p:Go.Cv.Pt Go.Fp.P Go.Fp.d} (h:RepL l p):evVal T 53 [eV l]=some (.agg (u8s (enc p)).toArray):=by
 obtain ⟨x,y,z,t,rfl,h⟩:=h
 obtain ⟨i,hi,Ei,fi⟩:=Qtj h.ez
 obtain ⟨a,ha,Ea,fa⟩:=Uw h.ey Ei
 obtain ⟨b,hb,Eb,fb⟩:=Uw h.ex Ei
 have hinv:=Go.Fp.Dz h.nz
 have fa':fe a=p.y:=by rw [fa,fi,h.y]; grobner
 have fb':fe b=p.x:=by rw [fb,fi,h.x]; grobner
 have k1:=Qcm Ea
 have k2:=Q4x Eb
 rw [fa'] at k1
 rw [fb'] at k2
 obtain ⟨u0,u1,u2,u3⟩:=Qvr h.ex h.ey h.ez h.et
 have p1:=Mz h.ex h.ey h.ez h.et
 have L1:=Ei.len
 have lk:(dig 256 32 p.y.val).length=32:=Km _ _ _
 have l0:(dig 256 32 0).length=32:=rfl
 have hz32:Qa 32 (Value.int .u8 0)=u8s (dig 256 32 0):=rfl
 generalize pL x y z t=L at *
 by_cases ho:p.x.val%2=1
 ·rw [decide_eq_true ho] at k2
  have hv:=Qc7 p.y
  obtain ⟨w,hw⟩:∃ w,(dig 256 32 p.y.val)[31]?=some w:=⟨_,Q3 (by rw [Km]; decide)⟩
  have hwc:=Wy hw
  have hw':w<256:=Dh (by decide) (Zp hw)
  have hput:=Qkh (w:=8) (m:=32) (q:=31) (s:=7) (y:=1) (M:=p.y.val) (by decide) (by decide) hv (by decide)
  have hgd:(dig (2^8) 32 p.y.val).getD 31 0=w:=by rw [Jz]; rw [show (2:Nat)^8=256 from rfl,hw]; rfl
  rw [hgd] at hput
  have hset:=Ba (dig 256 32 p.y.val) 31 (w|||128)
  rw [show (dig 256 32 p.y.val).set 31 (w|||128)=enc p from by rw [enc,Qg1,ho]; exact hput] at hset
  have o1:Vx .or .u8 (w:Int) 128=((w|||128:Nat):Int):=Hg (k := .u8) (a:=w) (b:=128) rfl hw' (by decide)
  have le:=Rl p
  generalize enc p=E at *
  apply Jx
  apply Zu
  rw [Zz (fn:=a29) rfl]
  simp only [a29,Zw,quiet,cF,↓pF,reduceCtorEq,Qb,Qq,Zj,Zd,Zg,Zc,Q8,Qf,Q0,Qe,Qz,Q6,Q5,↓Zy,↓Zx,↓Z7,↓Jb,↓Z9,↓Ja,cL,Qp,Qo,Qy,Qx,Qv,Ql,Qk,Qw,Qc,Q1,Q2,Qr,Qg,Qi,Qh,Qu,Qt,Qs,Qn,Qd,cJ,hz32,u0,u1,u2,hi,ha,hb,k1,k2,hwc,o1,hset,Q4,Ji,Jf,Jt,Ku,Ju,J0,Zv,lk,l0,le,p1,L1,Ko]
  rfl
 ·rw [decide_eq_false ho] at k2
  have he:enc p=dig 256 32 p.y.val:=by rw [enc,Qg1,show p.x.val%2=0 by omega,Xv,Jy]
  rw [he]
  generalize dig 256 32 p.y.val=E at *
  apply Jx
  apply Zu
  rw [Zz (fn:=a29) rfl]
  simp only [a29,Zw,quiet,cF,↓pF,reduceCtorEq,Qb,Qq,Zj,Zd,Zg,Zc,Q8,Qf,Q0,Qe,Qz,Q6,Q5,↓Zy,↓Zx,↓Z7,↓Jb,↓Z9,↓Ja,cL,Qp,Qo,Qy,Qx,Qv,Ql,Qk,Qw,Qc,Q1,Q2,Qr,Qg,Qi,Qh,Qu,Qt,Qs,Qn,Qd,cJ,hz32,u0,u1,u2,hi,ha,hb,k1,k2,Q4,Ji,Jf,Jt,Ku,Ju,J0,Zv,lk,l0,p1,L1,Ko]
  rfl
def bxN:Nat:=15112221349535400772501151409588531511454012693041857206046113283949847762202
def byN:Nat:=46316835694926478169428394003475163141307993866256225615783033603165251855960
def Un:Go.Cv.Pt Go.Fp.P Go.Fp.d:=⟨Go.Fp.fp bxN,Go.Fp.fp byN,by
 unfold Go.Cv.On Go.Fp.d
 have h:(Go.Fp.fp byN*Go.Fp.fp byN:Go.Fp.Fe)=Go.Fp.fp bxN*Go.Fp.fp bxN+(1+Go.Fp.fp Go.Fp.dN*(Go.Fp.fp bxN*Go.Fp.fp bxN)*(Go.Fp.fp byN*Go.Fp.fp byN)):=by
  rw [←Go.Fp.Qq5,←Go.Fp.Ge,←Go.Fp.Ge,←Go.Fp.Ge,←Go.Fp.Ge,←Go.Fp.Dg,←Go.Fp.Dg]
  exact Go.Fp.Qjo.2 (by decide +kernel)
 grobner⟩
def bxK:List Nat:=dig 256 32 bxN
def byK:List Nat:=dig 256 32 byN
theorem Za4:num 256 bxK=bxN:=by decide +kernel
theorem Za3:num 256 byK=byN:=by decide +kernel
theorem Qw7:∃ r,evVal T 50 []=some (eV r)∧RepL r Un:=by
 have h1:=Q0c (k:=bxK) (Km _ _ _) Rb
 have h2:=Q0c (k:=byK) (Km _ _ _) Rb
 have E1:=Qs6 (V:=num 256 bxK%2^255)
 have E2:=Qs6 (V:=num 256 byK%2^255)
 have f1:fe (dig (2^51) 5 (num 256 bxK%2^255))=Go.Fp.fp bxN:=by unfold fe; rw [Qir,Za4]; rfl
 have f2:fe (dig (2^51) 5 (num 256 byK%2^255))=Go.Fp.fp byN:=by unfold fe; rw [Qir,Za3]; rfl
 generalize dig (2^51) 5 (num 256 bxK%2^255)=X,dig (2^51) 5 (num 256 byK%2^255)=Y at *
 obtain ⟨t,ht,Et,ft⟩:=Uw E1 E2
 have E3:∃ O:List Nat,O=[1,0,0,0,0]:=⟨_,rfl⟩
 obtain ⟨O,hO⟩:=E3
 have E3:El O (2^52):=by rw [hO]; exact Qfw
 have v1:evVal T 73 [.int .u32 1]=some (eV O):=by rw [hO]; exact Q4k
 have f3:fe O=1:=by rw [hO]; exact Qfv
 clear hO
 have hf:=Qjp E1 E2 E3 Et
 have p1:=Mz E1 E2 E3 Et
 refine ⟨pL X Y O t,?_,X,Y,O,t,rfl,E1,E2,E3,Et,by rw [f3]; exact Go.Fp.Mk,by rw [f1,f3]; simp only [Un]; grobner,by rw [f2,f3]; simp only [Un]; grobner,by rw [ft,f1,f2,f3]; simp only [Un]; grobner⟩
 have L1:=E1.len
 have L2:=E2.len
 have g1:fillL (Qa 32 (Value.int .u8 0)) [(0,1,.int .u8 26),(1,1,.int .u8 213),(2,1,.int .u8 37),(3,1,.int .u8 143),(4,1,.int .u8 96),(5,1,.int .u8 45),(6,1,.int .u8 86),(7,1,.int .u8 201),(8,1,.int .u8 178),(9,1,.int .u8 167),(10,1,.int .u8 37),(11,1,.int .u8 149),(12,1,.int .u8 96),(13,1,.int .u8 199),(14,1,.int .u8 44),(15,1,.int .u8 105),(16,1,.int .u8 92),(17,1,.int .u8 220),(18,1,.int .u8 214),(19,1,.int .u8 253),(20,1,.int .u8 49),(21,1,.int .u8 226),(22,1,.int .u8 164),(23,1,.int .u8 192),(24,1,.int .u8 254),(25,1,.int .u8 83),(26,1,.int .u8 110),(27,1,.int .u8 205),(28,1,.int .u8 211),(29,1,.int .u8 54),(30,1,.int .u8 105),(31,1,.int .u8 33)]=some (u8s bxK):=by
  have:bxK=[26,213,37,143,96,45,86,201,178,167,37,149,96,199,44,105,92,220,214,253,49,226,164,192,254,83,110,205,211,54,105,33]:=by decide +kernel
  rw [this]; rfl
 have g2:fillL (Qa 32 (Value.int .u8 0)) [(0,1,.int .u8 88),(1,1,.int .u8 102),(2,1,.int .u8 102),(3,1,.int .u8 102),(4,1,.int .u8 102),(5,1,.int .u8 102),(6,1,.int .u8 102),(7,1,.int .u8 102),(8,1,.int .u8 102),(9,1,.int .u8 102),(10,1,.int .u8 102),(11,1,.int .u8 102),(12,1,.int .u8 102),(13,1,.int .u8 102),(14,1,.int .u8 102),(15,1,.int .u8 102),(16,1,.int .u8 102),(17,1,.int .u8 102),(18,1,.int .u8 102),(19,1,.int .u8 102),(20,1,.int .u8 102),(21,1,.int .u8 102),(22,1,.int .u8 102),(23,1,.int .u8 102),(24,1,.int .u8 102),(25,1,.int .u8 102),(26,1,.int .u8 102),(27,1,.int .u8 102),(28,1,.int .u8 102),(29,1,.int .u8 102),(30,1,.int .u8 102),(31,1,.int .u8 102)]=some (u8s byK):=by
  have:byK=[88,102,102,102,102,102,102,102,102,102,102,102,102,102,102,102,102,102,102,102,102,102,102,102,102,102,102,102,102,102,102,102]:=by decide +kernel
  rw [this]; rfl
 generalize pL X Y O t=Q at *
 apply Jx
 apply Zu
 rw [Zz (fn:=a25) rfl]
 simp only [a25,Zw,quiet,cF,↓pF,reduceCtorEq,Qb,Qq,Zj,Zd,Zg,Zc,Q8,Qf,Q0,Qe,Qz,Q6,Q5,↓Zy,↓Zx,↓Z7,↓Jb,↓Z9,↓Ja,cL,Qp,Qo,Qy,Qx,Qv,Ql,Qk,Qw,Qc,Q1,Q2,Qr,Qg,Qi,Qh,Qu,Qt,Qs,Qn,Qd,cJ,g1,g2,h1,h2,v1,ht,hf,Q4,Ji,Jf,Jt,Ku,Ju,J0,p1,L1,L2,Ko]
 rfl
theorem Zdc {a b c:List Nat} {n:Nat} (hb:b.length=20) (ha:a.length=n):Vt 20 (W0 n (ns .u64 (a++(b++c))))=ns .u64 b:=by
 simp only [Qel]
 rw [Y3 (by rw [J0]; omega),Vv (by rw [J0]; omega),Q9,Yr (by rw [J0]; omega),Zk (by rw [J0]; omega)]
theorem Q1t {H:List Ob} {l:List Ob} {id n i:Nat} {o x r d:List Nat} {R:Ob} {cs:List Value} {g:List Ob} (hi:i<n) (hn:n<100) (l1:x.length=20) (l2:o.length=20) (l4:d.length=5) (hm:evVal T 102 [eV o,eV x,eV d]=some (eV r)) (l3:r.length=20)
  (hA:∀ l,(H++l)[id]?=some ⟨cs,true,true,true,1⟩) (hcs:(cs.drop (i*20)).take 20=ns .u64 x) (hlen:i*20+20≤cs.length) :
  Jl T H.length Qnm ⟨[(2,.pointer (some ⟨H.length,0,none⟩)),(3,.pointer (some ⟨H.length+1,0,none⟩)),(4,.pointer (some ⟨H.length+2,0,none⟩)),(9,.slice (some ⟨id,0,none⟩) n n),(10,.int .i64 n),(11,.int .i64 i)],H++(R::⟨ns .u64 o,true,true,true,1⟩::⟨ns .u64 d,true,true,true,1⟩::g),[]⟩ =
   some (.normal,⟨[(2,.pointer (some ⟨H.length,0,none⟩)),(3,.pointer (some ⟨H.length+1,0,none⟩)),(4,.pointer (some ⟨H.length+2,0,none⟩)),(9,.slice (some ⟨id,0,none⟩) n n),(10,.int .i64 n),(11,.int .i64 ((i+1:Nat):Int))],H++(R::⟨ns .u64 r,true,true,true,1⟩::⟨ns .u64 d,true,true,true,1⟩::(g++[⟨ns .u64 x,true,true,true,1⟩])),[]⟩):=by
 have hz:∃ Z,Qa 20 (Value.int .u64 0)=ns .u64 Z∧Z.length=20:=⟨Qa 20 0,rfl,rfl⟩
 obtain ⟨Z,hz,l0⟩:=hz
 have e1:((i:Int)<(n:Int))=True:=eq_true (by omega)
 have w3:IntKind.i64.wrap ((i:Int)+1)=((i+1:Nat):Int):=Yi (n:=i+1) (by omega)
 simp only [Qnm,Zw,quiet,cF,↓pF,reduceCtorEq,Qb,Qq,Zj,X8,↓Zy,↓Zx,↓Z7,↓Jb,↓Z9,↓Ja,cL,Qp,Qo,Qy,Qx,Qv,Ql,Qk,Qw,Qc,Q1,Q2,Qr,Qg,Qi,Qh,Qu,Qt,Qs,Qn,Qd,cJ,Kc,hz,hA,hcs,hlen,hm,Jf,Jt,Ku,Ju,J0,l0,l1,l2,l3,l4,Ko,e1,w3]
inductive Reps:List (List Nat)→List (Go.Cv.Pt Go.Fp.P Go.Fp.d)→Prop
 | nil:Reps [] []
 | cons {x xs p ps}:RepL x p→Reps xs ps→Reps (x::xs) (p::ps)
theorem Reps.len {xs:List (List Nat)} {ps:List (Go.Cv.Pt Go.Fp.P Go.Fp.d)} (h:Reps xs ps):xs.length=ps.length:=by
 induction h with
 | nil=>rfl
 | cons _ _ ih=>simp [ih]
theorem Reps.all {xs:List (List Nat)} {ps:List (Go.Cv.Pt Go.Fp.P Go.Fp.d)} (h:Reps xs ps):∀ x∈xs,x.length=20:=by
 induction h with
 | nil=>simp
 | cons h _ ih=>intro y hy; rcases Wh.1 hy with rfl | hy; exact h.len; exact ih y hy
theorem Reps.get {xs:List (List Nat)} {ps:List (Go.Cv.Pt Go.Fp.P Go.Fp.d)} (h:Reps xs ps):∀ {i:Nat} {x:List Nat},xs[i]?=some x→∃ p,ps[i]?=some p∧RepL x p:=by
 induction h with
 | nil=>intro i x h; simp at h
 | cons h _ ih =>
  intro i x hx
  cases i with
  | zero=>simp at hx; subst hx; exact ⟨_,rfl,h⟩
  | succ i=>simp at hx; simpa using ih hx
theorem Q6c:∀ (ys:List (List Nat)),(∀ x∈ys,x.length=20)→ys.flatten.length=ys.length*20:=by
 intro ys hy
 induction ys with
 | nil=>rfl
 | cons y ys ih =>
  rw [Xs,Zh,ih (fun x hx=>hy x (by simp [hx])),(hy y (by simp)),Jc]; omega
theorem Zbs {H:List Ob} {id n:Nat} {xs:List (List Nat)} {ps:List (Go.Cv.Pt Go.Fp.P Go.Fp.d)} (hn:xs.length=n) (hN:n<100) (hx:Reps xs ps) (h:H[id]?=some ⟨ns .u64 xs.flatten,true,true,true,1⟩) :
  ∃ r d,Yd T 49 [.slice (some ⟨id,0,none⟩) n n] H=some (eV r,H++(⟨ns .u64 r,true,true,true,1⟩::⟨ns .u64 r,true,true,true,1⟩::⟨ns .u64 d,true,true,true,1⟩::xs.map fun x=>(⟨ns .u64 x,true,true,true,1⟩:Ob)),[])∧RepL r (ps.foldl W6 Bt):=by
 have hid:id<H.length:=(Q7.1 h).1
 have hA:∀ l,(H++l)[id]?=some ⟨ns .u64 xs.flatten,true,true,true,1⟩:=fun l=>by rw [Qm hid]; exact h
 obtain ⟨d,hd,Ed,fd⟩:=Qmg
 obtain ⟨z,hz,Ez⟩:=Qux
 have hZ:∃ Z,Qa 20 (Value.int .u64 0)=ns .u64 Z∧Z.length=20:=⟨Qa 20 0,rfl,rfl⟩
 obtain ⟨Z,hZ,l0⟩:=hZ
 obtain ⟨st,hb,r,rfl,hr1⟩:=Vi (T:=T) (base:=H.length) (id:=0) (body:=Qnm)
  (fun i st=>∃ r:List Nat,st=⟨[(2,.pointer (some ⟨H.length,0,none⟩)),(3,.pointer (some ⟨H.length+1,0,none⟩)),(4,.pointer (some ⟨H.length+2,0,none⟩)),(9,.slice (some ⟨id,0,none⟩) n n),(10,.int .i64 n),(11,.int .i64 (i:Nat))],H++(⟨ns .u64 Z,true,true,true,1⟩::⟨ns .u64 r,true,true,true,1⟩::⟨ns .u64 d,true,true,true,1⟩::((xs.take i).map fun x=>(⟨ns .u64 x,true,true,true,1⟩:Ob))),[]⟩∧RepL r ((ps.take i).foldl W6 Bt))
  (Q:=fun st=>∃ r:List Nat,st=⟨[(2,.pointer (some ⟨H.length,0,none⟩)),(3,.pointer (some ⟨H.length+1,0,none⟩)),(4,.pointer (some ⟨H.length+2,0,none⟩)),(9,.slice (some ⟨id,0,none⟩) n n),(10,.int .i64 n),(11,.int .i64 n),(12,.bool false)],H++(⟨ns .u64 Z,true,true,true,1⟩::⟨ns .u64 r,true,true,true,1⟩::⟨ns .u64 d,true,true,true,1⟩::(xs.map fun x=>(⟨ns .u64 x,true,true,true,1⟩:Ob))),[]⟩∧RepL r (ps.foldl W6 Bt))
  n (s:=⟨[(2,.pointer (some ⟨H.length,0,none⟩)),(3,.pointer (some ⟨H.length+1,0,none⟩)),(4,.pointer (some ⟨H.length+2,0,none⟩)),(9,.slice (some ⟨id,0,none⟩) n n),(10,.int .i64 n),(11,.int .i64 0)],H++[⟨ns .u64 Z,true,true,true,1⟩,⟨ns .u64 z,true,true,true,1⟩,⟨ns .u64 d,true,true,true,1⟩],[]⟩) ⟨z,rfl,Ez⟩
  (fun i st hi hs=>by
   obtain ⟨r,rfl,hr1⟩:=hs
   obtain ⟨x,hxi⟩:∃ y,xs[i]?=some y:=⟨_,Q3 (by omega)⟩
   obtain ⟨p,hpi,hxe⟩:=hx.get hxi
   obtain ⟨r',hm,g1⟩:=Zb6 hr1 hxe Ed fd
   have hsplit:xs=xs.take i++x::xs.drop (i+1):=by
    have h1:=Q7.1 hxi
    conv=>lhs; rw [←Yn i xs,Ui h1.1,h1.2]
   have htl:(xs.take i).flatten.length=i*20:=by
    rw [Q6c _ (fun y hy=>hx.all y (Ki hy)),Js,Vz (by omega)]
   have hcs:((ns .u64 xs.flatten).drop (i*20)).take 20=ns .u64 x:=by
    conv=>lhs; rw [hsplit,Y9,Xs]
    exact Zdc hxe.len htl
   have hb:=Q1t (R:=⟨ns .u64 Z,true,true,true,1⟩) (g:=(xs.take i).map fun x=>(⟨ns .u64 x,true,true,true,1⟩:Ob)) (l:=[]) hi hN hxe.len hr1.len Ed.len hm g1.len hA hcs (by rw [J0,Q6c xs hx.all,hn]; omega)
   have htk:xs.take (i+1)=xs.take i++[x]:=by rw [Ym,hxi]; rfl
   have htp:ps.take (i+1)=ps.take i++[p]:=by rw [Ym,hpi]; rfl
   refine ⟨_,hb,r',?_,?_⟩
   ·rw [htk,Hq]; rfl
   ·rw [htp,List.foldl_append]; exact g1)
  (fun st hs=>by
   obtain ⟨r,rfl,hr1⟩:=hs
   have e1:((n:Int)<(n:Int))=False:=eq_false (by omega)
   have ht:xs.take n=xs:=Zk (by omega)
   have ht2:ps.take n=ps:=Zk (by have:=hx.len; omega)
   rw [ht2] at hr1
   rw [ht]
   refine ⟨_,?_,r,rfl,hr1⟩
   simp only [Qnm,Zw,quiet,cF,↓pF,reduceCtorEq,Qb,Qq,Zj,X8,↓Zy,↓Zx,↓Z7,↓Jb,↓Z9,↓Ja,cL,Qp,Qo,Qy,Qx,Qv,Ql,Qk,Qw,Qc,Q1,Q2,Qr,Qg,Qi,Qh,Qu,Qt,Qs,Qn,Qd,e1])
 refine ⟨r,d,?_,hr1⟩
 have l1:=hr1.len
 have l2:=Ez.len
 have l3:=Ed.len
 rw [Zz (fn:=a27) rfl]
 have hz5:Qa 5 (Value.int .u64 0)=ns .u64 [0,0,0,0,0]:=rfl
 have l5:([0,0,0,0,0]:List Nat).length=5:=rfl
 simp only [a27,Zw,quiet,cF,↓pF,reduceCtorEq,Qb,Qq,Zj,X8,↓Zy,↓Zx,↓Z7,↓Jb,↓Z9,↓Ja,cL,Qp,Qo,Qy,Qx,Qv,Ql,Qk,Qw,Qc,Q1,Q2,Qr,Qg,Qi,Qh,Qu,Qt,Qs,Qn,Qd,cJ,Kc,hZ,hz5,l5,hd,hz,hb,Jf,Jt,Ku,Ju,J0,l0,l1,l2,l3,Ko]
theorem fold2 {p q:Go.Cv.Pt Go.Fp.P Go.Fp.d}:[p,q].foldl W6 Bt=W6 p q:=by
 show W6 (W6 Bt p) q=_
 rw [show W6 Bt p=p from Go.Cv.zero_add Go.Fp.fld p]
end Go.Ev.YtpgphpkjlpkcbaaGreat

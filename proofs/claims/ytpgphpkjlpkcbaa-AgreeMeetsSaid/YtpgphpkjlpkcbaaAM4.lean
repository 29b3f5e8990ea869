/- What the law leans on, part 4. -/
import Derived.Test.YtpgphpkjlpkcbaaAM3
set_option linter.unusedSimpArgs false
set_option linter.unusedVariables false
open Bool renaming and_eq_true → Yf, false_eq_true → Zp
open Exists renaming intro → Jl
open Int renaming natCast_add → Hd, natCast_mul → B7, natCast_pow → Hb, natCast_zero → Vm, reduceAdd → Q2, reduceBEq → Ze, reduceBNe → Zd, reduceEq → Qp, reduceGE → Q9, reduceGT → Q8, reduceLE → Qo, reduceLT → Qn, reduceMul → Q1, reduceNeg → Q0, reducePow → Qz, reduceSub → Qy, reduceTDiv → Qr, reduceTMod → Qq, reduceToNat → Qe, toNat_natCast → Z4
open List renaming all_eq_true → Yj, append_assoc → Z1, append_nil → Xj, cons_append → Zb, drop → Wk, drop_append_of_le_length → Yd, drop_drop → Bc, drop_eq_getElem?_toList_append → Bt, drop_eq_getElem_cons → Uc, drop_of_length_le → Yx, drop_succ_cons → Qj, drop_zero → Q5, eq_nil_of_length_eq_zero → Y0, ext_getElem? → Wn, flatten_append → Yn, flatten_cons → Xn, flatten_nil → Ye, foldl_cons → W6, foldl_nil → Gi, getD_eq_getElem?_getD → Jf, getElem?_append_left → Qc, getElem?_append_right → Q3, getElem?_cons_succ → Zl, getElem?_cons_zero → Zk, getElem?_drop → V4, getElem?_eq_getElem → Qt, getElem?_eq_none → Kn, getElem?_eq_some_iff → Qu, getElem?_map → Bn, getElem?_of_mem → Up, getElem?_set → Bm, getElem?_set_ne → Z3, getElem?_set_self → Jq, getElem?_take → Vi, getElem?_zipWith → M9, length_append → Zc, length_cons → Zr, length_drop → X7, length_map → Dp, length_nil → Zw, length_replicate → Q7, length_set → Jt, length_take → Km, length_zipWith → Tv, map_append → Ha, map_cons → Wf, map_nil → Ub, mem_append → Xg, mem_append_left → Qgh, mem_cons → Y6, mem_cons_of_mem → Qgg, mem_map → Us, mem_of_getElem? → Zs, mem_of_mem_drop → Yo, mem_of_mem_take → Vk, mem_or_eq_of_mem_set → Qbo, mem_replicate → Qar, mem_singleton → U5, nil_append → Q6, not_mem_nil → Y7, range → Wu, replicate → Qa, replicate_succ → Dg, replicate_succ' → Qgf, set_append_left → R6, set_append_right → We, set_cons_zero → Qjn, set_set → Qem, take → Vw, take_add_one → Y9, take_append_drop → Wd, take_append_of_le_length → V2, take_length → Dd, take_of_length_le → Zh, take_succ_cons → Qk, take_zero → Za, zipWith → Gb
open Nat renaming Coprime → Q7w, add_assoc → Vl, add_comm → Br, add_mul → Vo, add_sub_cancel_left → Z6, add_zero → Ji, and_lt_two_pow → U4, and_two_pow_sub_one_eq_mod → Re, div_add_mod → Yb, div_div_eq_div_mul → Ym, div_eq_of_lt → Ua, div_le_self → B6, div_lt_of_lt_mul → Hu, div_one → Ux, eq_zero_or_pos → W5, le_of_lt → Um, le_refl → Zf, le_trans → Ul, lt_add_one → Qux, lt_irrefl → Xb, lt_of_le_of_lt → U3, lt_of_lt_of_le → Xl, lt_or_ge → Yc, lt_succ_of_lt → Hn, lt_trans → W9, min_eq_left → Vz, mod_eq_of_lt → Z2, mod_lt → Js, mod_mod → Qcj, mod_mul_mod → Tu, mul_comm → Vp, mul_le_mul_right → Uo, mul_mod_mul_right → M6, mul_one → X6, mul_zero → Qek, not_lt_zero → Jr, one_mul → Uw, or_lt_two_pow → Hm, pow_add → Wl, pow_le_pow_right → Ve, pow_mul → Ys, pow_pos → Wx, pow_succ → Vt, pow_zero → W0, reduceAdd → Qi, reduceDiv → Qx, reduceEqDiff → Qd, reduceLT → Qm, reduceLeDiff → Qf, reduceMod → Qw, reduceMul → Qh, reducePow → Qv, reduceSub → Qg, sub_self → Xa, sub_zero → Xy, xor_lt_two_pow → Qap, zero_add → Zm, zero_lt_one → Tt, zero_lt_succ → Qo2, zero_mul → Xo
open Option renaming bind_some → Ql
open Option.some renaming inj → B5
set_option linter.unusedSimpArgs false
set_option linter.unusedVariables false
namespace Go.Ev.Ytpgphpkjlpkcbaa
open Go Go.Ev
attribute [local congr] Wq W3 Wp W4 Wg
set_option maxRecDepth 100000
theorem X9 {cs:List Value} {n:Nat} (h:cs.length = n):cs.take n = cs:=Zh (by omega)
def pL (x y z t:List Nat):List Nat:=x ++ (y ++ (z ++ t))
def pV (x y z t:List Nat):Value := .agg (ns .u64 (pL x y z t)).toArray
theorem Q39 (x y z t:List Nat):rf (pV x y z t) = true:=Qrb _ _
theorem Qm9 (x y z t:List Nat):(pV x y z t).cells.toList = ns .u64 (pL x y z t):=rfl
theorem Qri (x y z t:List Nat):(pV x y z t).cells.size = (pL x y z t).length:=Kr _ _
theorem Q4c (x y z t:List Nat):Vy (pV x y z t) = true:=rfl
theorem Qrj (x y z t:List Nat):Value.agg (ns .u64 (pL x y z t)).toArray = pV x y z t:=rfl
theorem H9 {x y z t:List Nat} {b:Nat} (hx:El x b) (hy:El y b) (hz:El z b) (ht:El t b):(pL x y z t).length = 20:=by
 simp [pL,hx.len,hy.len,hz.len,ht.len]
theorem Qpk {x y z t:List Nat} {b:Nat} (hx:El x b) (hy:El y b) (hz:El z b) (ht:El t b) :
  Vw 5 (ns .u64 (pL x y z t)) = ns .u64 x ∧ Vw 5 (Wk 5 (ns .u64 (pL x y z t))) = ns .u64 y ∧ Vw 5 (Wk 10 (ns .u64 (pL x y z t))) = ns .u64 z ∧ Vw 5 (Wk 15 (ns .u64 (pL x y z t))) = ns .u64 t:=by
 obtain ⟨a0,a1,a2,a3,a4,rfl,-⟩:=hx.five
 obtain ⟨b0,b1,b2,b3,b4,rfl,-⟩:=hy.five
 obtain ⟨c0,c1,c2,c3,c4,rfl,-⟩:=hz.five
 obtain ⟨d0,d1,d2,d3,d4,rfl,-⟩:=ht.five
 exact ⟨rfl,rfl,rfl,rfl⟩
theorem Mu {a b:List Nat} {k:Nat} (ha:El a k) (hb:El b k):fillL (Qa 10 (Value.int .u64 0)) [(0,5,eV a),(5,5,eV b)] = some (ns .u64 (a ++ b)):=by
 obtain ⟨a0,a1,a2,a3,a4,rfl,-⟩:=ha.five
 obtain ⟨b0,b1,b2,b3,b4,rfl,-⟩:=hb.five
 rfl
theorem Qkq {a b c:List Nat} {k:Nat} (ha:El a k) (hb:El b k) (hc:El c k):fillL (Qa 15 (Value.int .u64 0)) [(0,5,eV a),(5,5,eV b),(10,5,eV c)] = some (ns .u64 [a,b,c].flatten):=by
 obtain ⟨a0,a1,a2,a3,a4,rfl,-⟩:=ha.five
 obtain ⟨b0,b1,b2,b3,b4,rfl,-⟩:=hb.five
 obtain ⟨c0,c1,c2,c3,c4,rfl,-⟩:=hc.five
 rfl
theorem Qf1 {a b c d:List Nat} {k:Nat} (ha:El a k) (hb:El b k) (hc:El c k) (hd:El d k):fillL (Qa 20 (Value.int .u64 0)) [(0,5,eV a),(5,5,eV b),(10,5,eV c),(15,5,eV d)] = some (ns .u64 (pL a b c d)):=by
 obtain ⟨a0,a1,a2,a3,a4,rfl,-⟩:=ha.five
 obtain ⟨b0,b1,b2,b3,b4,rfl,-⟩:=hb.five
 obtain ⟨c0,c1,c2,c3,c4,rfl,-⟩:=hc.five
 obtain ⟨d0,d1,d2,d3,d4,rfl,-⟩:=hd.five
 rfl
theorem Qrk (a b c d:List Nat):pL a b c d = [a,b,c,d].flatten:=by simp [pL]
theorem Qvm:El [2,0,0,0,0] (2 ^ 52):=Tg (by decide)
theorem Qvj:Vs T 37 [.int .u32 2] = some (eV [2,0,0,0,0]):=Qbv (n:=2) (by decide)
theorem Qpb:fe [2,0,0,0,0] = 2:=by rw [Tf]; rfl
theorem Q6f {x1 y1 z1 t1 x2 y2 z2 t2 d:List Nat} (Ex1:El x1 (2 ^ 52)) (Ey1:El y1 (2 ^ 52)) (Ez1:El z1 (2 ^ 52)) (Et1:El t1 (2 ^ 52)) (Ex2:El x2 (2 ^ 52)) (Ey2:El y2 (2 ^ 52)) (Ez2:El z2 (2 ^ 52)) (Et2:El t2 (2 ^ 52)) (Ed:El d (2 ^ 52)) :
  ∃ x y z t,Vs T 54 [pV x1 y1 z1 t1,pV x2 y2 z2 t2,eV d] = some (pV x y z t) ∧ El x (2 ^ 52) ∧ El y (2 ^ 52) ∧ El z (2 ^ 52) ∧ El t (2 ^ 52) ∧
   ∃ a b c e:Go.Fp.Fe,a = (fe y1 - fe x1) * (fe y2 - fe x2) ∧ b = (fe y1 + fe x1) * (fe y2 + fe x2) ∧ c = 1 * 2 * fe d * fe t1 * fe t2 ∧ e = 1 * 2 * fe z1 * fe z2 ∧
    fe x = (b - a) * (e - c) ∧ fe y = (e + c) * (b + a) ∧ fe z = (e - c) * (e + c) ∧ fe t = (b - a) * (b + a):=by
 obtain ⟨two,htwo⟩:∃ two:List Nat,two = [2,0,0,0,0]:=⟨_,rfl⟩
 have Etwo:El two (2 ^ 52):=by rw [htwo]; exact Qvm
 have vtwo:Vs T 37 [.int .u32 2] = some (eV two):=by rw [htwo]; exact Qvj
 have ftwo:fe two = 2:=by rw [htwo]; exact Qpb
 clear htwo
 obtain ⟨r1,hr1,Er1,fr1⟩:=Qaj Ey1 Ex1
 obtain ⟨r2,hr2,Er2,fr2⟩:=Qaj Ey2 Ex2
 obtain ⟨r3,hr3,Er3,fr3⟩:=Wr Er1 Er2
 obtain ⟨r4,sr4,hr4,Er4,fr4⟩:=Hj (H:=[⟨ns .u64 (pL x1 y1 z1 t1),true,true,true,1⟩,⟨ns .u64 (pL x2 y2 z2 t2),true,true,true,1⟩,⟨ns .u64 d,true,true,true,1⟩,⟨Qa 20 (.int .u64 0),true,true,true,1⟩,⟨ns .u64 r3,true,true,true,1⟩,⟨ns .u64 (y1 ++ x1),true,true,true,1⟩]) (id:=5) Ey1 Ex1 rfl
 simp only [Zb,Q6] at hr4
 obtain ⟨r5,sr5,hr5,Er5,fr5⟩:=Hj (H:=[⟨ns .u64 (pL x1 y1 z1 t1),true,true,true,1⟩,⟨ns .u64 (pL x2 y2 z2 t2),true,true,true,1⟩,⟨ns .u64 d,true,true,true,1⟩,⟨Qa 20 (.int .u64 0),true,true,true,1⟩,⟨ns .u64 r3,true,true,true,1⟩,⟨ns .u64 (y1 ++ x1),true,true,true,1⟩,⟨ns .u64 r4,true,true,true,1⟩,⟨ns .u64 sr4,true,true,true,1⟩,⟨ns .u64 y1,true,true,true,1⟩,⟨ns .u64 x1,true,true,true,1⟩,⟨ns .u64 (y2 ++ x2),true,true,true,1⟩]) (id:=10) Ey2 Ex2 rfl
 simp only [Zb,Q6] at hr5
 obtain ⟨r6,hr6,Er6,fr6⟩:=Wr Er4 Er5
 obtain ⟨r7,hr7,Er7,fr7⟩:=Rk (H:=[⟨ns .u64 (pL x1 y1 z1 t1),true,true,true,1⟩,⟨ns .u64 (pL x2 y2 z2 t2),true,true,true,1⟩,⟨ns .u64 d,true,true,true,1⟩,⟨Qa 20 (.int .u64 0),true,true,true,1⟩,⟨ns .u64 r3,true,true,true,1⟩,⟨ns .u64 (y1 ++ x1),true,true,true,1⟩,⟨ns .u64 r4,true,true,true,1⟩,⟨ns .u64 sr4,true,true,true,1⟩,⟨ns .u64 y1,true,true,true,1⟩,⟨ns .u64 x1,true,true,true,1⟩,⟨ns .u64 (y2 ++ x2),true,true,true,1⟩,⟨ns .u64 r5,true,true,true,1⟩,⟨ns .u64 sr5,true,true,true,1⟩,⟨ns .u64 y2,true,true,true,1⟩,⟨ns .u64 x2,true,true,true,1⟩,⟨ns .u64 r6,true,true,true,1⟩,⟨ns .u64 [two,d,t1,t2].flatten,true,true,true,1⟩]) (id:=16) (n:=4) (xs:=[two,d,t1,t2]) rfl (by decide) (by intro w hw; simp only [Y6,Y7,or_false] at hw; rcases hw with rfl | rfl | rfl | rfl <;> assumption) rfl
 simp only [Zb,Q6,Wf,Ub,W6,Gi] at hr7 fr7
 obtain ⟨r8,hr8,Er8,fr8⟩:=Rk (H:=[⟨ns .u64 (pL x1 y1 z1 t1),true,true,true,1⟩,⟨ns .u64 (pL x2 y2 z2 t2),true,true,true,1⟩,⟨ns .u64 d,true,true,true,1⟩,⟨Qa 20 (.int .u64 0),true,true,true,1⟩,⟨ns .u64 r3,true,true,true,1⟩,⟨ns .u64 (y1 ++ x1),true,true,true,1⟩,⟨ns .u64 r4,true,true,true,1⟩,⟨ns .u64 sr4,true,true,true,1⟩,⟨ns .u64 y1,true,true,true,1⟩,⟨ns .u64 x1,true,true,true,1⟩,⟨ns .u64 (y2 ++ x2),true,true,true,1⟩,⟨ns .u64 r5,true,true,true,1⟩,⟨ns .u64 sr5,true,true,true,1⟩,⟨ns .u64 y2,true,true,true,1⟩,⟨ns .u64 x2,true,true,true,1⟩,⟨ns .u64 r6,true,true,true,1⟩,⟨ns .u64 [two,d,t1,t2].flatten,true,true,true,1⟩,⟨ns .u64 r7,true,true,true,1⟩,⟨ns .u64 r7,true,true,true,1⟩,⟨ns .u64 two,true,true,true,1⟩,⟨ns .u64 d,true,true,true,1⟩,⟨ns .u64 t1,true,true,true,1⟩,⟨ns .u64 t2,true,true,true,1⟩,⟨ns .u64 r7,true,true,true,1⟩,⟨ns .u64 [two,z1,z2].flatten,true,true,true,1⟩]) (id:=24) (n:=3) (xs:=[two,z1,z2]) rfl (by decide) (by intro w hw; simp only [Y6,Y7,or_false] at hw; rcases hw with rfl | rfl | rfl <;> assumption) rfl
 simp only [Zb,Q6,Wf,Ub,W6,Gi] at hr8 fr8
 obtain ⟨r9,hr9,Er9,fr9⟩:=Qaj Er6 Er3
 obtain ⟨r10,hr10,Er10,fr10⟩:=Qaj Er8 Er7
 obtain ⟨r11,sr11,hr11,Er11,fr11⟩:=Hj (H:=[⟨ns .u64 (pL x1 y1 z1 t1),true,true,true,1⟩,⟨ns .u64 (pL x2 y2 z2 t2),true,true,true,1⟩,⟨ns .u64 d,true,true,true,1⟩,⟨Qa 20 (.int .u64 0),true,true,true,1⟩,⟨ns .u64 r3,true,true,true,1⟩,⟨ns .u64 (y1 ++ x1),true,true,true,1⟩,⟨ns .u64 r4,true,true,true,1⟩,⟨ns .u64 sr4,true,true,true,1⟩,⟨ns .u64 y1,true,true,true,1⟩,⟨ns .u64 x1,true,true,true,1⟩,⟨ns .u64 (y2 ++ x2),true,true,true,1⟩,⟨ns .u64 r5,true,true,true,1⟩,⟨ns .u64 sr5,true,true,true,1⟩,⟨ns .u64 y2,true,true,true,1⟩,⟨ns .u64 x2,true,true,true,1⟩,⟨ns .u64 r6,true,true,true,1⟩,⟨ns .u64 [two,d,t1,t2].flatten,true,true,true,1⟩,⟨ns .u64 r7,true,true,true,1⟩,⟨ns .u64 r7,true,true,true,1⟩,⟨ns .u64 two,true,true,true,1⟩,⟨ns .u64 d,true,true,true,1⟩,⟨ns .u64 t1,true,true,true,1⟩,⟨ns .u64 t2,true,true,true,1⟩,⟨ns .u64 r7,true,true,true,1⟩,⟨ns .u64 [two,z1,z2].flatten,true,true,true,1⟩,⟨ns .u64 r8,true,true,true,1⟩,⟨ns .u64 r8,true,true,true,1⟩,⟨ns .u64 two,true,true,true,1⟩,⟨ns .u64 z1,true,true,true,1⟩,⟨ns .u64 z2,true,true,true,1⟩,⟨ns .u64 r8,true,true,true,1⟩,⟨ns .u64 (r8 ++ r7),true,true,true,1⟩]) (id:=31) Er8 Er7 rfl
 simp only [Zb,Q6] at hr11
 obtain ⟨r12,sr12,hr12,Er12,fr12⟩:=Hj (H:=[⟨ns .u64 (pL x1 y1 z1 t1),true,true,true,1⟩,⟨ns .u64 (pL x2 y2 z2 t2),true,true,true,1⟩,⟨ns .u64 d,true,true,true,1⟩,⟨Qa 20 (.int .u64 0),true,true,true,1⟩,⟨ns .u64 r3,true,true,true,1⟩,⟨ns .u64 (y1 ++ x1),true,true,true,1⟩,⟨ns .u64 r4,true,true,true,1⟩,⟨ns .u64 sr4,true,true,true,1⟩,⟨ns .u64 y1,true,true,true,1⟩,⟨ns .u64 x1,true,true,true,1⟩,⟨ns .u64 (y2 ++ x2),true,true,true,1⟩,⟨ns .u64 r5,true,true,true,1⟩,⟨ns .u64 sr5,true,true,true,1⟩,⟨ns .u64 y2,true,true,true,1⟩,⟨ns .u64 x2,true,true,true,1⟩,⟨ns .u64 r6,true,true,true,1⟩,⟨ns .u64 [two,d,t1,t2].flatten,true,true,true,1⟩,⟨ns .u64 r7,true,true,true,1⟩,⟨ns .u64 r7,true,true,true,1⟩,⟨ns .u64 two,true,true,true,1⟩,⟨ns .u64 d,true,true,true,1⟩,⟨ns .u64 t1,true,true,true,1⟩,⟨ns .u64 t2,true,true,true,1⟩,⟨ns .u64 r7,true,true,true,1⟩,⟨ns .u64 [two,z1,z2].flatten,true,true,true,1⟩,⟨ns .u64 r8,true,true,true,1⟩,⟨ns .u64 r8,true,true,true,1⟩,⟨ns .u64 two,true,true,true,1⟩,⟨ns .u64 z1,true,true,true,1⟩,⟨ns .u64 z2,true,true,true,1⟩,⟨ns .u64 r8,true,true,true,1⟩,⟨ns .u64 (r8 ++ r7),true,true,true,1⟩,⟨ns .u64 r11,true,true,true,1⟩,⟨ns .u64 sr11,true,true,true,1⟩,⟨ns .u64 r8,true,true,true,1⟩,⟨ns .u64 r7,true,true,true,1⟩,⟨ns .u64 (r6 ++ r3),true,true,true,1⟩]) (id:=36) Er6 Er3 rfl
 simp only [Zb,Q6] at hr12
 obtain ⟨r13,hr13,Er13,fr13⟩:=Wr Er9 Er10
 obtain ⟨r14,hr14,Er14,fr14⟩:=Wr Er11 Er12
 obtain ⟨r15,hr15,Er15,fr15⟩:=Wr Er10 Er11
 obtain ⟨r16,hr16,Er16,fr16⟩:=Wr Er9 Er12
 refine ⟨r13,r14,r15,r16,?_,Er13,Er14,Er15,Er16,fe r3,fe r6,fe r7,fe r8,?_⟩
 ·obtain ⟨q10,q11,q12,q13⟩:=Qpk Ex1 Ey1 Ez1 Et1
  obtain ⟨q20,q21,q22,q23⟩:=Qpk Ex2 Ey2 Ez2 Et2
  have p1:=H9 Ex1 Ey1 Ez1 Et1
  have p2:=H9 Ex2 Ey2 Ez2 Et2
  have p3:=H9 Er13 Er14 Er15 Er16
  have k4:=Qf1 Etwo Ed Et1 Et2
  rw [Qrk] at k4
  have k3:=Qkq Etwo Ez1 Ez2
  have kp:=Qf1 Er13 Er14 Er15 Er16
  have m1:=Mu Ey1 Ex1
  have m2:=Mu Ey2 Ex2
  have m3:=Mu Er8 Er7
  have m4:=Mu Er6 Er3
  have Lx1:=Ex1.len
  have Ly1:=Ey1.len
  have Lz1:=Ez1.len
  have Lt1:=Et1.len
  have Lx2:=Ex2.len
  have Ly2:=Ey2.len
  have Lz2:=Ez2.len
  have Lt2:=Et2.len
  have Ld:=Ed.len
  have Ltwo:=Etwo.len
  have Lr1:=Er1.len
  have Lr2:=Er2.len
  have Lr3:=Er3.len
  have Lr4:=Er4.len
  have Lr5:=Er5.len
  have Lr6:=Er6.len
  have Lr7:=Er7.len
  have Lr8:=Er8.len
  have Lr9:=Er9.len
  have Lr10:=Er10.len
  have Lr11:=Er11.len
  have Lr12:=Er12.len
  have Lr13:=Er13.len
  have Lr14:=Er14.len
  have Lr15:=Er15.len
  have Lr16:=Er16.len
  apply K8
  apply Jl
  rw [Jg (fn:=a54) rfl]
  simp only [a54,Jh,quiet,cF,↓pF,reduceCtorEq,Qd,Qp,Zo,Zj,Zq,Zi,Zg,Qk,Za,Qj,Q5,Ze,Zd,↓J7,↓J6,↓Xr,↓Xu,↓Xs,↓Xt,cL,Qo,Qn,Q2,Q1,Qy,Qr,Qq,Q0,Qe,Q8,Q9,Qz,Qi,Qh,Qg,Qx,Qw,Qv,Qm,Qf,cJ,Q7,X9,Qm9,Qri,Q4c,Qrj,Q39,Xv,Ko,Yg,Kp,V9,Kr,q10,q11,q12,q13,q20,q21,q22,q23,p1,p2,p3,k4,k3,kp,m1,m2,m3,m4,vtwo,hr1,hr2,hr3,hr4,hr5,hr6,hr7,hr8,hr9,hr10,hr11,hr12,hr13,hr14,hr15,hr16,Lx1,Ly1,Lz1,Lt1,Lx2,Ly2,Lz2,Lt2,Ld,Ltwo,Lr1,Lr2,Lr3,Lr4,Lr5,Lr6,Lr7,Lr8,Lr9,Lr10,Lr11,Lr12,Lr13,Lr14,Lr15,Lr16]
  rfl
 ·refine ⟨?_,?_,?_,?_,?_,?_,?_,?_⟩
  ·rw [fr3,fr1,fr2]
  ·rw [fr6,fr4,fr5]
  ·rw [fr7,ftwo]
  ·rw [fr8,ftwo]
  ·rw [fr13,fr9,fr10]
  ·rw [fr14,fr11,fr12]
  ·rw [fr15,fr10,fr11]
  ·rw [fr16,fr9,fr12]
theorem Qzv {x1 y1 z1 t1:List Nat} (Ex1:El x1 (2 ^ 52)) (Ey1:El y1 (2 ^ 52)) (Ez1:El z1 (2 ^ 52)) (Et1:El t1 (2 ^ 52)) :
  ∃ x y z t,Vs T 53 [pV x1 y1 z1 t1] = some (pV x y z t) ∧ El x (2 ^ 52) ∧ El y (2 ^ 52) ∧ El z (2 ^ 52) ∧ El t (2 ^ 52) ∧
   ∃ a b c h e g f:Go.Fp.Fe,a = fe x1 * fe x1 ∧ b = fe y1 * fe y1 ∧ c = 1 * 2 * fe z1 * fe z1 ∧ h = a + b ∧ e = h - (fe x1 + fe y1) * (fe x1 + fe y1) ∧ g = a - b ∧ f = c + g ∧
    fe x = e * f ∧ fe y = g * h ∧ fe z = f * g ∧ fe t = e * h:=by
 obtain ⟨two,htwo⟩:∃ two:List Nat,two = [2,0,0,0,0]:=⟨_,rfl⟩
 have Etwo:El two (2 ^ 52):=by rw [htwo]; exact Qvm
 have vtwo:Vs T 37 [.int .u32 2] = some (eV two):=by rw [htwo]; exact Qvj
 have ftwo:fe two = 2:=by rw [htwo]; exact Qpb
 clear htwo
 obtain ⟨r1,hr1,Er1,fr1⟩:=Wr Ex1 Ex1
 obtain ⟨r2,hr2,Er2,fr2⟩:=Wr Ey1 Ey1
 obtain ⟨r3,hr3,Er3,fr3⟩:=Rk (H:=[⟨ns .u64 (pL x1 y1 z1 t1),true,true,true,1⟩,⟨Qa 20 (.int .u64 0),true,true,true,1⟩,⟨ns .u64 r1,true,true,true,1⟩,⟨ns .u64 r2,true,true,true,1⟩,⟨ns .u64 [two,z1,z1].flatten,true,true,true,1⟩]) (id:=4) (n:=3) (xs:=[two,z1,z1]) rfl (by decide) (by intro w hw; simp only [Y6,Y7,or_false] at hw; rcases hw with rfl | rfl | rfl <;> assumption) rfl
 simp only [Zb,Q6,Wf,Ub,W6,Gi] at hr3 fr3
 obtain ⟨r4,sr4,hr4,Er4,fr4⟩:=Hj (H:=[⟨ns .u64 (pL x1 y1 z1 t1),true,true,true,1⟩,⟨Qa 20 (.int .u64 0),true,true,true,1⟩,⟨ns .u64 r1,true,true,true,1⟩,⟨ns .u64 r2,true,true,true,1⟩,⟨ns .u64 [two,z1,z1].flatten,true,true,true,1⟩,⟨ns .u64 r3,true,true,true,1⟩,⟨ns .u64 r3,true,true,true,1⟩,⟨ns .u64 two,true,true,true,1⟩,⟨ns .u64 z1,true,true,true,1⟩,⟨ns .u64 z1,true,true,true,1⟩,⟨ns .u64 r3,true,true,true,1⟩,⟨ns .u64 (r1 ++ r2),true,true,true,1⟩]) (id:=11) Er1 Er2 rfl
 simp only [Zb,Q6] at hr4
 obtain ⟨r5,sr5,hr5,Er5,fr5⟩:=Hj (H:=[⟨ns .u64 (pL x1 y1 z1 t1),true,true,true,1⟩,⟨Qa 20 (.int .u64 0),true,true,true,1⟩,⟨ns .u64 r1,true,true,true,1⟩,⟨ns .u64 r2,true,true,true,1⟩,⟨ns .u64 [two,z1,z1].flatten,true,true,true,1⟩,⟨ns .u64 r3,true,true,true,1⟩,⟨ns .u64 r3,true,true,true,1⟩,⟨ns .u64 two,true,true,true,1⟩,⟨ns .u64 z1,true,true,true,1⟩,⟨ns .u64 z1,true,true,true,1⟩,⟨ns .u64 r3,true,true,true,1⟩,⟨ns .u64 (r1 ++ r2),true,true,true,1⟩,⟨ns .u64 r4,true,true,true,1⟩,⟨ns .u64 sr4,true,true,true,1⟩,⟨ns .u64 r1,true,true,true,1⟩,⟨ns .u64 r2,true,true,true,1⟩,⟨ns .u64 r4,true,true,true,1⟩,⟨ns .u64 (x1 ++ y1),true,true,true,1⟩]) (id:=17) Ex1 Ey1 rfl
 simp only [Zb,Q6] at hr5
 obtain ⟨r6,hr6,Er6,fr6⟩:=Wr Er5 Er5
 obtain ⟨r7,hr7,Er7,fr7⟩:=Qaj Er4 Er6
 obtain ⟨r8,hr8,Er8,fr8⟩:=Qaj Er1 Er2
 obtain ⟨r9,sr9,hr9,Er9,fr9⟩:=Hj (H:=[⟨ns .u64 (pL x1 y1 z1 t1),true,true,true,1⟩,⟨Qa 20 (.int .u64 0),true,true,true,1⟩,⟨ns .u64 r1,true,true,true,1⟩,⟨ns .u64 r2,true,true,true,1⟩,⟨ns .u64 [two,z1,z1].flatten,true,true,true,1⟩,⟨ns .u64 r3,true,true,true,1⟩,⟨ns .u64 r3,true,true,true,1⟩,⟨ns .u64 two,true,true,true,1⟩,⟨ns .u64 z1,true,true,true,1⟩,⟨ns .u64 z1,true,true,true,1⟩,⟨ns .u64 r3,true,true,true,1⟩,⟨ns .u64 (r1 ++ r2),true,true,true,1⟩,⟨ns .u64 r4,true,true,true,1⟩,⟨ns .u64 sr4,true,true,true,1⟩,⟨ns .u64 r1,true,true,true,1⟩,⟨ns .u64 r2,true,true,true,1⟩,⟨ns .u64 r4,true,true,true,1⟩,⟨ns .u64 (x1 ++ y1),true,true,true,1⟩,⟨ns .u64 r5,true,true,true,1⟩,⟨ns .u64 sr5,true,true,true,1⟩,⟨ns .u64 x1,true,true,true,1⟩,⟨ns .u64 y1,true,true,true,1⟩,⟨ns .u64 r5,true,true,true,1⟩,⟨ns .u64 r7,true,true,true,1⟩,⟨ns .u64 r8,true,true,true,1⟩,⟨ns .u64 (r3 ++ r8),true,true,true,1⟩]) (id:=25) Er3 Er8 rfl
 simp only [Zb,Q6] at hr9
 obtain ⟨r10,hr10,Er10,fr10⟩:=Wr Er7 Er9
 obtain ⟨r11,hr11,Er11,fr11⟩:=Wr Er8 Er4
 obtain ⟨r12,hr12,Er12,fr12⟩:=Wr Er9 Er8
 obtain ⟨r13,hr13,Er13,fr13⟩:=Wr Er7 Er4
 refine ⟨r10,r11,r12,r13,?_,Er10,Er11,Er12,Er13,fe r1,fe r2,fe r3,fe r4,fe r7,fe r8,fe r9,?_⟩
 ·obtain ⟨q10,q11,q12,q13⟩:=Qpk Ex1 Ey1 Ez1 Et1
  have p1:=H9 Ex1 Ey1 Ez1 Et1
  have p3:=H9 Er10 Er11 Er12 Er13
  have k3:=Qkq Etwo Ez1 Ez1
  have kp:=Qf1 Er10 Er11 Er12 Er13
  have m1:=Mu Er1 Er2
  have m2:=Mu Ex1 Ey1
  have m3:=Mu Er3 Er8
  have Lx1:=Ex1.len
  have Ly1:=Ey1.len
  have Lz1:=Ez1.len
  have Lt1:=Et1.len
  have Ltwo:=Etwo.len
  have Lr1:=Er1.len
  have Lr2:=Er2.len
  have Lr3:=Er3.len
  have Lr4:=Er4.len
  have Lr5:=Er5.len
  have Lr6:=Er6.len
  have Lr7:=Er7.len
  have Lr8:=Er8.len
  have Lr9:=Er9.len
  have Lr10:=Er10.len
  have Lr11:=Er11.len
  have Lr12:=Er12.len
  have Lr13:=Er13.len
  apply K8
  apply Jl
  rw [Jg (fn:=a53) rfl]
  simp only [a53,Jh,quiet,cF,↓pF,reduceCtorEq,Qd,Qp,Zo,Zj,Zq,Zi,Zg,Qk,Za,Qj,Q5,Ze,Zd,↓J7,↓J6,↓Xr,↓Xu,↓Xs,↓Xt,cL,Qo,Qn,Q2,Q1,Qy,Qr,Qq,Q0,Qe,Q8,Q9,Qz,Qi,Qh,Qg,Qx,Qw,Qv,Qm,Qf,cJ,Q7,X9,Qm9,Qri,Q4c,Qrj,Q39,Xv,Ko,Yg,Kp,V9,Kr,q10,q11,q12,q13,p1,p3,k3,kp,m1,m2,m3,vtwo,hr1,hr2,hr3,hr4,hr5,hr6,hr7,hr8,hr9,hr10,hr11,hr12,hr13,Lx1,Ly1,Lz1,Lt1,Ltwo,Lr1,Lr2,Lr3,Lr4,Lr5,Lr6,Lr7,Lr8,Lr9,Lr10,Lr11,Lr12,Lr13]
  rfl
 ·refine ⟨fr1,fr2,by rw [fr3,ftwo],fr4,by rw [fr7,fr6,fr5],fr8,fr9,?_,?_,?_,?_⟩
  ·rw [fr10]
  ·rw [fr11]
  ·rw [fr12]
  ·rw [fr13]
structure Rep (x y z t:List Nat) (p:Go.Cv.Pt Go.Fp.P Go.Fp.d):Prop where
 ex:El x (2 ^ 52)
 ey:El y (2 ^ 52)
 ez:El z (2 ^ 52)
 et:El t (2 ^ 52)
 nz:fe z ≠ 0
 x:fe x = p.x * fe z
 y:fe y = p.y * fe z
 t:fe t = p.x * p.y * fe z
abbrev Wy (p q:Go.Cv.Pt Go.Fp.P Go.Fp.d):Go.Cv.Pt Go.Fp.P Go.Fp.d:=Go.Cv.Pt.add Go.Fp.fld p q
abbrev Y2 (k:Nat) (p:Go.Cv.Pt Go.Fp.P Go.Fp.d):Go.Cv.Pt Go.Fp.P Go.Fp.d:=Go.Cv.Pt.mul Go.Fp.fld k p
abbrev Bx:Go.Cv.Pt Go.Fp.P Go.Fp.d:=Go.Cv.Pt.zero
theorem Qj5 {x1 y1 z1 t1 x2 y2 z2 t2 dd a b c e x y z t px py qx qy rx ry:Go.Fp.Fe} (hx1:x1 = px * z1) (hy1:y1 = py * z1) (ht1:t1 = px * py * z1) (hx2:x2 = qx * z2) (hy2:y2 = qy * z2) (ht2:t2 = qx * qy * z2)
  (ha:a = (y1 - x1) * (y2 - x2)) (hb:b = (y1 + x1) * (y2 + x2)) (hc:c = 1 * 2 * dd * t1 * t2) (he:e = 1 * 2 * z1 * z2) (hx:x = (b - a) * (e - c)) (hy:y = (e + c) * (b + a)) (hz:z = (e - c) * (e + c)) (ht:t = (b - a) * (b + a))
  (hrx:rx * (1 + dd * px * qx * py * qy) = px * qy + qx * py) (hry:ry * (1 - dd * px * qx * py * qy) = py * qy + px * qx) :
  x = rx * z ∧ y = ry * z ∧ t = rx * ry * z ∧ z = (2 * z1 * z2) * (2 * z1 * z2) * ((1 - dd * px * qx * py * qy) * (1 + dd * px * qx * py * qy)):=by
 have e1:b - a = (2 * z1 * z2) * (px * qy + qx * py):=by rw [hb,ha,hx1,hy1,hx2,hy2]; grobner
 have e2:b + a = (2 * z1 * z2) * (py * qy + px * qx):=by rw [hb,ha,hx1,hy1,hx2,hy2]; grobner
 have e3:e - c = (2 * z1 * z2) * (1 - dd * px * qx * py * qy):=by rw [he,hc,ht1,ht2]; grobner
 have e4:e + c = (2 * z1 * z2) * (1 + dd * px * qx * py * qy):=by rw [he,hc,ht1,ht2]; grobner
 rw [e1,← hrx,e3] at hx
 rw [e4,e2,← hry] at hy
 rw [e3,e4] at hz
 rw [e1,e2,← hrx,← hry] at ht
 clear hx1 hy1 ht1 hx2 hy2 ht2 ha hb hc he hrx hry e1 e2 e3 e4
 generalize 1 + dd * px * qx * py * qy = k at *
 generalize 1 - dd * px * qx * py * qy = m at *
 generalize 2 * z1 * z2 = w at *
 subst hx hy hz ht
 refine ⟨?_,?_,?_,?_⟩ <;> grobner
theorem Rep.plus {x1 y1 z1 t1 x2 y2 z2 t2 d:List Nat} {p q:Go.Cv.Pt Go.Fp.P Go.Fp.d} (h1:Rep x1 y1 z1 t1 p) (h2:Rep x2 y2 z2 t2 q) (Ed:El d (2 ^ 52)) (hd:fe d = Go.Fp.d) :
  ∃ x y z t,Vs T 54 [pV x1 y1 z1 t1,pV x2 y2 z2 t2,eV d] = some (pV x y z t) ∧ Rep x y z t (Wy p q):=by
 obtain ⟨x,y,z,t,hv,Ex,Ey,Ez,Et,a,b,c,e,ha,hb,hc,he,hx,hy,hz,ht⟩:=Q6f h1.ex h1.ey h1.ez h1.et h2.ex h2.ey h2.ez h2.et Ed
 rw [hd] at hc
 obtain ⟨g1,g2,g3,g4⟩:=Qj5 h1.x h1.y h1.t h2.x h2.y h2.t ha hb hc he hx hy hz ht (Go.Cv.Qd5 Go.Fp.fld p q) (Go.Cv.Qal Go.Fp.fld p q)
 refine ⟨x,y,z,t,hv,Ex,Ey,Ez,Et,?_,g1,g2,g3⟩
 rw [g4]
 have F:=Go.Fp.fld
 have w:=F.mul_ne (F.mul_ne F.two h1.nz) h2.nz
 exact F.mul_ne (F.mul_ne w w) (F.mul_ne (F.denM p.on q.on) (F.denP p.on q.on))
theorem Qpd {x1 y1 z1 dd a b c h e g f x y z t px py rx ry:Go.Fp.Fe} (hx1:x1 = px * z1) (hy1:y1 = py * z1) (on : -(px * px) + py * py = 1 + dd * (px * px) * (py * py))
  (ha:a = x1 * x1) (hb:b = y1 * y1) (hc:c = 1 * 2 * z1 * z1) (hh:h = a + b) (he:e = h - (x1 + y1) * (x1 + y1)) (hg:g = a - b) (hf:f = c + g) (hx:x = e * f) (hy:y = g * h) (hz:z = f * g) (ht:t = e * h)
  (hrx:rx * (1 + dd * px * px * py * py) = px * py + px * py) (hry:ry * (1 - dd * px * px * py * py) = py * py + px * px) :
  x = rx * z ∧ y = ry * z ∧ t = rx * ry * z ∧ z = -((z1 * z1) * (z1 * z1) * ((1 - dd * px * px * py * py) * (1 + dd * px * px * py * py))):=by
 have e1:e = -((z1 * z1) * (px * py + px * py)):=by rw [he,hh,ha,hb,hx1,hy1]; grobner
 have e2:h = (z1 * z1) * (py * py + px * px):=by rw [hh,ha,hb,hx1,hy1]; grobner
 have e3:g = -((z1 * z1) * (1 + dd * px * px * py * py)):=by
  have:1 + dd * px * px * py * py = py * py - px * px:=by
   clear hx1 hy1 ha hb hc hh he hg hf hx hy hz ht hrx hry e1 e2
   grobner
  rw [this,hg,ha,hb,hx1,hy1]; grobner
 have e4:f = (z1 * z1) * (1 - dd * px * px * py * py):=by
  rw [hf,e3,hc]
  clear hx1 hy1 on ha hb hc hh he hg hf hx hy hz ht hrx hry e1 e2 e3
  grobner
 rw [← hrx] at e1
 rw [← hry] at e2
 clear hx1 hy1 on ha hb hc hh he hg hf hrx hry
 generalize 1 + dd * px * px * py * py = k at *
 generalize 1 - dd * px * px * py * py = m at *
 generalize z1 * z1 = w at *
 subst e1 e2 e3 e4 hx hy hz ht
 refine ⟨?_,?_,?_,?_⟩ <;> grobner
theorem Rep.twice {x1 y1 z1 t1:List Nat} {p:Go.Cv.Pt Go.Fp.P Go.Fp.d} (h1:Rep x1 y1 z1 t1 p):∃ x y z t,Vs T 53 [pV x1 y1 z1 t1] = some (pV x y z t) ∧ Rep x y z t (Wy p p):=by
 obtain ⟨x,y,z,t,hv,Ex,Ey,Ez,Et,a,b,c,h,e,g,f,ha,hb,hc,hh,he,hg,hf,hx,hy,hz,ht⟩:=Qzv h1.ex h1.ey h1.ez h1.et
 obtain ⟨g1,g2,g3,g4⟩:=Qpd h1.x h1.y p.on ha hb hc hh he hg hf hx hy hz ht (Go.Cv.Qd5 Go.Fp.fld p p) (Go.Cv.Qal Go.Fp.fld p p)
 refine ⟨x,y,z,t,hv,Ex,Ey,Ez,Et,?_,g1,g2,g3⟩
 rw [g4]
 have F:=Go.Fp.fld
 have w:=F.mul_ne h1.nz h1.nz
 have n:=F.mul_ne (F.mul_ne w w) (F.mul_ne (F.denM p.on p.on) (F.denP p.on p.on))
 intro h0
 exact n (by grobner)
def RepL (l:List Nat) (p:Go.Cv.Pt Go.Fp.P Go.Fp.d):Prop:=∃ x y z t,l = pL x y z t ∧ Rep x y z t p
theorem RepL.len {l:List Nat} {p:Go.Cv.Pt Go.Fp.P Go.Fp.d} (h:RepL l p):l.length = 20:=by
 obtain ⟨x,y,z,t,rfl,h⟩:=h
 exact H9 h.ex h.ey h.ez h.et
theorem Q4b {l m d:List Nat} {p q:Go.Cv.Pt Go.Fp.P Go.Fp.d} (h1:RepL l p) (h2:RepL m q) (Ed:El d (2 ^ 52)) (hd:fe d = Go.Fp.d):∃ r,Vs T 54 [eV l,eV m,eV d] = some (eV r) ∧ RepL r (Wy p q):=by
 obtain ⟨x,y,z,t,rfl,h1⟩:=h1
 obtain ⟨x2,y2,z2,t2,rfl,h2⟩:=h2
 obtain ⟨a,b,c,e,h3,h4⟩:=h1.plus h2 Ed hd
 exact ⟨pL a b c e,h3,a,b,c,e,rfl,h4⟩
theorem Qk5 {l:List Nat} {p:Go.Cv.Pt Go.Fp.P Go.Fp.d} (h1:RepL l p):∃ r,Vs T 53 [eV l] = some (eV r) ∧ RepL r (Wy p p):=by
 obtain ⟨x,y,z,t,rfl,h1⟩:=h1
 obtain ⟨a,b,c,e,h3,h4⟩:=h1.twice
 exact ⟨pL a b c e,h3,a,b,c,e,rfl,h4⟩
def dK:List Nat:=dig 256 32 Go.Fp.dN
theorem Q7i:num 256 dK = Go.Fp.dN:=by decide +kernel
theorem dK_lt:∀ x ∈ dK,x < 256:=fun _ h => Gr (by decide) h
theorem Qih:∃ r,Vs T 52 [] = some (eV r) ∧ El r (2 ^ 52) ∧ fe r = Go.Fp.d:=by
 have h:=Qtg (k:=dK) (Vj _ _ _) dK_lt
 refine ⟨dig (2 ^ 51) 5 (num 256 dK % 2 ^ 255),?_,Qnq,?_⟩
 rotate_left
 ·unfold fe
  rw [Qfb,Q7i]
  rfl
 ·have hl:(dig (2 ^ 51) 5 (num 256 dK % 2 ^ 255)).length = 5:=Vj _ _ _
  have hf:fillL (Qa 32 (Value.int .u8 0)) [(0,1,.int .u8 163),(1,1,.int .u8 120),(2,1,.int .u8 89),(3,1,.int .u8 19),(4,1,.int .u8 202),(5,1,.int .u8 77),(6,1,.int .u8 235),(7,1,.int .u8 117),(8,1,.int .u8 171),(9,1,.int .u8 216),(10,1,.int .u8 65),(11,1,.int .u8 65),(12,1,.int .u8 77),(13,1,.int .u8 10),(14,1,.int .u8 112),(15,1,.int .u8 0),(16,1,.int .u8 152),(17,1,.int .u8 232),(18,1,.int .u8 121),(19,1,.int .u8 119),(20,1,.int .u8 121),(21,1,.int .u8 64),(22,1,.int .u8 199),(23,1,.int .u8 140),(24,1,.int .u8 115),(25,1,.int .u8 254),(26,1,.int .u8 111),(27,1,.int .u8 43),(28,1,.int .u8 238),(29,1,.int .u8 108),(30,1,.int .u8 3),(31,1,.int .u8 82)] = some (u8s dK):=by
   have:dK = [163,120,89,19,202,77,235,117,171,216,65,65,77,10,112,0,152,232,121,119,121,64,199,140,115,254,111,43,238,108,3,82]:=by decide +kernel
   rw [this]; rfl
  generalize dig (2 ^ 51) 5 (num 256 dK % 2 ^ 255) = D at *
  apply K8
  apply Jl
  rw [Jg (fn:=a52) rfl]
  simp only [a52,Jh,quiet,cF,↓pF,reduceCtorEq,Qd,Qp,Zo,Zj,Zq,Zi,Zg,Qk,Za,Qj,Q5,Ze,Zd,↓J7,↓J6,↓Xr,↓Xu,↓Xs,↓Xt,cL,Qo,Qn,Q2,Q1,Qy,Qr,Qq,Q0,Qe,Q8,Q9,Qz,Qi,Qh,Qg,Qx,Qw,Qv,Qm,Qf,cJ,hf,h,Q7,X9,Xv,Ko,Yg,Kp,V9,Kr,hl]
  rfl
theorem Qw2:Vs T 37 [.int .u32 1] = some (eV [1,0,0,0,0]):=Qbv (n:=1) (by decide)
theorem Qgz:El [0,0,0,0,0] (2 ^ 52):=Tg (by decide)
theorem Qqz:fe [0,0,0,0,0] = 0:=by rw [Tf]; rfl
theorem Qo5:∃ r,Vs T 51 [] = some (eV r) ∧ RepL r Bx:=by
 refine ⟨pL [0,0,0,0,0] [1,0,0,0,0] [1,0,0,0,0] [0,0,0,0,0],?_,_,_,_,_,rfl,Qgz,Qc5,Qc5,Qgz,?_,?_,?_,?_⟩
 ·have hf:fillL (Qa 20 (Value.int .u64 0)) [(5,5,eV [1,0,0,0,0]),(10,5,eV [1,0,0,0,0])] = some (ns .u64 (pL [0,0,0,0,0] [1,0,0,0,0] [1,0,0,0,0] [0,0,0,0,0])):=rfl
  have hl:(pL [0,0,0,0,0] [1,0,0,0,0] [1,0,0,0,0] [0,0,0,0,0]).length = 20:=rfl
  have hv:=Qw2
  generalize pL [0,0,0,0,0] [1,0,0,0,0] [1,0,0,0,0] [0,0,0,0,0] = Z at *
  generalize ([1,0,0,0,0]:List Nat) = O at *
  apply K8
  apply Jl
  rw [Jg (fn:=a30) rfl]
  simp only [a30,Jh,quiet,cF,↓pF,reduceCtorEq,Qd,Qp,Zo,Zj,Zq,Zi,Zg,Qk,Za,Qj,Q5,Ze,Zd,↓J7,↓J6,↓Xr,↓Xu,↓Xs,↓Xt,cL,Qo,Qn,Q2,Q1,Qy,Qr,Qq,Q0,Qe,Q8,Q9,Qz,Qi,Qh,Qg,Qx,Qw,Qv,Qm,Qf,cJ,hf,hv,Q7,X9,Xv,Ko,Yg,Kp,V9,Kr,hl]
  rfl
 ·rw [Qc4]; exact Go.Fp.Dh
 ·rw [Qqz]; simp only [Go.Cv.Pt.zero]; grobner
 ·rw [Qc4]; simp only [Go.Cv.Pt.zero]; grobner
 ·rw [Qqz]; simp only [Go.Cv.Pt.zero]; grobner
theorem Qj4 (p:Go.Cv.Pt Go.Fp.P Go.Fp.d) (m b:Nat) (hb:b < 2):Y2 (2 * m + b) p = if b = 1 then Wy (Wy (Y2 m p) (Y2 m p)) p else Wy (Y2 m p) (Y2 m p):=by
 have h1:Y2 (2 * m) p = Wy (Y2 m p) (Y2 m p):=by rw [show 2 * m = m + m by omega]; exact Go.Cv.mul_add Go.Fp.fld m m p
 by_cases h:b = 1
 ·subst h
  rw [if_pos rfl]
  show Wy (Y2 (2 * m) p) p = _
  rw [h1]
 ·have:b = 0:=by omega
  subst this
  rw [if_neg (by decide),Ji,h1]
def muI (l k o d:List Nat) (R:Ob) (i:Int) (ex:Env):St:=⟨[(2,.pointer (some ⟨0,0,none⟩)),(3,.pointer (some ⟨1,0,none⟩)),(4,.pointer (some ⟨2,0,none⟩)),(5,.pointer (some ⟨3,0,none⟩)),(6,.pointer (some ⟨4,0,none⟩)),(7,.int .i64 i)] ++ ex,[⟨ns .u64 l,true,true,true,1⟩,⟨u8s k,true,true,true,1⟩,R,⟨ns .u64 o,true,true,true,1⟩,⟨ns .u64 d,true,true,true,1⟩],[]⟩
theorem Q08 {l k o d:List Nat} {R:Ob} {i:Nat} {p:Go.Cv.Pt Go.Fp.P Go.Fp.d} (hl:RepL l p) (lk:k.length = 32) (xk:∀ x ∈ k,x < 256) (hi:i < 256) (Ed:El d (2 ^ 52)) (hd:fe d = Go.Fp.d) (ho:RepL o (Y2 (num 256 k / 2 ^ (i + 1)) p)) :
  ∃ r,J9 T 0 Qfs (muI l k o d R i []) = some (.normal,muI l k r d R ((i:Int) - 1) []) ∧ RepL r (Y2 (num 256 k / 2 ^ i) p):=by
 obtain ⟨b,hb⟩:∃ b,k[i / 8]? = some b:=⟨_,Qt (by omega)⟩
 have hbv:=Dn (B:=256) (by decide) xk hb
 have hbc:=Uh hb
 have hbit:b / 2 ^ (i % 8) % 2 = num 256 k / 2 ^ i % 2:=by
  rw [← hbv,show (256:Nat) = 2 ^ 8 from rfl,Qov (Js _ (by decide)),Yb]
 obtain ⟨r1,m1,g1⟩:=Qk5 ho
 obtain ⟨r2,m2,g3⟩:=Q4b g1 hl Ed hd
 have hlt:=Qfp (num 256 k) i
 have hnum:num 256 k / 2 ^ i = 2 * (num 256 k / 2 ^ (i + 1)) + num 256 k / 2 ^ i % 2:=by
  rw [Vt,← Ym]
  omega
 have hstep:=Qj4 p (num 256 k / 2 ^ (i + 1)) (num 256 k / 2 ^ i % 2) hlt
 rw [← hnum] at hstep
 have s1:(2:Int) ^ min (i % 8) IntKind.u8.bits = ((2 ^ (i % 8):Nat):Int):=T5 (Um (Js _ (by decide)))
 have w2:IntKind.i64.wrap ((i / 8:Nat):Int) = ((i / 8:Nat):Int):=Yp (by omega)
 have w3:IntKind.i64.wrap ((i:Int) - 1) = (i:Int) - 1:=V6 (by omega) (by omega)
 have e1:((0:Int) ≤ (i:Int)) = True:=eq_true (by omega)
 have e3:(((i / 8:Nat):Int) < 32) = True:=eq_true (by omega)
 have e4:(((i % 8:Nat):Int) < 0) = False:=eq_false (by omega)
 have l1:=hl.len
 have l2:=ho.len
 have l3:=g1.len
 have l4:=g3.len
 have l5:=Ed.len
 generalize hB:num 256 k / 2 ^ i % 2 = B at *
 by_cases hB1:B = 1
 ·have hbq:((B:Int) == 1) = true:=by rw [hB1]; rfl
  rw [if_pos hB1] at hstep
  refine ⟨r2,?_,by rw [hstep]; exact g3⟩
  simp only [muI,Qfs,Jh,quiet,cF,↓pF,reduceCtorEq,Qd,Qp,Zo,Zj,Zq,Zi,Zg,Qk,Za,Qj,Q5,Ze,Zd,↓J7,↓J6,↓Xr,↓Xu,↓Xs,↓Xt,cL,Qo,Qn,Q2,Q1,Qy,Qr,Qq,Q0,Qe,Q8,Q9,Qz,Qi,Qh,Qg,Qx,Qw,Qv,Qm,Qf,cJ,cU,hbc,hbit,s1,w2,w3,e1,e3,e4,m1,m2,hbq,X9,Xv,Ko,Yg,Kp,Kr,l1,l2,l3,l4,l5,V9]
 ·have hbq:((B:Int) == 1) = false:=by
   have:B = 0:=by omega
   rw [this]; rfl
  rw [if_neg hB1] at hstep
  refine ⟨r1,?_,by rw [hstep]; exact g1⟩
  simp only [muI,Qfs,Jh,quiet,cF,↓pF,reduceCtorEq,Qd,Qp,Zo,Zj,Zq,Zi,Zg,Qk,Za,Qj,Q5,Ze,Zd,↓J7,↓J6,↓Xr,↓Xu,↓Xs,↓Xt,cL,Qo,Qn,Q2,Q1,Qy,Qr,Qq,Q0,Qe,Q8,Q9,Qz,Qi,Qh,Qg,Qx,Qw,Qv,Qm,Qf,cJ,cU,hbc,hbit,s1,w2,w3,e1,e3,e4,m1,m2,hbq,X9,Xv,Ko,Yg,Kp,Kr,l1,l2,l3,l4,l5,V9]
theorem Mp {l k:List Nat} {p:Go.Cv.Pt Go.Fp.P Go.Fp.d} (hl:RepL l p) (lk:k.length = 32) (xk:∀ x ∈ k,x < 256):∃ r,Vs T 28 [eV l,.agg (u8s k).toArray] = some (eV r) ∧ RepL r (Y2 (num 256 k) p):=by
 have hK:=num_lt xk
 rw [lk,show (256:Nat) ^ 32 = 2 ^ 256 from by rw [show (256:Nat) = 2 ^ 8 from rfl,← Ys]] at hK
 obtain ⟨z,hz,hz2⟩:=Qo5
 obtain ⟨d,hd1,Ed,hd⟩:=Qih
 obtain ⟨st,hb,r,rfl,hr1⟩:=Yv (T:=T) (base:=0) (id:=0) (body:=Qfs)
  (fun j st => ∃ r:List Nat,st = muI l k r d ⟨Qa 20 (.int .u64 0),true,true,true,1⟩ ((255:Int) - j) [] ∧ RepL r (Y2 (num 256 k / 2 ^ (256 - j)) p))
  (Q:=fun st => ∃ r:List Nat,st = muI l k r d ⟨Qa 20 (.int .u64 0),true,true,true,1⟩ (-1) [(11,.bool false)] ∧ RepL r (Y2 (num 256 k) p))
  256 (s:=muI l k z d ⟨Qa 20 (.int .u64 0),true,true,true,1⟩ 255 []) ⟨_,rfl,by rw [Xy,Ua hK]; exact hz2⟩
  (fun j st hj hs => by
   obtain ⟨r,rfl,h2⟩:=hs
   obtain ⟨i,hi⟩:∃ i,256 - j = i + 1:=⟨255 - j,by omega⟩
   rw [hi] at h2
   obtain ⟨r',g1,g3⟩:=Q08 (R:=⟨Qa 20 (.int .u64 0),true,true,true,1⟩) hl lk xk (i:=i) (by omega) Ed hd h2
   rw [show (255:Int) - j = (i:Int) by omega]
   refine ⟨_,g1,r',?_,?_⟩
   ·rw [show (255:Int) - ((j + 1:Nat):Int) = (i:Int) - 1 by omega]
   ·rw [show 256 - (j + 1) = i by omega]; exact g3)
  (fun st hs => by
   obtain ⟨r,rfl,h2⟩:=hs
   rw [Xa,W0,Ux] at h2
   have e:((0:Int) ≤ -1) = False:=by decide
   refine ⟨_,?_,r,rfl,h2⟩
   rw [show (255:Int) - ((256:Nat):Int) = -1 by omega]
   simp only [muI,Qfs,Jh,quiet,cF,↓pF,reduceCtorEq,Qd,Qp,Zo,Zj,Zq,Zi,Zg,Qk,Za,Qj,Q5,Ze,Zd,↓J7,↓J6,↓Xr,↓Xu,↓Xs,↓Xt,cL,Qo,Qn,Q2,Q1,Qy,Qr,Qq,Q0,Qe,Q8,Q9,Qz,Qi,Qh,Qg,Qx,Qw,Qv,Qm,Qf,e])
 refine ⟨r,?_,hr1⟩
 have l1:=hl.len
 have l2:=hz2.len
 have l3:=hr1.len
 have l4:=Ed.len
 simp only [muI,Zb,Q6] at hb
 apply K8
 apply Jl
 rw [Jg (fn:=a26) rfl]
 simp only [a26,Jh,quiet,cF,↓pF,reduceCtorEq,Qd,Qp,Zo,Zj,Zq,Zi,Zg,Qk,Za,Qj,Q5,Ze,Zd,↓J7,↓J6,↓Xr,↓Xu,↓Xs,↓Xt,cL,Qo,Qn,Q2,Q1,Qy,Qr,Qq,Q0,Qe,Q8,Q9,Qz,Qi,Qh,Qg,Qx,Qw,Qv,Qm,Qf,cJ,hz,hd1,hb,muI,Q7,X9,Xv,Ko,Yg,Kp,Kr,l1,l2,l3,l4,V9]
 rfl
theorem Q6v {l:List Nat} {p:Go.Cv.Pt Go.Fp.P Go.Fp.d} (hl:RepL l p):∃ r,Vs T 47 [eV l] = some (eV r) ∧ RepL r p.neg:=by
 obtain ⟨x,y,z,t,rfl,h⟩:=hl
 obtain ⟨a,ha,Ea,fa⟩:=Qkd h.ex
 obtain ⟨b,hb,Eb,fb⟩:=Qkd h.et
 obtain ⟨q0,q1,q2,q3⟩:=Qpk h.ex h.ey h.ez h.et
 have hf:=Qf1 Ea h.ey h.ez Eb
 have p1:=H9 h.ex h.ey h.ez h.et
 have p2:=H9 Ea h.ey h.ez Eb
 refine ⟨pL a y z b,?_,a,y,z,b,rfl,Ea,h.ey,h.ez,Eb,h.nz,?_,?_,?_⟩
 ·generalize pL x y z t = L at *
  generalize pL a y z b = M at *
  apply K8
  apply Jl
  rw [Jg (fn:=a34) rfl]
  simp only [a34,Jh,quiet,cF,↓pF,reduceCtorEq,Qd,Qp,Zo,Zj,Zq,Zi,Zg,Qk,Za,Qj,Q5,Ze,Zd,↓J7,↓J6,↓Xr,↓Xu,↓Xs,↓Xt,cL,Qo,Qn,Q2,Q1,Qy,Qr,Qq,Q0,Qe,Q8,Q9,Qz,Qi,Qh,Qg,Qx,Qw,Qv,Qm,Qf,cJ,q0,q1,q2,q3,ha,hb,hf,Q7,X9,Xv,Ko,Yg,Kp,Kr,p1,p2,V9]
  rfl
 ·rw [fa,h.x]; simp only [Go.Cv.Pt.neg]; grobner
 ·rw [h.y]; rfl
 ·rw [fb,h.t]; simp only [Go.Cv.Pt.neg]; grobner
instance decPt (p q:Go.Cv.Pt Go.Fp.P Go.Fp.d):Decidable (p = q):=if h:p.x = q.x ∧ p.y = q.y then isTrue (Go.Cv.Pt.ext h.1 h.2) else isFalse (fun e => h (by rw [e]; exact ⟨rfl,rfl⟩))
theorem Qv9 {a b z w:Go.Fp.Fe} (hz:z ≠ 0) (hw:w ≠ 0):(a * z * w = b * w * z) = (a = b):=by
 apply propext
 constructor
 ·intro h
  have F:=Go.Fp.fld
  refine F.cancel (F.mul_ne hz hw) ?_
  grobner
 ·intro h; subst h; grobner
theorem Q13 {l m:List Nat} {p q:Go.Cv.Pt Go.Fp.P Go.Fp.d} (h1:RepL l p) (h2:RepL m q):Vs T 82 [eV l,eV m] = some (.bool (decide (p = q))):=by
 obtain ⟨x1,y1,z1,t1,rfl,h1⟩:=h1
 obtain ⟨x2,y2,z2,t2,rfl,h2⟩:=h2
 obtain ⟨a,ha,Ea,fa⟩:=Wr h1.ex h2.ez
 obtain ⟨b,hb,Eb,fb⟩:=Wr h2.ex h1.ez
 obtain ⟨c,hc,Ec,fc⟩:=Wr h1.ey h2.ez
 obtain ⟨e,he,Ee,fe_⟩:=Wr h2.ey h1.ez
 have q1:=Q14 Ea Eb
 have q2:=Q14 Ec Ee
 rw [fa,fb,h1.x,h2.x] at q1
 rw [fc,fe_,h1.y,h2.y] at q2
 simp only [Qv9 h1.nz h2.nz] at q1 q2
 obtain ⟨u0,u1,u2,u3⟩:=Qpk h1.ex h1.ey h1.ez h1.et
 obtain ⟨v0,v1,v2,v3⟩:=Qpk h2.ex h2.ey h2.ez h2.et
 have p1:=H9 h1.ex h1.ey h1.ez h1.et
 have p2:=H9 h2.ex h2.ey h2.ez h2.et
 generalize pL x1 y1 z1 t1 = L at *
 generalize pL x2 y2 z2 t2 = M at *
 by_cases hx:p.x = q.x
 ·rw [decide_eq_true hx] at q1
  have hd:decide (p = q) = decide (p.y = q.y):=by
   by_cases hy:p.y = q.y
   ·rw [decide_eq_true hy,decide_eq_true (Go.Cv.Pt.ext hx hy)]
   ·rw [decide_eq_false hy,decide_eq_false (fun h => hy (by rw [h]))]
  rw [hd]
  apply K8
  apply Jl
  rw [Jg (fn:=a28) rfl]
  simp only [a28,Jh,quiet,cF,↓pF,reduceCtorEq,Qd,Qp,Zo,Zj,Zq,Zi,Zg,Qk,Za,Qj,Q5,Ze,Zd,↓J7,↓J6,↓Xr,↓Xu,↓Xs,↓Xt,cL,Qo,Qn,Q2,Q1,Qy,Qr,Qq,Q0,Qe,Q8,Q9,Qz,Qi,Qh,Qg,Qx,Qw,Qv,Qm,Qf,cJ,u0,u1,u2,v0,v1,v2,ha,hb,hc,he,q1,q2,Q7,X9,Xv,Ko,Yg,Kp,Kr,p1,p2,V9]
  rfl
 ·rw [decide_eq_false hx] at q1
  rw [decide_eq_false (fun h => hx (by rw [h]))]
  apply K8
  apply Jl
  rw [Jg (fn:=a28) rfl]
  simp only [a28,Jh,quiet,cF,↓pF,reduceCtorEq,Qd,Qp,Zo,Zj,Zq,Zi,Zg,Qk,Za,Qj,Q5,Ze,Zd,↓J7,↓J6,↓Xr,↓Xu,↓Xs,↓Xt,cL,Qo,Qn,Q2,Q1,Qy,Qr,Qq,Q0,Qe,Q8,Q9,Qz,Qi,Qh,Qg,Qx,Qw,Qv,Qm,Qf,cJ,u0,u1,u2,v0,v1,v2,ha,hb,hc,he,q1,q2,Q7,X9,Xv,Ko,Yg,Kp,Kr,p1,p2,V9]
  rfl
theorem Qyp (p:Go.Cv.Pt Go.Fp.P Go.Fp.d):Wy (Wy (Wy p p) (Wy p p)) (Wy (Wy p p) (Wy p p)) = Y2 8 p:=by
 have h2:Y2 2 p = Wy p p:=Go.Cv.mul_two Go.Fp.fld p
 have h4:Y2 4 p = Wy (Y2 2 p) (Y2 2 p):=Go.Cv.mul_add Go.Fp.fld 2 2 p
 have h8:Y2 8 p = Wy (Y2 4 p) (Y2 4 p):=Go.Cv.mul_add Go.Fp.fld 4 4 p
 rw [h8,h4,h2]
theorem Q4y {l:List Nat} {p:Go.Cv.Pt Go.Fp.P Go.Fp.d} (h:RepL l p):Vs T 44 [eV l] = some (.bool (decide (Y2 8 p = Bx))):=by
 obtain ⟨a,ha,ra⟩:=Qk5 h
 obtain ⟨b,hb,rb⟩:=Qk5 ra
 obtain ⟨c,hc,rc⟩:=Qk5 rb
 obtain ⟨z,hz,rz⟩:=Qo5
 have he:=Q13 rc rz
 rw [Qyp] at he
 have p1:=h.len
 apply K8
 apply Jl
 rw [Jg (fn:=a39) rfl]
 simp only [a39,Jh,quiet,cF,↓pF,reduceCtorEq,Qd,Qp,Zo,Zj,Zq,Zi,Zg,Qk,Za,Qj,Q5,Ze,Zd,↓J7,↓J6,↓Xr,↓Xu,↓Xs,↓Xt,cL,Qo,Qn,Q2,Q1,Qy,Qr,Qq,Q0,Qe,Q8,Q9,Qz,Qi,Qh,Qg,Qx,Qw,Qv,Qm,Qf,cJ,ha,hb,hc,hz,he,X9,Xv,Ko,Yg,Kp,Kr,p1,V9]
 rfl
def Qga (p:Go.Cv.Pt Go.Fp.P Go.Fp.d):Nat:=p.y.val + (p.x.val % 2) * 2 ^ 255
def enc (p:Go.Cv.Pt Go.Fp.P Go.Fp.d):List Nat:=dig 256 32 (Qga p)
theorem Qdz (p:Go.Cv.Pt Go.Fp.P Go.Fp.d):(enc p).length = 32:=Vj _ _ _
theorem Qym (p:Go.Cv.Pt Go.Fp.P Go.Fp.d):∀ x ∈ enc p,x < 256:=Dw
theorem Qcu (a:Go.Fp.Fe):a.val < 2 ^ 255:=W9 a.isLt (by rw [Go.Fp.Qbn]; decide)
theorem Ql0 (p:Go.Cv.Pt Go.Fp.P Go.Fp.d):Qga p < 256 ^ 32:=by
 have h1:=Qcu p.y
 have h2:=Js p.x.val (by decide:0 < 2)
 unfold Qga
 have:p.x.val % 2 * 2 ^ 255 ≤ 1 * 2 ^ 255:=Uo _ (by omega)
 have e:(256:Nat) ^ 32 = 2 ^ 255 + 2 ^ 255:=by decide
 omega
theorem Qdy {l:List Nat} {p:Go.Cv.Pt Go.Fp.P Go.Fp.d} (h:RepL l p):Vs T 29 [eV l] = some (.agg (u8s (enc p)).toArray):=by
 obtain ⟨x,y,z,t,rfl,h⟩:=h
 obtain ⟨i,hi,Ei,fi⟩:=Qn2 h.ez
 obtain ⟨a,ha,Ea,fa⟩:=Wr h.ey Ei
 obtain ⟨b,hb,Eb,fb⟩:=Wr h.ex Ei
 have hinv:=Go.Fp.D4 h.nz
 have fa':fe a = p.y:=by rw [fa,fi,h.y]; grobner
 have fb':fe b = p.x:=by rw [fb,fi,h.x]; grobner
 have k1:=Qaf Ea
 have k2:=Qxh Eb
 rw [fa'] at k1
 rw [fb'] at k2
 obtain ⟨u0,u1,u2,u3⟩:=Qpk h.ex h.ey h.ez h.et
 have p1:=H9 h.ex h.ey h.ez h.et
 have L1:=Ei.len
 have lk:(dig 256 32 p.y.val).length = 32:=Vj _ _ _
 have l0:(dig 256 32 0).length = 32:=rfl
 have hz32:Qa 32 (Value.int .u8 0) = u8s (dig 256 32 0):=rfl
 generalize pL x y z t = L at *
 by_cases ho:p.x.val % 2 = 1
 ·rw [decide_eq_true ho] at k2
  have hv:=Qcu p.y
  obtain ⟨w,hw⟩:∃ w,(dig 256 32 p.y.val)[31]? = some w:=⟨_,Qt (by rw [Vj]; decide)⟩
  have hwc:=Uh hw
  have hw':w < 256:=Gr (by decide) (Zs hw)
  have hput:=Qgu (w:=8) (m:=32) (q:=31) (s:=7) (y:=1) (M:=p.y.val) (by decide) (by decide) hv (by decide)
  have hgd:(dig (2 ^ 8) 32 p.y.val).getD 31 0 = w:=by rw [Jf]; rw [show (2:Nat) ^ 8 = 256 from rfl,hw]; rfl
  rw [hgd] at hput
  have hset:=Gt (dig 256 32 p.y.val) 31 (w ||| 128)
  rw [show (dig 256 32 p.y.val).set 31 (w ||| 128) = enc p from by rw [enc,Qga,ho]; exact hput] at hset
  have o1:Vf .or .u8 (w:Int) 128 = ((w ||| 128:Nat):Int):=Gy (k := .u8) (a:=w) (b:=128) rfl hw' (by decide)
  have le:=Qdz p
  generalize enc p = E at *
  apply K8
  apply Jl
  rw [Jg (fn:=a29) rfl]
  simp only [a29,Jh,quiet,cF,↓pF,reduceCtorEq,Qd,Qp,Zo,Zj,Zq,Zi,Zg,Qk,Za,Qj,Q5,Ze,Zd,↓J7,↓J6,↓Xr,↓Xu,↓Xs,↓Xt,cL,Qo,Qn,Q2,Q1,Qy,Qr,Qq,Q0,Qe,Q8,Q9,Qz,Qi,Qh,Qg,Qx,Qw,Qv,Qm,Qf,cJ,hz32,u0,u1,u2,hi,ha,hb,k1,k2,hwc,o1,hset,Q7,X9,Xv,Ko,Yg,Kp,Kr,Zt,lk,l0,le,p1,L1,V9]
  rfl
 ·rw [decide_eq_false ho] at k2
  have he:enc p = dig 256 32 p.y.val:=by rw [enc,Qga,show p.x.val % 2 = 0 by omega,Xo,Ji]
  rw [he]
  generalize dig 256 32 p.y.val = E at *
  apply K8
  apply Jl
  rw [Jg (fn:=a29) rfl]
  simp only [a29,Jh,quiet,cF,↓pF,reduceCtorEq,Qd,Qp,Zo,Zj,Zq,Zi,Zg,Qk,Za,Qj,Q5,Ze,Zd,↓J7,↓J6,↓Xr,↓Xu,↓Xs,↓Xt,cL,Qo,Qn,Q2,Q1,Qy,Qr,Qq,Q0,Qe,Q8,Q9,Qz,Qi,Qh,Qg,Qx,Qw,Qv,Qm,Qf,cJ,hz32,u0,u1,u2,hi,ha,hb,k1,k2,Q7,X9,Xv,Ko,Yg,Kp,Kr,Zt,lk,l0,p1,L1,V9]
  rfl
def bxN:Nat:=15112221349535400772501151409588531511454012693041857206046113283949847762202
def byN:Nat:=46316835694926478169428394003475163141307993866256225615783033603165251855960
def Uj:Go.Cv.Pt Go.Fp.P Go.Fp.d:=⟨Go.Fp.fp bxN,Go.Fp.fp byN,by
 unfold Go.Cv.On Go.Fp.d
 have h:(Go.Fp.fp byN * Go.Fp.fp byN:Go.Fp.Fe) = Go.Fp.fp bxN * Go.Fp.fp bxN + (1 + Go.Fp.fp Go.Fp.dN * (Go.Fp.fp bxN * Go.Fp.fp bxN) * (Go.Fp.fp byN * Go.Fp.fp byN)):=by
  rw [← Go.Fp.Qlz,← Go.Fp.Bv,← Go.Fp.Bv,← Go.Fp.Bv,← Go.Fp.Bv,← Go.Fp.Ho,← Go.Fp.Ho]
  exact Go.Fp.Qoa.2 (by decide +kernel)
 grobner⟩
def bxK:List Nat:=dig 256 32 bxN
def byK:List Nat:=dig 256 32 byN
theorem Q2e:num 256 bxK = bxN:=by decide +kernel
theorem Q2d:num 256 byK = byN:=by decide +kernel
theorem Qqu:∃ r,Vs T 27 [] = some (eV r) ∧ RepL r Uj:=by
 have h1:=Qtg (k:=bxK) (Vj _ _ _) Dw
 have h2:=Qtg (k:=byK) (Vj _ _ _) Dw
 have E1:=Qnq (V:=num 256 bxK % 2 ^ 255)
 have E2:=Qnq (V:=num 256 byK % 2 ^ 255)
 have f1:fe (dig (2 ^ 51) 5 (num 256 bxK % 2 ^ 255)) = Go.Fp.fp bxN:=by unfold fe; rw [Qfb,Q2e]; rfl
 have f2:fe (dig (2 ^ 51) 5 (num 256 byK % 2 ^ 255)) = Go.Fp.fp byN:=by unfold fe; rw [Qfb,Q2d]; rfl
 generalize dig (2 ^ 51) 5 (num 256 bxK % 2 ^ 255) = X at *
 generalize dig (2 ^ 51) 5 (num 256 byK % 2 ^ 255) = Y at *
 obtain ⟨t,ht,Et,ft⟩:=Wr E1 E2
 have E3:∃ O:List Nat,O = [1,0,0,0,0]:=⟨_,rfl⟩
 obtain ⟨O,hO⟩:=E3
 have E3:El O (2 ^ 52):=by rw [hO]; exact Qc5
 have v1:Vs T 37 [.int .u32 1] = some (eV O):=by rw [hO]; exact Qw2
 have f3:fe O = 1:=by rw [hO]; exact Qc4
 clear hO
 have hf:=Qf1 E1 E2 E3 Et
 have p1:=H9 E1 E2 E3 Et
 refine ⟨pL X Y O t,?_,X,Y,O,t,rfl,E1,E2,E3,Et,by rw [f3]; exact Go.Fp.Dh,by rw [f1,f3]; simp only [Uj]; grobner,by rw [f2,f3]; simp only [Uj]; grobner,by rw [ft,f1,f2,f3]; simp only [Uj]; grobner⟩
 have L1:=E1.len
 have L2:=E2.len
 have g1:fillL (Qa 32 (Value.int .u8 0)) [(0,1,.int .u8 26),(1,1,.int .u8 213),(2,1,.int .u8 37),(3,1,.int .u8 143),(4,1,.int .u8 96),(5,1,.int .u8 45),(6,1,.int .u8 86),(7,1,.int .u8 201),(8,1,.int .u8 178),(9,1,.int .u8 167),(10,1,.int .u8 37),(11,1,.int .u8 149),(12,1,.int .u8 96),(13,1,.int .u8 199),(14,1,.int .u8 44),(15,1,.int .u8 105),(16,1,.int .u8 92),(17,1,.int .u8 220),(18,1,.int .u8 214),(19,1,.int .u8 253),(20,1,.int .u8 49),(21,1,.int .u8 226),(22,1,.int .u8 164),(23,1,.int .u8 192),(24,1,.int .u8 254),(25,1,.int .u8 83),(26,1,.int .u8 110),(27,1,.int .u8 205),(28,1,.int .u8 211),(29,1,.int .u8 54),(30,1,.int .u8 105),(31,1,.int .u8 33)] = some (u8s bxK):=by
  have:bxK = [26,213,37,143,96,45,86,201,178,167,37,149,96,199,44,105,92,220,214,253,49,226,164,192,254,83,110,205,211,54,105,33]:=by decide +kernel
  rw [this]; rfl
 have g2:fillL (Qa 32 (Value.int .u8 0)) [(0,1,.int .u8 88),(1,1,.int .u8 102),(2,1,.int .u8 102),(3,1,.int .u8 102),(4,1,.int .u8 102),(5,1,.int .u8 102),(6,1,.int .u8 102),(7,1,.int .u8 102),(8,1,.int .u8 102),(9,1,.int .u8 102),(10,1,.int .u8 102),(11,1,.int .u8 102),(12,1,.int .u8 102),(13,1,.int .u8 102),(14,1,.int .u8 102),(15,1,.int .u8 102),(16,1,.int .u8 102),(17,1,.int .u8 102),(18,1,.int .u8 102),(19,1,.int .u8 102),(20,1,.int .u8 102),(21,1,.int .u8 102),(22,1,.int .u8 102),(23,1,.int .u8 102),(24,1,.int .u8 102),(25,1,.int .u8 102),(26,1,.int .u8 102),(27,1,.int .u8 102),(28,1,.int .u8 102),(29,1,.int .u8 102),(30,1,.int .u8 102),(31,1,.int .u8 102)] = some (u8s byK):=by
  have:byK = [88,102,102,102,102,102,102,102,102,102,102,102,102,102,102,102,102,102,102,102,102,102,102,102,102,102,102,102,102,102,102,102]:=by decide +kernel
  rw [this]; rfl
 generalize pL X Y O t = Q at *
 apply K8
 apply Jl
 rw [Jg (fn:=a25) rfl]
 simp only [a25,Jh,quiet,cF,↓pF,reduceCtorEq,Qd,Qp,Zo,Zj,Zq,Zi,Zg,Qk,Za,Qj,Q5,Ze,Zd,↓J7,↓J6,↓Xr,↓Xu,↓Xs,↓Xt,cL,Qo,Qn,Q2,Q1,Qy,Qr,Qq,Q0,Qe,Q8,Q9,Qz,Qi,Qh,Qg,Qx,Qw,Qv,Qm,Qf,cJ,g1,g2,h1,h2,v1,ht,hf,Q7,X9,Xv,Ko,Yg,Kp,Kr,p1,L1,L2,V9]
 rfl
theorem Q6h {a b c:List Nat} {n:Nat} (hb:b.length = 20) (ha:a.length = n):Vw 20 (Wk n (ns .u64 (a ++ (b ++ c)))) = ns .u64 b:=by
 simp only [Qb2]
 rw [Yd (by rw [Kr]; omega),Yx (by rw [Kr]; omega),Q6,V2 (by rw [Kr]; omega),Zh (by rw [Kr]; omega)]
theorem Quq {H:List Ob} {l:List Ob} {id n i:Nat} {o x r d:List Nat} {R:Ob} {cs:List Value} {g:List Ob} (hi:i < n) (hn:n < 100) (l1:x.length = 20) (l2:o.length = 20) (l4:d.length = 5) (hm:Vs T 54 [eV o,eV x,eV d] = some (eV r)) (l3:r.length = 20)
  (hA:∀ l,(H ++ l)[id]? = some ⟨cs,true,true,true,1⟩) (hcs:(cs.drop (i * 20)).take 20 = ns .u64 x) (hlen:i * 20 + 20 ≤ cs.length) :
  J9 T H.length Qi2 ⟨[(2,.pointer (some ⟨H.length,0,none⟩)),(3,.pointer (some ⟨H.length + 1,0,none⟩)),(4,.pointer (some ⟨H.length + 2,0,none⟩)),(9,.slice (some ⟨id,0,none⟩) n n),(10,.int .i64 n),(11,.int .i64 i)],H ++ (R :: ⟨ns .u64 o,true,true,true,1⟩ :: ⟨ns .u64 d,true,true,true,1⟩ :: g),[]⟩ =
   some (.normal,⟨[(2,.pointer (some ⟨H.length,0,none⟩)),(3,.pointer (some ⟨H.length + 1,0,none⟩)),(4,.pointer (some ⟨H.length + 2,0,none⟩)),(9,.slice (some ⟨id,0,none⟩) n n),(10,.int .i64 n),(11,.int .i64 ((i + 1:Nat):Int))],H ++ (R :: ⟨ns .u64 r,true,true,true,1⟩ :: ⟨ns .u64 d,true,true,true,1⟩ :: (g ++ [⟨ns .u64 x,true,true,true,1⟩])),[]⟩):=by
 have hz:∃ Z,Qa 20 (Value.int .u64 0) = ns .u64 Z ∧ Z.length = 20:=⟨Qa 20 0,rfl,rfl⟩
 obtain ⟨Z,hz,l0⟩:=hz
 have e1:((i:Int) < (n:Int)) = True:=eq_true (by omega)
 have w3:IntKind.i64.wrap ((i:Int) + 1) = ((i + 1:Nat):Int):=Yp (n:=i + 1) (by omega)
 simp only [Qi2,Jh,quiet,cF,↓pF,reduceCtorEq,Qd,Qp,Zo,V1,↓J7,↓J6,↓Xr,↓Xu,↓Xs,↓Xt,cL,Qo,Qn,Q2,Q1,Qy,Qr,Qq,Q0,Qe,Q8,Q9,Qz,Qi,Qh,Qg,Qx,Qw,Qv,Qm,Qf,cJ,Vl,hz,hA,hcs,hlen,hm,Xv,Ko,Yg,Kp,Kr,l0,l1,l2,l3,l4,V9,e1,w3]
inductive Reps:List (List Nat) → List (Go.Cv.Pt Go.Fp.P Go.Fp.d) → Prop
 | nil:Reps [] []
 | cons {x xs p ps}:RepL x p → Reps xs ps → Reps (x :: xs) (p :: ps)
theorem Reps.len {xs:List (List Nat)} {ps:List (Go.Cv.Pt Go.Fp.P Go.Fp.d)} (h:Reps xs ps):xs.length = ps.length:=by
 induction h with
 | nil => rfl
 | cons _ _ ih => simp [ih]
theorem Reps.all {xs:List (List Nat)} {ps:List (Go.Cv.Pt Go.Fp.P Go.Fp.d)} (h:Reps xs ps):∀ x ∈ xs,x.length = 20:=by
 induction h with
 | nil => simp
 | cons h _ ih => intro y hy; rcases Y6.1 hy with rfl | hy; exact h.len; exact ih y hy
theorem Reps.get {xs:List (List Nat)} {ps:List (Go.Cv.Pt Go.Fp.P Go.Fp.d)} (h:Reps xs ps):∀ {i:Nat} {x:List Nat},xs[i]? = some x → ∃ p,ps[i]? = some p ∧ RepL x p:=by
 induction h with
 | nil => intro i x h; simp at h
 | cons h _ ih =>
  intro i x hx
  cases i with
  | zero => simp at hx; subst hx; exact ⟨_,rfl,h⟩
  | succ i => simp at hx; simpa using ih hx
theorem Qyi:∀ (ys:List (List Nat)),(∀ x ∈ ys,x.length = 20) → ys.flatten.length = ys.length * 20:=by
 intro ys hy
 induction ys with
 | nil => rfl
 | cons y ys ih =>
  rw [Xn,Zc,ih (fun x hx => hy x (by simp [hx])),(hy y (by simp)),Zr]; omega
theorem Q22 {H:List Ob} {id n:Nat} {xs:List (List Nat)} {ps:List (Go.Cv.Pt Go.Fp.P Go.Fp.d)} (hn:xs.length = n) (hN:n < 100) (hx:Reps xs ps) (h:H[id]? = some ⟨ns .u64 xs.flatten,true,true,true,1⟩) :
  ∃ r d,Vx T 46 [.slice (some ⟨id,0,none⟩) n n] H = some (eV r,H ++ (⟨ns .u64 r,true,true,true,1⟩ :: ⟨ns .u64 r,true,true,true,1⟩ :: ⟨ns .u64 d,true,true,true,1⟩ :: xs.map fun x => (⟨ns .u64 x,true,true,true,1⟩:Ob)),[]) ∧ RepL r (ps.foldl Wy Bx):=by
 have hid:id < H.length:=(Qu.1 h).1
 have hA:∀ l,(H ++ l)[id]? = some ⟨ns .u64 xs.flatten,true,true,true,1⟩:=fun l => by rw [Qc hid]; exact h
 obtain ⟨d,hd,Ed,fd⟩:=Qih
 obtain ⟨z,hz,Ez⟩:=Qo5
 have hZ:∃ Z,Qa 20 (Value.int .u64 0) = ns .u64 Z ∧ Z.length = 20:=⟨Qa 20 0,rfl,rfl⟩
 obtain ⟨Z,hZ,l0⟩:=hZ
 obtain ⟨st,hb,r,rfl,hr1⟩:=Yv (T:=T) (base:=H.length) (id:=0) (body:=Qi2)
  (fun i st => ∃ r:List Nat,st = ⟨[(2,.pointer (some ⟨H.length,0,none⟩)),(3,.pointer (some ⟨H.length + 1,0,none⟩)),(4,.pointer (some ⟨H.length + 2,0,none⟩)),(9,.slice (some ⟨id,0,none⟩) n n),(10,.int .i64 n),(11,.int .i64 (i:Nat))],H ++ (⟨ns .u64 Z,true,true,true,1⟩ :: ⟨ns .u64 r,true,true,true,1⟩ :: ⟨ns .u64 d,true,true,true,1⟩ :: ((xs.take i).map fun x => (⟨ns .u64 x,true,true,true,1⟩:Ob))),[]⟩ ∧ RepL r ((ps.take i).foldl Wy Bx))
  (Q:=fun st => ∃ r:List Nat,st = ⟨[(2,.pointer (some ⟨H.length,0,none⟩)),(3,.pointer (some ⟨H.length + 1,0,none⟩)),(4,.pointer (some ⟨H.length + 2,0,none⟩)),(9,.slice (some ⟨id,0,none⟩) n n),(10,.int .i64 n),(11,.int .i64 n),(12,.bool false)],H ++ (⟨ns .u64 Z,true,true,true,1⟩ :: ⟨ns .u64 r,true,true,true,1⟩ :: ⟨ns .u64 d,true,true,true,1⟩ :: (xs.map fun x => (⟨ns .u64 x,true,true,true,1⟩:Ob))),[]⟩ ∧ RepL r (ps.foldl Wy Bx))
  n (s:=⟨[(2,.pointer (some ⟨H.length,0,none⟩)),(3,.pointer (some ⟨H.length + 1,0,none⟩)),(4,.pointer (some ⟨H.length + 2,0,none⟩)),(9,.slice (some ⟨id,0,none⟩) n n),(10,.int .i64 n),(11,.int .i64 0)],H ++ [⟨ns .u64 Z,true,true,true,1⟩,⟨ns .u64 z,true,true,true,1⟩,⟨ns .u64 d,true,true,true,1⟩],[]⟩) ⟨z,rfl,Ez⟩
  (fun i st hi hs => by
   obtain ⟨r,rfl,hr1⟩:=hs
   obtain ⟨x,hxi⟩:∃ y,xs[i]? = some y:=⟨_,Qt (by omega)⟩
   obtain ⟨p,hpi,hxe⟩:=hx.get hxi
   obtain ⟨r',hm,g1⟩:=Q4b hr1 hxe Ed fd
   have hsplit:xs = xs.take i ++ x :: xs.drop (i + 1):=by
    have h1:=Qu.1 hxi
    conv => lhs; rw [← Wd i xs,Uc h1.1,h1.2]
   have htl:(xs.take i).flatten.length = i * 20:=by
    rw [Qyi _ (fun y hy => hx.all y (Vk hy)),Km,Vz (by omega)]
   have hcs:((ns .u64 xs.flatten).drop (i * 20)).take 20 = ns .u64 x:=by
    conv => lhs; rw [hsplit,Yn,Xn]
    exact Q6h hxe.len htl
   have hb:=Quq (R:=⟨ns .u64 Z,true,true,true,1⟩) (g:=(xs.take i).map fun x => (⟨ns .u64 x,true,true,true,1⟩:Ob)) (l:=[]) hi hN hxe.len hr1.len Ed.len hm g1.len hA hcs (by rw [Kr,Qyi xs hx.all,hn]; omega)
   have htk:xs.take (i + 1) = xs.take i ++ [x]:=by rw [Y9,hxi]; rfl
   have htp:ps.take (i + 1) = ps.take i ++ [p]:=by rw [Y9,hpi]; rfl
   refine ⟨_,hb,r',?_,?_⟩
   ·rw [htk,Ha]; rfl
   ·rw [htp,List.foldl_append]; exact g1)
  (fun st hs => by
   obtain ⟨r,rfl,hr1⟩:=hs
   have e1:((n:Int) < (n:Int)) = False:=eq_false (by omega)
   have ht:xs.take n = xs:=Zh (by omega)
   have ht2:ps.take n = ps:=Zh (by have:=hx.len; omega)
   rw [ht2] at hr1
   rw [ht]
   refine ⟨_,?_,r,rfl,hr1⟩
   simp only [Qi2,Jh,quiet,cF,↓pF,reduceCtorEq,Qd,Qp,Zo,V1,↓J7,↓J6,↓Xr,↓Xu,↓Xs,↓Xt,cL,Qo,Qn,Q2,Q1,Qy,Qr,Qq,Q0,Qe,Q8,Q9,Qz,Qi,Qh,Qg,Qx,Qw,Qv,Qm,Qf,e1])
 refine ⟨r,d,?_,hr1⟩
 have l1:=hr1.len
 have l2:=Ez.len
 have l3:=Ed.len
 rw [Jg (fn:=a27) rfl]
 have hz5:Qa 5 (Value.int .u64 0) = ns .u64 [0,0,0,0,0]:=rfl
 have l5:([0,0,0,0,0]:List Nat).length = 5:=rfl
 simp only [a27,Jh,quiet,cF,↓pF,reduceCtorEq,Qd,Qp,Zo,V1,↓J7,↓J6,↓Xr,↓Xu,↓Xs,↓Xt,cL,Qo,Qn,Q2,Q1,Qy,Qr,Qq,Q0,Qe,Q8,Q9,Qz,Qi,Qh,Qg,Qx,Qw,Qv,Qm,Qf,cJ,Vl,hZ,hz5,l5,hd,hz,hb,Xv,Ko,Yg,Kp,Kr,l0,l1,l2,l3,V9]
theorem fold2 {p q:Go.Cv.Pt Go.Fp.P Go.Fp.d}:[p,q].foldl Wy Bx = Wy p q:=by
 show Wy (Wy Bx p) q = _
 rw [show Wy Bx p = p from Go.Cv.zero_add Go.Fp.fld p]
end Go.Ev.Ytpgphpkjlpkcbaa
set_option linter.unusedSimpArgs false
set_option linter.unusedVariables false
namespace Go.Ev.Ytpgphpkjlpkcbaa
open Go Go.Ev
attribute [local congr] Wq W3 Wp W4 Wg
set_option maxRecDepth 100000
def Rj (u v:Go.Fp.Fe):Go.Fp.Fe:=u * (v * v * v) * Go.Fp.pow (u * (v * v * v) * (v * v * v) * v) (2 ^ 252 - 1 - 2)
def jj:Go.Fp.Fe:=Go.Fp.pow 2 (2 ^ 253 - 1 - 4)
theorem jj_eq:jj = Go.Fp.i:=by
 show Go.Fp.pow (Go.Fp.fp 2) _ = Go.Fp.fp Go.Fp.iN
 exact Go.Fp.Qm1 (f:=256) (by decide +kernel) (by decide +kernel)
theorem jj_sq:jj * jj = -1:=by rw [jj_eq]; exact Go.Fp.Qpi
theorem quarter:(2 ^ 252 - 1 - 2) + (2 ^ 252 - 1 - 2) + 1 + ((2 ^ 252 - 1 - 2) + (2 ^ 252 - 1 - 2) + 1) = (Go.Fp.P - 1) / 2:=by rw [Go.Fp.Qbn]
theorem Q02 {u v s:Go.Fp.Fe} (h1:v * Rj u v * Rj u v ≠ u) (h2:v * Rj u v * Rj u v ≠ -u):v * (s * s) ≠ u:=fun hs => by
 have F:=Go.Fp.fld
 obtain ⟨g,hg⟩:∃ g,g = v * v * v * v * s:=⟨_,rfl⟩
 have ht:u * (v * v * v) * (v * v * v) * v = g * g:=by subst hg; subst hs; grobner
 rcases Go.Fp.Qm2 g with h | h
 ·obtain ⟨k,hk⟩:∃ k,k = 2 ^ 252 - 1 - 2:=⟨_,rfl⟩
  have hq:=quarter
  rw [← hk] at hq
  rw [← hq,Go.Fp.pow_add,Go.Fp.pow_add,Go.Fp.pow_add,Go.Fp.pow_one] at h
  have hw:Rj u v = u * (v * v * v) * Go.Fp.pow (g * g) k:=by unfold Rj; rw [ht,hk]
  rw [hw] at h1 h2
  generalize Go.Fp.pow (g * g) k = q at *
  have he:(q * q * (g * g) - 1) * (q * q * (g * g) + 1) = 0:=by clear h1 h2 hw ht hg hs; grobner
  have hv:v * (u * (v * v * v) * q) * (u * (v * v * v) * q) = u * (q * q * (g * g)):=by clear h1 h2 hw hg hs he h; grobner
  rcases F.dom he with h | h
  ·exact h1 (by rw [hv]; clear h1 h2 hw ht hg hs he hv; grobner)
  ·exact h2 (by rw [hv]; clear h1 h2 hw ht hg hs he hv; grobner)
 ·have hu:u * (v * v * v) * (v * v * v) * v = 0:=by rw [ht,h]; grobner
  have hu0:u = 0:=by
   rcases F.dom hu with h0 | h0
   ·rcases F.dom h0 with h0 | h0
    ·rcases F.dom h0 with h0 | h0
     ·exact h0
     ·rcases F.dom h0 with h0 | h0
      ·rcases F.dom h0 with h0 | h0 <;> (rw [← hs,h0]; grobner)
      ·rw [← hs,h0]; grobner
    ·rcases F.dom h0 with h0 | h0
     ·rcases F.dom h0 with h0 | h0 <;> (rw [← hs,h0]; grobner)
     ·rw [← hs,h0]; grobner
   ·rw [← hs,h0]; grobner
  exact h1 (by unfold Rj; rw [hu0]; grobner)
theorem Q0q:Vs T 77 [.int .i64 252,.int .u8 2] = some (.agg (u8s (dig 256 32 (2 ^ 252 - 1 - 2))).toArray):=Qpv (n:=252) (less:=2) (by decide) (by decide) (by decide)
theorem Q0p:Vs T 77 [.int .i64 253,.int .u8 4] = some (.agg (u8s (dig 256 32 (2 ^ 253 - 1 - 4))).toArray):=Qpv (n:=253) (less:=4) (by decide) (by decide) (by decide)
def Qmv (r:List Nat) (ok:Bool):Value := .tuple #[eV r,.bool ok]
theorem Q59 {u v:List Nat} (Eu:El u (2 ^ 52)) (Ev:El v (2 ^ 52)) :
  ∃ r ok,Vs T 79 [eV u,eV v] = some (Qmv r ok) ∧ El r (2 ^ 52) ∧ (ok = true → fe v * (fe r * fe r) = fe u ∧ ((fe r).val % 2 = 0 ∨ fe r = 0)) ∧ (ok = false → ∀ s,fe v * (s * s) ≠ fe u):=by
 obtain ⟨r1,hr1,Er1,fr1⟩:=Rk (H:=[⟨ns .u64 u,true,true,true,1⟩,⟨ns .u64 v,true,true,true,1⟩,⟨ns .u64 [0,0,0,0,0],true,true,true,1⟩,⟨ns .u64 [v,v,v].flatten,true,true,true,1⟩]) (id:=3) (n:=3) (xs:=[v,v,v]) rfl (by decide) (by intro w hw; simp only [Y6,Y7,or_false] at hw; rcases hw with rfl | rfl | rfl <;> assumption) rfl
 simp only [Wf,Ub,Zb,Q6] at hr1
 simp only [Wf,Ub,W6,Gi] at fr1
 obtain ⟨r2,hr2,Er2,fr2⟩:=Rk (H:=[⟨ns .u64 u,true,true,true,1⟩,⟨ns .u64 v,true,true,true,1⟩,⟨ns .u64 [0,0,0,0,0],true,true,true,1⟩,⟨ns .u64 [v,v,v].flatten,true,true,true,1⟩,⟨ns .u64 r1,true,true,true,1⟩,⟨ns .u64 r1,true,true,true,1⟩,⟨ns .u64 v,true,true,true,1⟩,⟨ns .u64 v,true,true,true,1⟩,⟨ns .u64 v,true,true,true,1⟩,⟨ns .u64 r1,true,true,true,1⟩,⟨ns .u64 [u,r1,r1,v].flatten,true,true,true,1⟩]) (id:=10) (n:=4) (xs:=[u,r1,r1,v]) rfl (by decide) (by intro w hw; simp only [Y6,Y7,or_false] at hw; rcases hw with rfl | rfl | rfl | rfl <;> assumption) rfl
 simp only [Wf,Ub,Zb,Q6] at hr2
 simp only [Wf,Ub,W6,Gi] at fr2
 obtain ⟨r3,hr3,Er3,fr3⟩:=Qc1 (n:=252) (less:=2) Er2 (by decide) (by decide) (by decide)
 obtain ⟨r4,hr4,Er4,fr4⟩:=Rk (H:=[⟨ns .u64 u,true,true,true,1⟩,⟨ns .u64 v,true,true,true,1⟩,⟨ns .u64 [0,0,0,0,0],true,true,true,1⟩,⟨ns .u64 [v,v,v].flatten,true,true,true,1⟩,⟨ns .u64 r1,true,true,true,1⟩,⟨ns .u64 r1,true,true,true,1⟩,⟨ns .u64 v,true,true,true,1⟩,⟨ns .u64 v,true,true,true,1⟩,⟨ns .u64 v,true,true,true,1⟩,⟨ns .u64 r1,true,true,true,1⟩,⟨ns .u64 [u,r1,r1,v].flatten,true,true,true,1⟩,⟨ns .u64 r2,true,true,true,1⟩,⟨ns .u64 r2,true,true,true,1⟩,⟨ns .u64 u,true,true,true,1⟩,⟨ns .u64 r1,true,true,true,1⟩,⟨ns .u64 r1,true,true,true,1⟩,⟨ns .u64 v,true,true,true,1⟩,⟨ns .u64 [u,r1,r3].flatten,true,true,true,1⟩]) (id:=17) (n:=3) (xs:=[u,r1,r3]) rfl (by decide) (by intro w hw; simp only [Y6,Y7,or_false] at hw; rcases hw with rfl | rfl | rfl <;> assumption) rfl
 simp only [Wf,Ub,Zb,Q6] at hr4
 simp only [Wf,Ub,W6,Gi] at fr4
 obtain ⟨r5,hr5,Er5,fr5⟩:=Rk (H:=[⟨ns .u64 u,true,true,true,1⟩,⟨ns .u64 v,true,true,true,1⟩,⟨ns .u64 [0,0,0,0,0],true,true,true,1⟩,⟨ns .u64 [v,v,v].flatten,true,true,true,1⟩,⟨ns .u64 r1,true,true,true,1⟩,⟨ns .u64 r1,true,true,true,1⟩,⟨ns .u64 v,true,true,true,1⟩,⟨ns .u64 v,true,true,true,1⟩,⟨ns .u64 v,true,true,true,1⟩,⟨ns .u64 r1,true,true,true,1⟩,⟨ns .u64 [u,r1,r1,v].flatten,true,true,true,1⟩,⟨ns .u64 r2,true,true,true,1⟩,⟨ns .u64 r2,true,true,true,1⟩,⟨ns .u64 u,true,true,true,1⟩,⟨ns .u64 r1,true,true,true,1⟩,⟨ns .u64 r1,true,true,true,1⟩,⟨ns .u64 v,true,true,true,1⟩,⟨ns .u64 [u,r1,r3].flatten,true,true,true,1⟩,⟨ns .u64 r4,true,true,true,1⟩,⟨ns .u64 r4,true,true,true,1⟩,⟨ns .u64 u,true,true,true,1⟩,⟨ns .u64 r1,true,true,true,1⟩,⟨ns .u64 r3,true,true,true,1⟩,⟨ns .u64 r4,true,true,true,1⟩,⟨ns .u64 [v,r4,r4].flatten,true,true,true,1⟩]) (id:=24) (n:=3) (xs:=[v,r4,r4]) rfl (by decide) (by intro w hw; simp only [Y6,Y7,or_false] at hw; rcases hw with rfl | rfl | rfl <;> assumption) rfl
 simp only [Wf,Ub,Zb,Q6] at hr5
 simp only [Wf,Ub,W6,Gi] at fr5
 have k1:=Q14 Er5 Eu
 obtain ⟨nu,hnu,Enu,fnu⟩:=Qkd Eu
 have k2:=Q14 Er5 Enu
 obtain ⟨two,htwo⟩:∃ two:List Nat,two = [2,0,0,0,0]:=⟨_,rfl⟩
 have Etwo:El two (2 ^ 52):=by rw [htwo]; exact Qvm
 have vtwo:Vs T 37 [.int .u32 2] = some (eV two):=by rw [htwo]; exact Qvj
 have ftwo:fe two = 2:=by rw [htwo]; exact Qpb
 clear htwo
 obtain ⟨j,hj,Ej,fj⟩:=Qc1 (n:=253) (less:=4) Etwo (by decide) (by decide) (by decide)
 obtain ⟨q,hq,Eq,fq⟩:=Wr Er4 Ej
 obtain ⟨n1,hn1,En1,fn1⟩:=Qkd Er4
 obtain ⟨n2,hn2,En2,fn2⟩:=Qkd Eq
 have o1:=Qxh Er4
 have o2:=Qxh Eq
 have c1:=Q0q
 have c2:=Q0p
 have g1:=Qkq Ev Ev Ev
 have g2:=Qf1 Eu Er1 Er1 Ev
 rw [Qrk] at g2
 have g3:=Qkq Eu Er1 Er3
 have g4:=Qkq Ev Er4 Er4
 have hw:fe r4 = Rj (fe u) (fe v):=by
  rw [fr4,fr3,fr1,fr2,fr1]; unfold Rj
  rw [show (1 * fe u * (1 * fe v * fe v * fe v) * (1 * fe v * fe v * fe v) * fe v) = fe u * (fe v * fe v * fe v) * (fe v * fe v * fe v) * fe v from by grobner]
  generalize Go.Fp.pow _ _ = p
  grobner
 have hjj:fe j = jj:=by rw [fj,ftwo]; rfl
 have l1:=Eu.len
 have l2:=Ev.len
 have l3:=Er1.len
 have l4:=Er4.len
 have l5:=Er5.len
 have l6:=Eq.len
 have l7:=En1.len
 have l8:=En2.len
 have hz5:Qa 5 (Value.int .u64 0) = ns .u64 [0,0,0,0,0]:=rfl
 have hf5:fillL (ns .u64 [0,0,0,0,0]) [] = some (ns .u64 [0,0,0,0,0]):=rfl
 have l0:([0,0,0,0,0]:List Nat).length = 5:=rfl
 clear Ej Etwo ftwo fj
 generalize dig 256 32 (2 ^ 252 - 1 - 2) = K1 at *
 generalize dig 256 32 (2 ^ 253 - 1 - 4) = K2 at *
 have hsq:fe r5 = fe v * Rj (fe u) (fe v) * Rj (fe u) (fe v):=by rw [fr5,hw]; generalize Rj (fe u) (fe v) = w; grobner
 have evn:∀ a:Go.Fp.Fe,a.val % 2 = 1 → (-a).val % 2 = 0 ∨ -a = 0:=by
  intro a ha
  left
  have hlt:=a.isLt
  have h0:(Go.Fp.P - a.val) < Go.Fp.P:=by omega
  have h1:(-a).val = (Go.Fp.P - a.val) % Go.Fp.P:=rfl
  rw [h1,Z2 h0]
  have hP:Go.Fp.P % 2 = 1:=by rw [Go.Fp.Qbn]
  omega
 by_cases hA:fe r5 = fe u
 ·rw [decide_eq_true hA] at k1
  have hroot:fe v * (fe r4 * fe r4) = fe u:=by rw [← hA,hsq,hw]; generalize Rj (fe u) (fe v) = w; grobner
  by_cases hO:(fe r4).val % 2 = 1
  ·rw [decide_eq_true hO] at o1
   refine ⟨n1,true,?_,En1,fun _ => ⟨?_,?_⟩,fun h => by cases h⟩
   ·apply K8
    apply Jl
    rw [Jg (fn:=a60) rfl]
    simp only [a60,Jh,quiet,cF,↓pF,reduceCtorEq,Qd,Qp,Zo,Zj,Zq,Zi,Zg,Qk,Za,Qj,Q5,Ze,Zd,↓J7,↓J6,↓Xr,↓Xu,↓Xs,↓Xt,cL,Qo,Qn,Q2,Q1,Qy,Qr,Qq,Q0,Qe,Q8,Q9,Qz,Qi,Qh,Qg,Qx,Qw,Qv,Qm,Qf,cJ,hz5,hf5,l0,g1,g2,g3,g4,c1,c2,hr1,hr2,hr3,hr4,hr5,k1,o1,hn1,l1,l2,l3,l4,l5,l7,Q7,X9,Xv,Ko,Yg,Kp,Kr,V9]
    rfl
   ·rw [fn1,← hroot]; generalize fe r4 = w; grobner
   ·rw [fn1]; exact evn _ hO
  ·rw [decide_eq_false hO] at o1
   refine ⟨r4,true,?_,Er4,fun _ => ⟨hroot,by left; omega⟩,fun h => by cases h⟩
   apply K8
   apply Jl
   rw [Jg (fn:=a60) rfl]
   simp only [a60,Jh,quiet,cF,↓pF,reduceCtorEq,Qd,Qp,Zo,Zj,Zq,Zi,Zg,Qk,Za,Qj,Q5,Ze,Zd,↓J7,↓J6,↓Xr,↓Xu,↓Xs,↓Xt,cL,Qo,Qn,Q2,Q1,Qy,Qr,Qq,Q0,Qe,Q8,Q9,Qz,Qi,Qh,Qg,Qx,Qw,Qv,Qm,Qf,cJ,hz5,hf5,l0,g1,g2,g3,g4,c1,c2,hr1,hr2,hr3,hr4,hr5,k1,o1,hn1,l1,l2,l3,l4,l5,l7,Q7,X9,Xv,Ko,Yg,Kp,Kr,V9]
   rfl
 ·rw [decide_eq_false hA] at k1
  by_cases hB:fe r5 = fe nu
  ·rw [decide_eq_true hB] at k2
   have hroot:fe v * (fe q * fe q) = fe u:=by
    have hs:=jj_sq
    rw [hsq,fnu] at hB
    rw [fq,hw,hjj]
    generalize Rj (fe u) (fe v) = w at *
    clear k1 k2 o1 o2 c1 c2 hA hsq hw fr1 fr2 fr3 fr4 fr5
    grobner
   by_cases hO:(fe q).val % 2 = 1
   ·rw [decide_eq_true hO] at o2
    refine ⟨n2,true,?_,En2,fun _ => ⟨?_,?_⟩,fun h => by cases h⟩
    ·apply K8
     apply Jl
     rw [Jg (fn:=a60) rfl]
     simp only [a60,Jh,quiet,cF,↓pF,reduceCtorEq,Qd,Qp,Zo,Zj,Zq,Zi,Zg,Qk,Za,Qj,Q5,Ze,Zd,↓J7,↓J6,↓Xr,↓Xu,↓Xs,↓Xt,cL,Qo,Qn,Q2,Q1,Qy,Qr,Qq,Q0,Qe,Q8,Q9,Qz,Qi,Qh,Qg,Qx,Qw,Qv,Qm,Qf,cJ,hz5,hf5,l0,g1,g2,g3,g4,c1,c2,hr1,hr2,hr3,hr4,hr5,k1,k2,hnu,vtwo,hj,hq,o2,hn2,l1,l2,l3,l4,l5,l6,l8,Q7,X9,Xv,Ko,Yg,Kp,Kr,V9]
     rfl
    ·rw [fn2,← hroot]; generalize fe q = w; grobner
    ·rw [fn2]; exact evn _ hO
   ·rw [decide_eq_false hO] at o2
    refine ⟨q,true,?_,Eq,fun _ => ⟨hroot,by left; omega⟩,fun h => by cases h⟩
    apply K8
    apply Jl
    rw [Jg (fn:=a60) rfl]
    simp only [a60,Jh,quiet,cF,↓pF,reduceCtorEq,Qd,Qp,Zo,Zj,Zq,Zi,Zg,Qk,Za,Qj,Q5,Ze,Zd,↓J7,↓J6,↓Xr,↓Xu,↓Xs,↓Xt,cL,Qo,Qn,Q2,Q1,Qy,Qr,Qq,Q0,Qe,Q8,Q9,Qz,Qi,Qh,Qg,Qx,Qw,Qv,Qm,Qf,cJ,hz5,hf5,l0,g1,g2,g3,g4,c1,c2,hr1,hr2,hr3,hr4,hr5,k1,k2,hnu,vtwo,hj,hq,o2,hn2,l1,l2,l3,l4,l5,l6,l8,Q7,X9,Xv,Ko,Yg,Kp,Kr,V9]
    rfl
  ·rw [decide_eq_false hB] at k2
   refine ⟨[0,0,0,0,0],false,?_,Qgz,fun h => (by cases h),fun _ s => Q02 (by rw [← hsq]; exact hA) (by rw [← hsq,← fnu]; exact hB)⟩
   apply K8
   apply Jl
   rw [Jg (fn:=a60) rfl]
   simp only [a60,Jh,quiet,cF,↓pF,reduceCtorEq,Qd,Qp,Zo,Zj,Zq,Zi,Zg,Qk,Za,Qj,Q5,Ze,Zd,↓J7,↓J6,↓Xr,↓Xu,↓Xs,↓Xt,cL,Qo,Qn,Q2,Q1,Qy,Qr,Qq,Q0,Qe,Q8,Q9,Qz,Qi,Qh,Qg,Qx,Qw,Qv,Qm,Qf,cJ,hz5,hf5,l0,g1,g2,g3,g4,c1,c2,hr1,hr2,hr3,hr4,hr5,k1,k2,hnu,l1,l2,l3,l4,l5,Q7,X9,Xv,Ko,Yg,Kp,Kr,V9]
   rfl
structure Jac where
 x:Nat
 y:Nat
 z:Nat
 t:Nat
structure JRep (a:Jac) (p:Go.Cv.Pt Go.Fp.P Go.Fp.d):Prop where
 nz:Go.Fp.fp a.z ≠ 0
 x:Go.Fp.fp a.x = p.x * Go.Fp.fp a.z
 y:Go.Fp.fp a.y = p.y * Go.Fp.fp a.z
 t:Go.Fp.fp a.t = p.x * p.y * Go.Fp.fp a.z
def Qns (a b:Nat):Nat:=a + (Go.Fp.P - b % Go.Fp.P)
theorem Qb7 (a b:Nat):Go.Fp.fp (Qns a b) = Go.Fp.fp a - Go.Fp.fp b:=by
 unfold Qns
 have h:b % Go.Fp.P ≤ Go.Fp.P:=Um (Js _ (by rw [Go.Fp.Qbn]; decide))
 rw [Go.Fp.Ho,Go.Fp.Q7d h,Go.Fp.fp_P,Go.Fp.Ms]
 grobner
def Qic (a b:Jac):Nat:=Qns a.y a.x * Qns b.y b.x % Go.Fp.P
def Qib (a b:Jac):Nat:=(a.y + a.x) * (b.y + b.x) % Go.Fp.P
def Qia (a b:Jac):Nat:=1 * 2 * Go.Fp.dN * a.t * b.t % Go.Fp.P
def Qh9 (a b:Jac):Nat:=1 * 2 * a.z * b.z % Go.Fp.P
def jfin (a b c e:Nat):Jac:=⟨Qns b a * Qns e c % Go.Fp.P,(e + c) * (b + a) % Go.Fp.P,Qns e c * (e + c) % Go.Fp.P,Qns b a * (b + a) % Go.Fp.P⟩
def Qn1 (a b:Jac):Jac:=jfin (Qic a b) (Qib a b) (Qia a b) (Qh9 a b)
theorem JRep.add {a b:Jac} {p q:Go.Cv.Pt Go.Fp.P Go.Fp.d} (h1:JRep a p) (h2:JRep b q):JRep (Qn1 a b) (Wy p q):=by
 have ha:Go.Fp.fp (Qic a b) = (Go.Fp.fp a.y - Go.Fp.fp a.x) * (Go.Fp.fp b.y - Go.Fp.fp b.x):=by
  unfold Qic; rw [Go.Fp.Ms,Go.Fp.Bv,Qb7,Qb7]
 have hb:Go.Fp.fp (Qib a b) = (Go.Fp.fp a.y + Go.Fp.fp a.x) * (Go.Fp.fp b.y + Go.Fp.fp b.x):=by
  unfold Qib; rw [Go.Fp.Ms,Go.Fp.Bv,Go.Fp.Ho,Go.Fp.Ho]
 have hc:Go.Fp.fp (Qia a b) = 1 * 2 * Go.Fp.d * Go.Fp.fp a.t * Go.Fp.fp b.t:=by
  unfold Qia; rw [Go.Fp.Ms,Go.Fp.Bv,Go.Fp.Bv,Go.Fp.Bv,Go.Fp.Bv,Go.Fp.Qlz,Go.Fp.Qyg]; rfl
 have hd:Go.Fp.fp (Qh9 a b) = 1 * 2 * Go.Fp.fp a.z * Go.Fp.fp b.z:=by
  unfold Qh9; rw [Go.Fp.Ms,Go.Fp.Bv,Go.Fp.Bv,Go.Fp.Bv,Go.Fp.Qlz,Go.Fp.Qyg]
 have hx:Go.Fp.fp (Qn1 a b).x = (Go.Fp.fp (Qib a b) - Go.Fp.fp (Qic a b)) * (Go.Fp.fp (Qh9 a b) - Go.Fp.fp (Qia a b)):=by
  show Go.Fp.fp (_ % _) = _; rw [Go.Fp.Ms,Go.Fp.Bv,Qb7,Qb7]
 have hy:Go.Fp.fp (Qn1 a b).y = (Go.Fp.fp (Qh9 a b) + Go.Fp.fp (Qia a b)) * (Go.Fp.fp (Qib a b) + Go.Fp.fp (Qic a b)):=by
  show Go.Fp.fp (_ % _) = _; rw [Go.Fp.Ms,Go.Fp.Bv,Go.Fp.Ho,Go.Fp.Ho]
 have hz:Go.Fp.fp (Qn1 a b).z = (Go.Fp.fp (Qh9 a b) - Go.Fp.fp (Qia a b)) * (Go.Fp.fp (Qh9 a b) + Go.Fp.fp (Qia a b)):=by
  show Go.Fp.fp (_ % _) = _; rw [Go.Fp.Ms,Go.Fp.Bv,Go.Fp.Ho,Qb7]
 have ht:Go.Fp.fp (Qn1 a b).t = (Go.Fp.fp (Qib a b) - Go.Fp.fp (Qic a b)) * (Go.Fp.fp (Qib a b) + Go.Fp.fp (Qic a b)):=by
  show Go.Fp.fp (_ % _) = _; rw [Go.Fp.Ms,Go.Fp.Bv,Go.Fp.Ho,Qb7]
 obtain ⟨g1,g2,g3,g4⟩:=Qj5 h1.x h1.y h1.t h2.x h2.y h2.t ha hb hc hd hx hy hz ht (Go.Cv.Qd5 Go.Fp.fld p q) (Go.Cv.Qal Go.Fp.fld p q)
 refine ⟨?_,g1,g2,g3⟩
 rw [g4]
 have F:=Go.Fp.fld
 have w:=F.mul_ne (F.mul_ne F.two h1.nz) h2.nz
 exact F.mul_ne (F.mul_ne w w) (F.mul_ne (F.denM p.on q.on) (F.denP p.on q.on))
def Qtw (p:Jac):Nat → Nat → Jac
 | 0,_ => ⟨0,1,1,0⟩
 | f + 1,k => (fun r => if k % 2 = 1 then Qn1 (Qn1 r r) p else Qn1 r r) (Qtw p f (k / 2))
theorem JRep.mul {a:Jac} {p:Go.Cv.Pt Go.Fp.P Go.Fp.d} (h:JRep a p):∀ {f k:Nat},k < 2 ^ f → JRep (Qtw a f k) (Y2 k p)
 | 0,k,hk => by
  have:k = 0:=by omega
  subst this
  exact ⟨Go.Fp.Dh,by show (0:Go.Fp.Fe) = 0 * 1; grobner,by show (1:Go.Fp.Fe) = 1 * 1; grobner,by show (0:Go.Fp.Fe) = 0 * 1 * 1; grobner⟩
 | f + 1,k,hk => by
  have ih:=JRep.mul h (f:=f) (k:=k / 2) (by omega)
  have hb:=Js k (by decide:0 < 2)
  have e:Y2 k p = Y2 (2 * (k / 2) + k % 2) p:=by rw [Yb]
  rw [e,Qj4 p (k / 2) (k % 2) hb]
  simp only [Qtw]
  split
  ·exact (ih.add ih).add h
  ·exact ih.add ih
def Qrt:Jac:=⟨bxN,byN,1,bxN * byN % Go.Fp.P⟩
theorem Qkk:JRep Qrt Uj:=by
 have h1:Go.Fp.fp 1 = (1:Go.Fp.Fe):=rfl
 refine ⟨Go.Fp.Dh,?_,?_,?_⟩
 ·show Go.Fp.fp bxN = Go.Fp.fp bxN * Go.Fp.fp 1; rw [h1]; grobner
 ·show Go.Fp.fp byN = Go.Fp.fp byN * Go.Fp.fp 1; rw [h1]; grobner
 ·show Go.Fp.fp (bxN * byN % Go.Fp.P) = Go.Fp.fp bxN * Go.Fp.fp byN * Go.Fp.fp 1; rw [h1,Go.Fp.Ms,Go.Fp.Bv]; grobner
theorem Qqk:Y2 8 Uj ≠ Bx:=fun h => by
 have r:=Qkk.mul (f:=4) (k:=8) (by decide)
 rw [h] at r
 have hx:=r.x
 rw [show (Bx:Go.Cv.Pt Go.Fp.P Go.Fp.d).x = 0 from rfl] at hx
 have h0:Go.Fp.fp (Qtw Qrt 4 8).x = Go.Fp.fp 0:=by rw [hx]; show _ = (0:Go.Fp.Fe); grobner
 have h1:=Go.Fp.Qoa.1 h0
 have h2:(Qtw Qrt 4 8).x % Go.Fp.P ≠ 0 % Go.Fp.P:=by decide +kernel
 exact h2 h1
theorem Qxy {a:Jac} {q:Go.Cv.Pt Go.Fp.P Go.Fp.d} (r:JRep a q) (c1:a.x % Go.Fp.P = 0 % Go.Fp.P) (c2:a.y % Go.Fp.P = a.z % Go.Fp.P):q = Bx:=by
 have d1:=Go.Fp.Qoa.2 c1
 have d2:=Go.Fp.Qoa.2 c2
 have F:=Go.Fp.fld
 have hx:=r.x
 have hy:=r.y
 have hz:=r.nz
 rw [d1] at hx
 rw [d2] at hy
 generalize Go.Fp.fp a.z = z at *
 apply Go.Cv.Pt.ext
 ·show _ = (0:Go.Fp.Fe)
  have h0:Go.Fp.fp 0 = (0:Go.Fp.Fe):=rfl
  rw [h0] at hx
  refine F.cancel hz ?_
  generalize q.x = w at *
  clear r hy d1 d2
  grobner
 ·show _ = (1:Go.Fp.Fe)
  refine F.cancel hz ?_
  generalize q.y = w at *
  clear r hx d1 d2
  grobner
def Qr4 (a:Jac):Bool:=Nat.beq (a.x % Go.Fp.P) 0 && Nat.beq (a.y % Go.Fp.P) (a.z % Go.Fp.P)
theorem Qyo:Qr4 (Qtw Qrt 253 ell) = true:=by decide +kernel
theorem Qoi:Y2 ell Uj = Bx:=by
 have h:=Qyo
 simp only [Qr4,Yf] at h
 exact Qxy (Qkk.mul (f:=253) (k:=ell) (by decide +kernel)) (Nat.eq_of_beq_eq_true h.1) (Nat.eq_of_beq_eq_true h.2)
theorem Z7 {α:Type} {x y:Option α}:D6 (.bool true) true x y = x:=Eq.trans rfl rfl
theorem Jb {α:Type} {x y:Option α}:D6 (.bool false) false x y = x:=Eq.trans rfl rfl
theorem Z9 {α:Type} {x y:Option α}:D6 (.bool true) false x y = y:=Eq.trans rfl rfl
theorem Ja {α:Type} {x y:Option α}:D6 (.bool false) true x y = y:=Eq.trans rfl rfl
theorem Zx {t:Nat} {v:Value} {l:Env}:Qxw t (some v) l = (t,v) :: l:=Eq.trans rfl rfl
theorem Zu {α:Type} {v:α} {y:Option α}:Qdp (some v) y = some v:=Eq.trans rfl rfl
theorem Qew {T:Tab} {b:Nat} {q:Bool}:∀ (o1 o2:List AOper) (s:St),steps T b q (o1 ++ o2) s = (steps T b q o1 s).bind (steps T b q o2)
 | [],o2,s => rfl
 | o :: o1,o2,s => by
  rw [Zb]
  unfold steps
  cases hg:guardOf s.env o.guard with
  | none => rfl
  | some g =>
   cases g with
   | true =>
    simp only
    cases hx:Yq T o.op s.env s.h with
    | none => rfl
    | some x =>
     simp only [Ql]
     split
     ·rfl
     ·exact Qew o1 o2 _
   | false => exact Qew o1 o2 _
theorem Zv {T:Tab} {b:Nat} {q:Bool} {a1 a2 a3 a4 a5 a6 a7:AOper} {r:List AOper} {s:St}:steps T b q (a1 :: a2 :: a3 :: a4 :: a5 :: a6 :: a7 :: r) s = (steps T b q [a1,a2,a3,a4,a5,a6] s).bind fun s' => steps T b q (a7 :: r) s':=by
 rw [← Qew]; rfl
theorem Qrg {a:Go.Fp.Fe} (h0:a ≠ 0):(-a).val % 2 ≠ a.val % 2:=by
 have hlt:=a.isLt
 have hne:a.val ≠ 0:=fun h => h0 (Fin.ext h)
 have h1:(-a).val = (Go.Fp.P - a.val) % Go.Fp.P:=rfl
 have h2:(Go.Fp.P - a.val) < Go.Fp.P:=by omega
 rw [h1,Z2 h2]
 have hP:Go.Fp.P % 2 = 1:=by rw [Go.Fp.Qbn]
 omega
theorem Q38 {a b:Go.Fp.Fe} (h:a * a = b * b):a = b ∨ a = -b:=by
 have F:=Go.Fp.fld
 have:(a - b) * (a + b) = 0:=by grobner
 rcases F.dom this with h1 | h1
 ·left; clear h this; grobner
 ·right; clear h this; grobner
theorem Q6n (dd z:Go.Fp.Fe) (hz:z = 0):dd * (z * z) + 1 = 1:=by grobner
theorem Qyt (y:Go.Fp.Fe):Go.Fp.d * (y * y) + 1 ≠ 0:=fun h => by
 have F:=Go.Fp.fld
 have hy:y ≠ 0:=by
  intro h0
  rw [Q6n _ _ h0] at h
  exact Go.Fp.Dh h
 have hi:=Go.Fp.D4 hy
 have hr:=Go.Fp.Qpi
 apply Go.Fp.nosq (Go.Fp.i * Go.Fp.iv y)
 generalize Go.Fp.d = dd at *
 generalize Go.Fp.i = ii at *
 generalize Go.Fp.iv y = w at *
 clear F hy
 have e1:dd * (y * w) * (y * w) + w * w = 0:=by
  have:dd * (y * w) * (y * w) + w * w = (dd * (y * y) + 1) * (w * w):=by clear h hi hr; grobner
  rw [this,h]; clear this h hi hr; grobner
 rw [hi] at e1
 have e2:ii * w * (ii * w) = (ii * ii) * (w * w):=by clear h hi hr e1; grobner
 rw [e2,hr]
 clear h hi hr e2
 grobner
theorem Q4n (p:Go.Cv.Pt Go.Fp.P Go.Fp.d):(Go.Fp.d * (p.y * p.y) + 1) * (p.x * p.x) = p.y * p.y - 1:=by
 have h:=p.on
 unfold Go.Cv.On at h
 generalize Go.Fp.d = dd at *
 generalize p.x = x at *
 generalize p.y = y at *
 grobner
theorem Qyn {p q:Go.Cv.Pt Go.Fp.P Go.Fp.d} (h:Qga p = Qga q):p = q:=by
 unfold Qga at h
 have h1:=Qcu p.y
 have h2:=Qcu q.y
 have h3:=Js p.x.val (by decide:0 < 2)
 have h4:=Js q.x.val (by decide:0 < 2)
 have hy:p.y.val = q.y.val:=by omega
 have hx:p.x.val % 2 = q.x.val % 2:=by omega
 have hy':p.y = q.y:=Fin.ext hy
 have e1:=Q4n p
 have e2:=Q4n q
 rw [hy',← e2] at e1
 have e3:=Go.Fp.fld.cancel (Qyt q.y) e1
 refine Go.Cv.Pt.ext ?_ hy'
 rcases Q38 e3 with h | h
 ·exact h
 ·by_cases h0:q.x = 0
  ·rw [h,h0]; grobner
  ·exfalso
   have:=Qrg h0
   rw [← h] at this
   exact this hx
theorem Qr1 (p q:Go.Cv.Pt Go.Fp.P Go.Fp.d):(enc p == enc q) = decide (p = q):=by
 unfold enc
 rw [key_inj (Ql0 p) (Ql0 q)]
 by_cases h:p = q
 ·subst h; rw [decide_eq_true rfl,decide_eq_true rfl]
 ·rw [decide_eq_false h,decide_eq_false (fun e => h (Qyn e))]
theorem Q7e {a b:List Nat} {p q:Go.Cv.Pt Go.Fp.P Go.Fp.d} (ha:RepL a p) (hb:RepL b q):fillL (Qa 40 (Value.int .u64 0)) [(0,20,eV a),(20,20,eV b)] = some (ns .u64 [a,b].flatten):=by
 obtain ⟨x1,y1,z1,t1,rfl,h1⟩:=ha
 obtain ⟨x2,y2,z2,t2,rfl,h2⟩:=hb
 obtain ⟨a0,a1,a2,a3,a4,rfl,-⟩:=h1.ex.five
 obtain ⟨b0,b1,b2,b3,b4,rfl,-⟩:=h1.ey.five
 obtain ⟨c0,c1,c2,c3,c4,rfl,-⟩:=h1.ez.five
 obtain ⟨d0,d1,d2,d3,d4,rfl,-⟩:=h1.et.five
 obtain ⟨e0,e1,e2,e3,e4,rfl,-⟩:=h2.ex.five
 obtain ⟨f0,f1,f2,f3,f4,rfl,-⟩:=h2.ey.five
 obtain ⟨g0,g1,g2,g3,g4,rfl,-⟩:=h2.ez.five
 obtain ⟨i0,i1,i2,i3,i4,rfl,-⟩:=h2.et.five
 rfl
theorem Qb1 (p q:Go.Cv.Pt Go.Fp.P Go.Fp.d):Wy p q = Wy q p:=Go.Cv.add_comm Go.Fp.fld p q
theorem Qc3 (p q r:Go.Cv.Pt Go.Fp.P Go.Fp.d):Wy (Wy p q) r = Wy p (Wy q r):=Go.Cv.add_assoc Go.Fp.fld p q r
theorem Q16 {k:List Nat} (lk:k.length = 32) (xk:∀ x ∈ k,x < 256) {p:Go.Cv.Pt Go.Fp.P Go.Fp.d}:enc p = k ↔ Qga p = num 256 k:=by
 have h1:=num_lt xk
 rw [lk] at h1
 have h2:=Qad (by decide:0 < 256) xk
 rw [lk] at h2
 constructor
 ·intro h
  have:=Uz (B:=256) (by decide) 32 (Qga p)
  rw [Z2 (Ql0 p)] at this
  rw [← this,← h]; rfl
 ·intro h
  unfold enc
  rw [h,h2]
theorem Quf {p:Go.Cv.Pt Go.Fp.P Go.Fp.d} {V:Nat}:Qga p = V ↔ p.y.val = V % 2 ^ 255 ∧ p.x.val % 2 = V / 2 ^ 255:=by
 have h1:=Qcu p.y
 have h3:=Js p.x.val (by decide:0 < 2)
 unfold Qga
 constructor
 ·intro h; omega
 ·rintro ⟨h,h'⟩; rw [h,h',Vp,Nat.mod_add_div]
theorem Q4d {u v x y:Go.Fp.Fe} (hu:u = y * y - 1) (hv:v = Go.Fp.d * (y * y) + 1) (h:v * (x * x) = u):Go.Cv.On Go.Fp.d x y:=by
 unfold Go.Cv.On
 generalize Go.Fp.d = dd at *
 subst hu hv
 grobner
theorem Q1k {k:List Nat} (lk:k.length = 32) (xk:∀ x ∈ k,x < 256):∃ w,k[31]? = some w ∧ w < 256 ∧ w / 128 = num 256 k / 2 ^ 255 ∧ num 256 (k.set 31 (w &&& 127)) = num 256 k % 2 ^ 255 ∧ (∀ x ∈ k.set 31 (w &&& 127),x < 256) ∧ (k.set 31 (w &&& 127)).length = 32:=by
 obtain ⟨w,hw⟩:∃ w,k[31]? = some w:=⟨_,Qt (by omega)⟩
 have hw':w < 256:=xk w (Zs hw)
 have hV:=num_lt xk
 rw [lk] at hV
 have hg:=Dn (by decide:0 < 256) xk hw
 have hs:=Ro (B:=256) (w &&& 127) hw
 have ha:w &&& 127 = w % 128:=Re w 7
 refine ⟨w,hw,hw',?_⟩
 rw [ha] at hs ⊢
 have e31:(256:Nat) ^ 31 = 452312848583266388373324160190187140051835877600158453279131187530910662656:=by decide
 have e32:(256:Nat) ^ 32 = 115792089237316195423570985008687907853269984665640564039457584007913129639936:=by decide
 have e255:(2:Nat) ^ 255 = 57896044618658097711785492504343953926634992332820282019728792003956564819968:=by decide
 rw [e31] at hg hs
 rw [e32] at hV
 rw [e255]
 refine ⟨by omega,by omega,?_,by rw [Jt]; exact lk⟩
 intro x hx
 rcases Qbo hx with h | h
 ·exact xk x h
 ·omega
def Quh (l:List Nat) (c:Int):Value := .tuple #[eV l,.int .i64 c]
theorem Qom {k:List Nat} (lk:k.length = 32) (xk:∀ x ∈ k,x < 256) :
  (∃ l p,Vs T 43 [.agg (u8s k).toArray] = some (Quh l 0) ∧ RepL l p ∧ enc p = k) ∨ (∃ l,Vs T 43 [.agg (u8s k).toArray] = some (Quh l 60) ∧ l.length = 20 ∧ ∀ p,enc p ≠ k):=by
 obtain ⟨w,hw,hw',ht,hm,xm,lm⟩:=Q1k lk xk
 have hwc:=Uh hw
 have hset:=Gt k 31 (w &&& 127)
 have o1:Vf .and .u8 (w:Int) 127 = ((w &&& 127:Nat):Int):=Mx (k := .u8) (a:=w) (b:=127) rfl hw' (by decide)
 have hof:=Qtg lm xm
 have hcan:=Qor lm xm
 rw [hm] at hof hcan
 rw [Qcj] at hof
 have hkey:∀ p:Go.Cv.Pt Go.Fp.P Go.Fp.d,enc p = k ↔ p.y.val = num 256 k % 2 ^ 255 ∧ p.x.val % 2 = num 256 k / 2 ^ 255:=fun p => by rw [Q16 lk xk,Quf]
 rw [← ht] at hkey
 have Ey:=Qnq (V:=num 256 k % 2 ^ 255)
 have fy:fe (dig (2 ^ 51) 5 (num 256 k % 2 ^ 255)) = Go.Fp.fp (num 256 k % 2 ^ 255):=by unfold fe; rw [Qfb]
 generalize k.set 31 (w &&& 127) = km at *
 generalize dig (2 ^ 51) 5 (num 256 k % 2 ^ 255) = Y at *
 generalize num 256 k % 2 ^ 255 = V at *
 have hz20:∃ O,Qa 20 (Value.int .u64 0) = ns .u64 O ∧ O.length = 20 ∧ fillL (ns .u64 O) [] = some (ns .u64 O):=⟨Qa 20 0,rfl,rfl,rfl⟩
 obtain ⟨O,hz20,l0,hf0⟩:=hz20
 have l1:=Ey.len
 have hz5:Qa 5 (Value.int .u64 0) = ns .u64 [0,0,0,0,0]:=rfl
 have l5:([0,0,0,0,0]:List Nat).length = 5:=rfl
 have hbit:((((w / 128:Nat):Int)) == 1) = decide (w / 128 = 1):=by
  by_cases h:w / 128 = 1
  ·rw [h]; rfl
  ·have:¬ (((w / 128:Nat):Int) = 1):=by omega
   rw [decide_eq_false h,beq_eq_false_iff_ne.2 this]
 have hshr:((w:Int) / 128) = ((w / 128:Nat):Int):=rfl
 by_cases hV:V < Go.Fp.P
 ·rw [decide_eq_true hV] at hcan
  have hYv:(Go.Fp.fp V).val = V:=Z2 hV
  obtain ⟨one,hone⟩:∃ O:List Nat,O = [1,0,0,0,0]:=⟨_,rfl⟩
  have Eone:El one (2 ^ 52):=by rw [hone]; exact Qc5
  have vone:Vs T 37 [.int .u32 1] = some (eV one):=by rw [hone]; exact Qw2
  have fone:fe one = 1:=by rw [hone]; exact Qc4
  clear hone
  obtain ⟨yy,hyy,Eyy,fyy⟩:=Wr Ey Ey
  obtain ⟨D,hD,ED,fD⟩:=Qih
  obtain ⟨uu,huu,Euu,fuu⟩:=Qaj Eyy Eone
  obtain ⟨dy,hdy,Edy,fdy⟩:=Wr ED Eyy
  obtain ⟨vv,sv,hvv,Evv,fvv⟩:=Hj (H:=[⟨u8s km,true,true,true,1⟩,⟨ns .u64 O,true,true,true,1⟩,⟨ns .u64 Y,true,true,true,1⟩,⟨ns .u64 yy,true,true,true,1⟩,⟨ns .u64 (dy ++ one),true,true,true,1⟩]) (id:=4) Edy Eone rfl
  simp only [Zb,Q6] at hvv
  obtain ⟨r,ok,hr,Er,hok,hno⟩:=Q59 Euu Evv
  have hf2:=Mu Edy Eone
  have l6:=Eyy.len
  have l7:=Er.len
  have kz:=Qxz Er
  obtain ⟨nr,hnr,Enr,fnr⟩:=Qkd Er
  obtain ⟨t1,ht1,Et1,ft1⟩:=Wr Er Ey
  obtain ⟨t2,ht2,Et2,ft2⟩:=Wr Enr Ey
  have g1:=Qf1 Er Ey Eone Et1
  have g2:=Qf1 Enr Ey Eone Et2
  rw [hz20] at g1 g2
  have q1:=H9 Er Ey Eone Et1
  have q2:=H9 Enr Ey Eone Et2
  have l8:=Enr.len
  have hu:fe uu = Go.Fp.fp V * Go.Fp.fp V - 1:=by rw [fuu,fyy,fy,fone]
  have hv:fe vv = Go.Fp.d * (Go.Fp.fp V * Go.Fp.fp V) + 1:=by rw [fvv,fdy,fD,fyy,fy,fone]
  have hyp:∀ p:Go.Cv.Pt Go.Fp.P Go.Fp.d,enc p = k → p.y = Go.Fp.fp V:=fun p hp => Fin.ext (by rw [hYv]; exact ((hkey p).1 hp).1)
  have hxx:∀ p:Go.Cv.Pt Go.Fp.P Go.Fp.d,enc p = k → fe vv * (p.x * p.x) = fe uu:=fun p hp => by
   have:=Q4n p
   rw [hyp p hp] at this
   rw [hu,hv]; exact this
  have rft:∀ b:Bool,rf (Value.tuple #[eV r,.bool b]) = true:=fun b => Dl (a:=eV r) (b := .bool b) (V9 r) rfl
  cases ok with
  | false =>
   refine .inr ⟨O,?_,l0,fun p hp => hno rfl p.x (hxx p hp)⟩
   apply K8
   apply Jl
   rw [Jg (fn:=a31) rfl]
   simp only [a31,↓Zv,Jh,quiet,cF,↓pF,reduceCtorEq,Qd,Qp,Zo,Zj,Zq,Zi,Zg,Qk,Za,Qj,Q5,Ze,Zd,↓Zx,↓Zu,↓Z7,↓Jb,↓Z9,↓Ja,cL,Qo,Qn,Q2,Q1,Qy,Qr,Qq,Q0,Qe,Q8,Q9,Qz,Qi,Qh,Qg,Qx,Qw,Qv,Qm,Qf,cJ,cU,hz20,hf0,hz5,hwc,hset,o1,hof,hcan,hbit,hshr,vone,hyy,hD,huu,hdy,hf2,hvv,hr,Q7,X9,Xv,Ko,Yg,Kp,Kr,Zt,lk,lm,l0,l1,l5,l6,l7,Mh,Qmv,rft,V9]
   rfl
  | true =>
   obtain ⟨hroot,hev⟩:=hok rfl
   have hev':(fe r).val % 2 = 0:=by
    rcases hev with h | h
    ·exact h
    ·rw [h]; rfl
   by_cases hb:w / 128 = 1
   ·rw [decide_eq_true hb] at hbit
    by_cases h0:fe r = 0
    ·rw [decide_eq_true h0] at kz
     refine .inr ⟨O,?_,l0,fun p hp => ?_⟩
     ·apply K8
      apply Jl
      rw [Jg (fn:=a31) rfl]
      simp only [a31,↓Zv,Jh,quiet,cF,↓pF,reduceCtorEq,Qd,Qp,Zo,Zj,Zq,Zi,Zg,Qk,Za,Qj,Q5,Ze,Zd,↓Zx,↓Zu,↓Z7,↓Jb,↓Z9,↓Ja,cL,Qo,Qn,Q2,Q1,Qy,Qr,Qq,Q0,Qe,Q8,Q9,Qz,Qi,Qh,Qg,Qx,Qw,Qv,Qm,Qf,cJ,cU,hz20,hf0,hz5,hwc,hset,o1,hof,hcan,hbit,hshr,vone,hyy,hD,huu,hdy,hf2,hvv,hr,Q7,X9,Xv,Ko,Yg,Kp,Kr,Zt,lk,lm,l0,l1,l5,l6,l7,Mh,Qmv,rft,V9,kz]
      rfl
     ·have h2:=((hkey p).1 hp).2
      have h3:=hxx p hp
      rw [← hroot,h0] at h3
      have h4:p.x * p.x = 0 * 0:=Go.Fp.fld.cancel (by rw [hv]; exact Qyt _) h3
      rcases Q38 h4 with h5 | h5
      ·rw [h5,hb] at h2; exact absurd h2 (by decide)
      ·rw [h5,hb] at h2; exact absurd h2 (by decide)
    ·rw [decide_eq_false h0] at kz
     have hroot':fe vv * (-fe r * -fe r) = fe uu:=by rw [← hroot]; generalize fe r = a; generalize fe vv = b; grobner
     refine .inl ⟨pL nr Y one t2,⟨-fe r,Go.Fp.fp V,Q4d hu hv hroot'⟩,?_,⟨nr,Y,one,t2,rfl,Enr,Ey,Eone,Et2,by rw [fone]; exact Go.Fp.Dh,?_,?_,?_⟩,(hkey _).2 ⟨hYv,?_⟩⟩
     ·generalize pL nr Y one t2 = L at *
      apply K8
      apply Jl
      rw [Jg (fn:=a31) rfl]
      simp only [a31,↓Zv,Jh,quiet,cF,↓pF,reduceCtorEq,Qd,Qp,Zo,Zj,Zq,Zi,Zg,Qk,Za,Qj,Q5,Ze,Zd,↓Zx,↓Zu,↓Z7,↓Jb,↓Z9,↓Ja,cL,Qo,Qn,Q2,Q1,Qy,Qr,Qq,Q0,Qe,Q8,Q9,Qz,Qi,Qh,Qg,Qx,Qw,Qv,Qm,Qf,cJ,cU,hz20,hf0,hz5,hwc,hset,o1,hof,hcan,hbit,hshr,vone,hyy,hD,huu,hdy,hf2,hvv,hr,Q7,X9,Xv,Ko,Yg,Kp,Kr,Zt,lk,lm,l0,l1,l5,l6,l7,Mh,Qmv,rft,V9,kz,hnr,ht2,g2,q2,l8]
      rfl
     ·rw [fnr,fone]; show -fe r = -fe r * 1; generalize fe r = a; grobner
     ·rw [fy,fone]; show Go.Fp.fp V = Go.Fp.fp V * 1; generalize Go.Fp.fp V = a; grobner
     ·rw [ft2,fnr,fy,fone]; show -fe r * Go.Fp.fp V = -fe r * Go.Fp.fp V * 1; generalize Go.Fp.fp V = a; generalize fe r = b; grobner
     ·have:=Qrg h0
      rw [hev'] at this
      show (-fe r).val % 2 = _
      rw [hb]; omega
   ·rw [decide_eq_false hb] at hbit
    refine .inl ⟨pL r Y one t1,⟨fe r,Go.Fp.fp V,Q4d hu hv hroot⟩,?_,⟨r,Y,one,t1,rfl,Er,Ey,Eone,Et1,by rw [fone]; exact Go.Fp.Dh,?_,?_,?_⟩,(hkey _).2 ⟨hYv,?_⟩⟩
    ·generalize pL r Y one t1 = L at *
     apply K8
     apply Jl
     rw [Jg (fn:=a31) rfl]
     simp only [a31,↓Zv,Jh,quiet,cF,↓pF,reduceCtorEq,Qd,Qp,Zo,Zj,Zq,Zi,Zg,Qk,Za,Qj,Q5,Ze,Zd,↓Zx,↓Zu,↓Z7,↓Jb,↓Z9,↓Ja,cL,Qo,Qn,Q2,Q1,Qy,Qr,Qq,Q0,Qe,Q8,Q9,Qz,Qi,Qh,Qg,Qx,Qw,Qv,Qm,Qf,cJ,cU,hz20,hf0,hz5,hwc,hset,o1,hof,hcan,hbit,hshr,vone,hyy,hD,huu,hdy,hf2,hvv,hr,Q7,X9,Xv,Ko,Yg,Kp,Kr,Zt,lk,lm,l0,l1,l5,l6,l7,Mh,Qmv,rft,V9,ht1,g1,q1]
     rfl
    ·rw [fone]; show fe r = fe r * 1; generalize fe r = a; grobner
    ·rw [fy,fone]; show Go.Fp.fp V = Go.Fp.fp V * 1; generalize Go.Fp.fp V = a; grobner
    ·rw [ft1,fy,fone]; show fe r * Go.Fp.fp V = fe r * Go.Fp.fp V * 1; generalize Go.Fp.fp V = a; generalize fe r = b; grobner
    ·show (fe r).val % 2 = _
     rw [hev']; omega
 ·rw [decide_eq_false hV] at hcan
  refine .inr ⟨O,?_,l0,fun p hp => hV ?_⟩
  ·apply K8
   apply Jl
   rw [Jg (fn:=a31) rfl]
   simp only [a31,↓Zv,Jh,quiet,cF,↓pF,reduceCtorEq,Qd,Qp,Zo,Zj,Zq,Zi,Zg,Qk,Za,Qj,Q5,Ze,Zd,↓Zx,↓Zu,↓Z7,↓Jb,↓Z9,↓Ja,cL,Qo,Qn,Q2,Q1,Qy,Qr,Qq,Q0,Qe,Q8,Q9,Qz,Qi,Qh,Qg,Qx,Qw,Qv,Qm,Qf,cJ,cU,hz20,hf0,hz5,hwc,hset,o1,hof,hcan,hbit,hshr,Q7,X9,Xv,Ko,Yg,Kp,Kr,Zt,lk,lm,l0,l1,l5,V9]
   rfl
  ·rw [← ((hkey p).1 hp).1]; exact p.y.isLt
def pf (n:Nat) (L:List Nat) (i:Nat):List Nat:=L.take i ++ Qa (n - i) 0
theorem Qbz (n:Nat) (L:List Nat):pf n L 0 = Qa n 0:=by simp [pf]
theorem Qb0 {n:Nat} {L:List Nat} (h:L.length = n):pf n L n = L:=by simp [pf,← h]
theorem Qa4 {n:Nat} {L:List Nat} (h:L.length = n) {i:Nat} (hi:i ≤ n):(pf n L i).length = n:=by simp [pf]; omega
theorem Rl {n i x:Nat} {L:List Nat} (h:L.length = n) (hi:i < n) (hx:L[i]? = some x):(pf n L i).set i x = pf n L (i + 1):=by
 unfold pf
 rw [We _ _ (by simp; omega)]
 have e1:(L.take i).length = i:=by simp; omega
 rw [e1,Xa]
 have e2:n - i = (n - (i + 1)) + 1:=by omega
 rw [e2,Dg,Qjn,Y9,hx]
 simp
structure Nm (l:List Nat):Prop where
 len:l.length = 16
 lt:∀ x ∈ l,x < 65536
theorem Nm.num_lt {l:List Nat} (h:Nm l):num 65536 l < 2 ^ 256:=by
 have:=Go.Ev.num_lt h.lt
 rw [h.len] at this
 exact this
theorem Nm.dig (v:Nat):Nm (dig 65536 16 v):=⟨Vj _ _ _,fun x h => Gr (by decide) h⟩
theorem Nm.eq {l:List Nat} (h:Nm l):l = Go.Ev.dig 65536 16 (num 65536 l):=by
 have:=Qad (B:=65536) (by decide) h.lt
 rw [h.len] at this
 exact this.symm
theorem Nm.inj {l m:List Nat} (h:Nm l) (h':Nm m) (e:num 65536 l = num 65536 m):l = m:=by rw [h.eq,h'.eq,e]
def nf (l:List Nat):Go.Fp.Fe:=Go.Fp.fp (num 65536 l)
theorem wn {n:Nat} (h:n < 9223372036854775808):IntKind.i64.wrap (n:Int) = n:=Yp h
theorem Qsb {n:Nat} (h:n < 18446744073709551616):IntKind.u64.wrap (n:Int) = n:=by rw [Qrp,Z2 h]
theorem Qq1 {a b:Nat} (h:a + b < 18446744073709551616):IntKind.u64.wrap ((a:Int) + (b:Int)) = ((a + b:Nat):Int):=by rw [← Hd]; exact Qsb h
theorem Qkz {a b:Nat} (h:a * b < 18446744073709551616):IntKind.u64.wrap ((a:Int) * (b:Int)) = ((a * b:Nat):Int):=by rw [← B7]; exact Qsb h
theorem Ug {a b:Nat} (h:a + b < 9223372036854775808):IntKind.i64.wrap ((a:Int) + (b:Int)) = ((a + b:Nat):Int):=by rw [← Hd]; exact wn h
theorem Qeq {a b:Nat} (h:a * b < 9223372036854775808):IntKind.i64.wrap ((a:Int) * (b:Int)) = ((a * b:Nat):Int):=by rw [← B7]; exact wn h
def Ur (x r:Nat):Nat:=x / 2 ^ r + x * 2 ^ (64 - r) % 18446744073709551616
def sg0 (x:Nat):Nat:=Ur x 1 ^^^ Ur x 8 ^^^ (x / 2 ^ 7)
def sg1 (x:Nat):Nat:=Ur x 19 ^^^ Ur x 61 ^^^ (x / 2 ^ 6)
def Sg0 (x:Nat):Nat:=Ur x 28 ^^^ Ur x 34 ^^^ Ur x 39
def Sg1 (x:Nat):Nat:=Ur x 14 ^^^ Ur x 18 ^^^ Ur x 41
def chO (e f g:Nat):Nat:=(e &&& f) ^^^ ((18446744073709551615 ^^^ e) &&& g)
def maO (a b c:Nat):Nat:=(a &&& b) ^^^ (a &&& c) ^^^ (b &&& c)
def be (l:List Nat):Nat:=l.foldl (fun a x => a * 256 + x) 0
def Q35 (w:List Nat):Nat:=(w.getD (w.length - 16) 0 + w.getD (w.length - 7) 0 + sg0 (w.getD (w.length - 15) 0) + sg1 (w.getD (w.length - 2) 0)) % 18446744073709551616
def Qav:Nat → List Nat → List Nat
 | 0,l => l
 | n + 1,l => Qav n l ++ [Q35 (Qav n l)]
def Qjp (b:List Nat):List Nat:=(Wu 16).map fun i => be ((b.drop (8 * i)).take 8)
def U0 (b:List Nat):List Nat:=Qav 64 (Qjp b)
def Rd:List Nat:=[4794697086780616226,8158064640168781261,13096744586834688815,16840607885511220156,4131703408338449720,6480981068601479193,10538285296894168987,12329834152419229976,15566598209576043074,1334009975649890238,2608012711638119052,6128411473006802146,8268148722764581231,9286055187155687089,11230858885718282805,13951009754708518548,16472876342353939154,17275323862435702243,1135362057144423861,2597628984639134821,3308224258029322869,5365058923640841347,6679025012923562964,8573033837759648693,10970295158949994411,12119686244451234320,12683024718118986047,13788192230050041572,14330467153632333762,15395433587784984357,489312712824947311,1452737877330783856,2861767655752347644,3322285676063803686,5560940570517711597,5996557281743188959,7280758554555802590,8532644243296465576,9350256976987008742,10552545826968843579,11727347734174303076,12113106623233404929,14000437183269869457,14369950271660146224,15101387698204529176,15463397548674623760,17586052441742319658,1182934255886127544,1847814050463011016,2177327727835720531,2830643537854262169,3796741975233480872,4115178125766777443,5681478168544905931,6601373596472566643,7507060721942968483,8399075790359081724,8693463985226723168,9568029438360202098,10144078919501101548,10430055236837252648,11840083180663258601,13761210420658862357,14299343276471374635,14566680578165727644,15097957966210449927,16922976911328602910,17689382322260857208,500013540394364858,748580250866718886,1242879168328830382,1977374033974150939,2944078676154940804,3659926193048069267,4368137639120453308,4836135668995329356,5532061633213252278,6448918945643986474,6902733635092675308,7801388544844847127]
def t1O (s:List Nat) (k w:Nat):Nat:=(s.getD 7 0 + Sg1 (s.getD 4 0) + chO (s.getD 4 0) (s.getD 5 0) (s.getD 6 0) + k + w) % 18446744073709551616
def t2O (s:List Nat):Nat:=(Sg0 (s.getD 0 0) + maO (s.getD 0 0) (s.getD 1 0) (s.getD 2 0)) % 18446744073709551616
def rnd (s:List Nat) (k w:Nat):List Nat:=[(t1O s k w + t2O s) % 18446744073709551616,s.getD 0 0,s.getD 1 0,s.getD 2 0,(s.getD 3 0 + t1O s k w) % 18446744073709551616,s.getD 4 0,s.getD 5 0,s.getD 6 0]
def Qf7:Nat → List Nat → List Nat → List Nat
 | 0,_,s => s
 | n + 1,w,s => rnd (Qf7 n w s) (Rd.getD n 0) (w.getD n 0)
def blk (s b:List Nat):List Nat:=Gb (fun x y => (x + y) % 18446744073709551616) s (Qf7 80 (U0 b) s)
def Qcq:List Nat:=[7640891576956012808,13503953896175478587,4354685564936845355,11912009170470909681,5840696475078001361,11170449401992604703,2270897969802886507,6620516959819538809]
def stK:Nat → List Nat → List Nat
 | 0,_ => Qcq
 | n + 1,b => blk (stK n b) ((b.drop (128 * n)).take 128)
def Mm (n:Nat):Nat:=(239 - n % 128) % 128
def Qe2 (n:Nat):List Nat:=128 :: (Qa (Mm n) 0 ++ ((Wu 16).map fun i => 8 * n / 256 ^ (15 - i) % 256))
def sha (b:List Nat):List Nat:=(Wu 64).map fun i => (stK ((b ++ Qe2 b.length).length / 128) (b ++ Qe2 b.length)).getD (i / 8) 0 / 256 ^ (7 - i % 8) % 256
theorem Qbc:Rd.length = 80:=rfl
theorem Dk {x r:Nat} (hx:x < 18446744073709551616) (hr:0 < r) (hr':r ≤ 63):Ur x r < 18446744073709551616:=by
 unfold Ur
 have e:(18446744073709551616:Nat) = 2 ^ r * 2 ^ (64 - r):=by rw [← Wl,show r + (64 - r) = 64 by omega]
 have h1:x / 2 ^ r < 2 ^ (64 - r):=Hu (by rw [← e]; exact hx)
 have h2:x * 2 ^ (64 - r) % 18446744073709551616 = (x % 2 ^ r) * 2 ^ (64 - r):=by rw [e,M6]
 rw [h2]
 have h3:x % 2 ^ r + 1 ≤ 2 ^ r:=Js _ (Wx (by decide))
 have h4:=Uo (2 ^ (64 - r)) h3
 rw [← e,Vo,Uw] at h4
 omega
theorem Qz1 {x r:Nat} (hx:x < 18446744073709551616) (hr:0 < r) (hr':r ≤ 63):(x * 2 ^ (64 - r) % 18446744073709551616) ||| (x / 2 ^ r) = Ur x r:=by
 have e:(18446744073709551616:Nat) = 2 ^ r * 2 ^ (64 - r):=by rw [← Wl,show r + (64 - r) = 64 by omega]
 have h1:x / 2 ^ r < 2 ^ (64 - r):=Hu (by rw [← e]; exact hx)
 have h2:x * 2 ^ (64 - r) % 18446744073709551616 = (x % 2 ^ r) * 2 ^ (64 - r):=by rw [e,M6]
 unfold Ur
 rw [h2,Da h1,Br]
theorem Qcr {x r:Nat} (hx:x < 18446744073709551616) (hr:0 < r) (hr':r ≤ 63):Vs T 102 [.int .u64 x,.int .i64 (-(r:Int))] = some (.int .u64 (Ur x r:Nat)):=by
 have hw:IntKind.u64.wrap (-(r:Int)) = ((18446744073709551616 - r:Nat):Int):=by rw [Ta]; omega
 have hm:Vf .and .u64 ((18446744073709551616 - r:Nat):Int) 63 = ((64 - r:Nat):Int):=by
  have:=R3 .u64 rfl 6 (18446744073709551616 - r) (by decide)
  have e:((2 ^ 6 - 1:Nat):Int) = 63:=by decide
  rw [e] at this
  rw [this]
  have:(18446744073709551616 - r) % 2 ^ 6 = 64 - r:=by omega
  rw [this]
 have n1:(((64 - r:Nat):Int) < 0) = False:=eq_false (by omega)
 have h64:min (64 - r) IntKind.u64.bits = 64 - r:=Vz (by show 64 - r ≤ 64; omega)
 have hr64:min r IntKind.u64.bits = r:=Vz (by show r ≤ 64; omega)
 have hs1:IntKind.u64.wrap ((x:Int) * 2 ^ (64 - r)) = ((x * 2 ^ (64 - r) % 18446744073709551616:Nat):Int):=by
  rw [← Qrp,B7,Hb]; rfl
 have hsub:IntKind.u64.wrap (64 - ((64 - r:Nat):Int)) = (r:Int):=by rw [Ta]; omega
 have n2:((r:Int) < 0) = False:=eq_false (by omega)
 have hs2:(x:Int).fdiv (2 ^ r) = ((x / 2 ^ r:Nat):Int):=by
  rw [← Qfd,Hb]; rfl
 have hlt1:x * 2 ^ (64 - r) % 18446744073709551616 < 2 ^ IntKind.u64.bits:=Js _ (by decide)
 have hlt2:x / 2 ^ r < 2 ^ IntKind.u64.bits:=U3 (B6 _ _) hx
 have ho:Vf .or .u64 ((x * 2 ^ (64 - r) % 18446744073709551616:Nat):Int) ((x / 2 ^ r:Nat):Int) = ((Ur x r:Nat):Int):=by
  rw [Gy rfl hlt1 hlt2,Qz1 hx hr hr']
 generalize hq:64 - r = q at *
 generalize hu:18446744073709551616 - r = u at *
 apply K8
 apply Jl
 rw [Jg (fn:=Q3r) rfl]
 simp only [Q3r,↓Zv,Jh,quiet,cF,↓pF,reduceCtorEq,Qd,Qp,Zo,Zj,Zq,Zi,Zg,Qk,Za,Qj,Q5,Ze,Zd,↓J7,↓J6,↓Xr,↓Xu,↓Xs,↓Xt,cL,Qo,Qn,Q2,Q1,Qy,Qr,Qq,Q0,Qe,Q8,Q9,Qz,Qi,Qh,Qg,Qx,Qw,Qv,Qm,Qf,cJ,hw,hm,n1,h64,hs1,hsub,n2,hr64,hs2,ho,Z4]
 rfl
theorem Qtv:fillL (Qa 80 (Value.int .u64 0)) [(0,1,.int .u64 4794697086780616226),(1,1,.int .u64 8158064640168781261),(2,1,.int .u64 13096744586834688815),(3,1,.int .u64 16840607885511220156),(4,1,.int .u64 4131703408338449720),(5,1,.int .u64 6480981068601479193),(6,1,.int .u64 10538285296894168987),(7,1,.int .u64 12329834152419229976),(8,1,.int .u64 15566598209576043074),(9,1,.int .u64 1334009975649890238),(10,1,.int .u64 2608012711638119052),(11,1,.int .u64 6128411473006802146),(12,1,.int .u64 8268148722764581231),(13,1,.int .u64 9286055187155687089),(14,1,.int .u64 11230858885718282805),(15,1,.int .u64 13951009754708518548),(16,1,.int .u64 16472876342353939154),(17,1,.int .u64 17275323862435702243),(18,1,.int .u64 1135362057144423861),(19,1,.int .u64 2597628984639134821),(20,1,.int .u64 3308224258029322869),(21,1,.int .u64 5365058923640841347),(22,1,.int .u64 6679025012923562964),(23,1,.int .u64 8573033837759648693),(24,1,.int .u64 10970295158949994411),(25,1,.int .u64 12119686244451234320),(26,1,.int .u64 12683024718118986047),(27,1,.int .u64 13788192230050041572),(28,1,.int .u64 14330467153632333762),(29,1,.int .u64 15395433587784984357),(30,1,.int .u64 489312712824947311),(31,1,.int .u64 1452737877330783856),(32,1,.int .u64 2861767655752347644),(33,1,.int .u64 3322285676063803686),(34,1,.int .u64 5560940570517711597),(35,1,.int .u64 5996557281743188959),(36,1,.int .u64 7280758554555802590),(37,1,.int .u64 8532644243296465576),(38,1,.int .u64 9350256976987008742),(39,1,.int .u64 10552545826968843579),(40,1,.int .u64 11727347734174303076),(41,1,.int .u64 12113106623233404929),(42,1,.int .u64 14000437183269869457),(43,1,.int .u64 14369950271660146224),(44,1,.int .u64 15101387698204529176),(45,1,.int .u64 15463397548674623760),(46,1,.int .u64 17586052441742319658),(47,1,.int .u64 1182934255886127544),(48,1,.int .u64 1847814050463011016),(49,1,.int .u64 2177327727835720531),(50,1,.int .u64 2830643537854262169),(51,1,.int .u64 3796741975233480872),(52,1,.int .u64 4115178125766777443),(53,1,.int .u64 5681478168544905931),(54,1,.int .u64 6601373596472566643),(55,1,.int .u64 7507060721942968483),(56,1,.int .u64 8399075790359081724),(57,1,.int .u64 8693463985226723168),(58,1,.int .u64 9568029438360202098),(59,1,.int .u64 10144078919501101548),(60,1,.int .u64 10430055236837252648),(61,1,.int .u64 11840083180663258601),(62,1,.int .u64 13761210420658862357),(63,1,.int .u64 14299343276471374635),(64,1,.int .u64 14566680578165727644),(65,1,.int .u64 15097957966210449927),(66,1,.int .u64 16922976911328602910),(67,1,.int .u64 17689382322260857208),(68,1,.int .u64 500013540394364858),(69,1,.int .u64 748580250866718886),(70,1,.int .u64 1242879168328830382),(71,1,.int .u64 1977374033974150939),(72,1,.int .u64 2944078676154940804),(73,1,.int .u64 3659926193048069267),(74,1,.int .u64 4368137639120453308),(75,1,.int .u64 4836135668995329356),(76,1,.int .u64 5532061633213252278),(77,1,.int .u64 6448918945643986474),(78,1,.int .u64 6902733635092675308),(79,1,.int .u64 7801388544844847127)] = some (ns .u64 Rd):=rfl
theorem Qq3:Vs T 101 [] = some (eV Rd):=by
 have hf:=Qtv
 have lk:=Qbc
 generalize Rd = K at *
 apply K8
 apply Jl
 rw [Jg (fn:=Q3q) rfl]
 simp only [Q3q,Jh,quiet,cF,↓pF,reduceCtorEq,Qd,Qp,Zo,Zj,Zq,Zi,Zg,Qk,Za,Qj,Q5,Ze,Zd,↓J7,↓J6,↓Xr,↓Xu,↓Xs,↓Xt,cL,Qo,Qn,Q2,Q1,Qy,Qr,Qq,Q0,Qe,Q8,Q9,Qz,Qi,Qh,Qg,Qx,Qw,Qv,Qm,Qf,cJ,hf,Q7,X9,Xv,Ko,Yg,Kp,Kr,lk,V9]
 rfl
theorem Qbr (l:List Nat):∀ n,(Qav n l).length = l.length + n
 | 0 => rfl
 | n + 1 => by rw [Qav,Zc,Qbr l n]; rfl
theorem Qbs (l:List Nat) {n j:Nat} (hj:j < l.length + n):∀ m,n ≤ m → (Qav m l)[j]? = (Qav n l)[j]?
 | 0,h => by rw [show n = 0 by omega]
 | m + 1,h => by
  by_cases e:n = m + 1
  ·rw [e]
  ·rw [Qav,Qc (by rw [Qbr]; omega),Qbs l hj m (by omega)]
theorem Qer (b:List Nat):(Qjp b).length = 16:=by simp [Qjp]
theorem Qaw (b:List Nat):(U0 b).length = 80:=by rw [U0,Qbr,Qer]
theorem Qjr {b:List Nat} {i:Nat} (hi:i < 16):(U0 b)[i]? = some (be ((b.drop (8 * i)).take 8)):=by
 rw [U0,Qbs _ (n:=0) (by rw [Qer]; omega) 64 (by omega)]
 simp [Qav,Qjp,hi]
theorem Qjq {b:List Nat} {i:Nat} (hi:16 ≤ i) (hi':i < 80):(U0 b)[i]? = some (((U0 b).getD (i - 16) 0 + (U0 b).getD (i - 7) 0 + sg0 ((U0 b).getD (i - 15) 0) + sg1 ((U0 b).getD (i - 2) 0)) % 18446744073709551616):=by
 obtain ⟨n,rfl⟩:∃ n,i = 16 + n:=⟨i - 16,by omega⟩
 have hl:=Qer b
 have hn:=Qbr (Qjp b) n
 rw [hl] at hn
 have hg:∀ j,j < 16 + n → (U0 b).getD j 0 = (Qav n (Qjp b)).getD j 0:=fun j hj => by
  rw [Jf,Jf,U0,Qbs _ (n:=n) (by rw [hl]; omega) 64 (by omega)]
 rw [hg _ (by omega),hg _ (by omega),hg _ (by omega),hg _ (by omega)]
 rw [U0,Qbs _ (n:=n + 1) (by rw [hl]; omega) 64 (by omega),Qav,Q3 (by omega),hn,Xa]
 simp only [Q35,hn,Zk]
theorem Qr9 (l:List Nat) (x:Nat):be (l ++ [x]) = be l * 256 + x:=by simp [be]
theorem Qsa:∀ (n:Nat) (l:List Nat),l.length = n → (∀ x ∈ l,x < 256) → be l < 256 ^ n
 | 0,l,h,_ => by rw [Y0 h]; decide
 | n + 1,l,h,hx => by
  obtain ⟨m,x,rfl⟩:∃ m x,l = m ++ [x]:=⟨l.dropLast,l.getLast (by intro e; rw [e] at h; cases h),(List.dropLast_concat_getLast _).symm⟩
  rw [Zc] at h
  have h1:=Qsa n m (by simpa using h) (fun y hy => hx y (Qgh _ hy))
  have h2:=hx x (by simp)
  rw [Qr9,Vt]
  omega
theorem Qq0 {b:List Nat} (hb:∀ x ∈ b,x < 256) {i x:Nat} (hx:(U0 b)[i]? = some x):x < 18446744073709551616:=by
 have hi:i < 80:=by have:=(Qu.1 hx).1; rwa [Qaw] at this
 by_cases h:i < 16
 ·rw [Qjr h] at hx
  cases hx
  have hl:((b.drop (8 * i)).take 8).length ≤ 8:=by rw [Km]; omega
  have:=Qsa _ _ rfl (fun y hy => hb y (Yo (Vk hy)):∀ y ∈ (b.drop (8 * i)).take 8,y < 256)
  exact Xl this (Ve (n:=256) (by decide) hl)
 ·rw [Qjq (by omega) hi] at hx
  cases hx
  exact Js _ (by decide)
theorem Qa5 {n i j:Nat} {L:List Nat} (hj:j < i) (hi:i ≤ L.length):(pf n L i)[j]? = L[j]? := by
 unfold pf
 rw [Qc (by rw [Km]; omega),Vi,if_pos hj]
theorem Qv3 {l:List Nat} {i x:Nat} (h:l[i]? = some x):l.set i x = l:=by
 apply Wn
 intro k
 rw [Bm]
 by_cases c:i = k
 ·rw [if_pos c,← c,h,if_pos (Qu.1 h).1]
 ·rw [if_neg c]
theorem Qpm {n i:Nat} {L:List Nat} (hi:i < n) (hl:L.length = n):(pf n L i)[i]? = some 0:=by
 unfold pf
 rw [Q3 (by rw [Km]; omega),Km,Vz (by omega),Xa,List.getElem?_replicate,if_pos (by omega)]
theorem Qg2 (a b:Nat):IntKind.u64.wrap ((a:Int) + (b:Int)) = (((a + b) % 18446744073709551616:Nat):Int):=by rw [← Hd,Qrp]
theorem Mf {a b:Nat} (ha:a < 18446744073709551616) (hb:b < 18446744073709551616):Vf .xor .u64 (a:Int) (b:Int) = ((a ^^^ b:Nat):Int):=Qin rfl ha hb
theorem Qkx {a b:Nat} (ha:a < 18446744073709551616) (hb:b < 18446744073709551616):Vf .and .u64 (a:Int) (b:Int) = ((a &&& b:Nat):Int):=Mx rfl ha hb
theorem Hy {a b:Nat} (ha:a < 18446744073709551616) (hb:b < 18446744073709551616):a ^^^ b < 18446744073709551616:=Qap (n:=64) ha hb
theorem Dz {a b:Nat} (hb:b < 18446744073709551616):a &&& b < 18446744073709551616:=U4 (n:=64) a hb
theorem Qcp {x r:Nat} (hr:r ≤ 64):(x:Int).fdiv (2 ^ min r IntKind.u64.bits) = ((x / 2 ^ r:Nat):Int):=by
 rw [show min r IntKind.u64.bits = r from Vz hr,← Qfd,Hb]; rfl
theorem Qoj {x r:Nat} (hx:x < 18446744073709551616):x / 2 ^ r < 18446744073709551616:=U3 (B6 _ _) hx
structure BB (H:List Ob) (id off:Nat) (b:List Nat):Prop where
 ob:∃ all:List Nat,H[id]? = some ⟨u8s all,true,true,false,1⟩ ∧ ∀ i,i < b.length → all[off + i]? = b[i]?
 lt:∀ x ∈ b,x < 256
theorem BB.app {H l:List Ob} {id off:Nat} {b:List Nat} (h:BB H id off b):BB (H ++ l) id off b:=by
 obtain ⟨⟨all,h1,h2⟩,h3⟩:=h
 exact ⟨⟨all,by rw [Qc (Qu.1 h1).1]; exact h1,h2⟩,h3⟩
def w2I (H:List Ob) (P:Value) (id off cap:Nat) (w:List Nat) (i:Int) (o8 c8:Nat) (j:Int) (ex:Env):St:=⟨[(0,P),(1,.slice (some ⟨id,off,none⟩) 128 cap),(4,.pointer (some ⟨H.length,0,none⟩)),(5,.int .i64 i),(17,.int .i64 i),(28,.slice (some ⟨id,o8,none⟩) 8 c8),(29,.int .i64 8),(30,.int .i64 j)] ++ ex,H ++ [⟨ns .u64 w,true,true,true,1⟩],[]⟩
theorem Qu6 {H:List Ob} {P:Value} {id off cap c8 i:Nat} {b:List Nat} (hb:BB H id off b) (hl:b.length = 128) (hi:i < 16) :
  J9 T H.length (.block 2 (.loop Qef)) (w2I H P id off cap (pf 80 (U0 b) i) i (off + 8 * i) c8 0 []) = some (.normal,w2I H P id off cap (pf 80 (U0 b) (i + 1)) i (off + 8 * i) c8 8 [(31,.bool false)]):=by
 obtain ⟨⟨all,h1,h2⟩,h3⟩:=hb
 have hWl:=Qaw b
 have h8:((b.drop (8 * i)).take 8).length = 8:=by rw [Km,X7]; omega
 have hz:=Qpm (L:=U0 b) (by omega:i < 80) hWl
 have hpl:=Qa4 hWl (by omega:i ≤ 80)
 have Qx0:(pf 80 (U0 b) i).set i (be []) = pf 80 (U0 b) i:=Qv3 hz
 have hW:=Qjr (b:=b) hi
 have hstep:=Rl hWl (by omega:i < 80) hW
 have h:=Uk (T:=T) (base:=H.length) (id:=2) (body:=Qef) (fun j => w2I H P id off cap ((pf 80 (U0 b) i).set i (be (((b.drop (8 * i)).take 8).take j))) i (off + 8 * i) c8 j []) (s':=w2I H P id off cap (pf 80 (U0 b) (i + 1)) i (off + 8 * i) c8 8 [(31,.bool false)]) 8
  (fun j hj => by
   obtain ⟨x,hx⟩:∃ x,((b.drop (8 * i)).take 8)[j]? = some x:=⟨_,Qt (by omega)⟩
   have hxb:b[8 * i + j]? = some x:=by
    rw [Vi,if_pos hj,V4] at hx; exact hx
   have hx':=h3 x (Zs hxb)
   have hxa:(u8s all)[off + 8 * i + j]? = some (.int .u8 (x:Nat)):=Uh (by rw [show off + 8 * i + j = off + (8 * i + j) by omega,h2 _ (by omega)]; exact hxb)
   have hbel:=Qsa j (((b.drop (8 * i)).take 8).take j) (by rw [Km]; omega) (fun y hy => h3 y (Yo (Vk (Vk hy))))
   have hbes:be (((b.drop (8 * i)).take 8).take (j + 1)) = be (((b.drop (8 * i)).take 8).take j) * 256 + x:=by rw [Y9,hx]; exact Qr9 _ _
   rw [hbes]
   have h256:(256:Nat) ^ j ≤ 256 ^ 7:=Ve (by decide) (by omega)
   have e7:(256:Nat) ^ 7 = 72057594037927936:=by decide
   rw [e7] at h256
   generalize be (((b.drop (8 * i)).take 8).take j) = a at *
   have hg:((pf 80 (U0 b) i).set i a)[i]? = some a:=by rw [Jq (by rw [hpl]; omega)]
   have hgc:=Ut (k := .u64) hg
   have hss:=T8 .u64 ((pf 80 (U0 b) i).set i a) i (a * 256 + x)
   rw [Qem] at hss
   have hln:((pf 80 (U0 b) i).set i a).length = 80:=by rw [Jt]; exact hpl
   have w1:IntKind.i64.wrap ((j:Int) + 1) = ((j + 1:Nat):Int):=Ug (b:=1) (by omega)
   have w2:IntKind.u64.wrap (x:Int) = (x:Int):=Qsb (by omega)
   have w3:IntKind.u64.wrap ((a:Int) * 2 ^ min 8 IntKind.u64.bits) = ((a * 256:Nat):Int):=Qkz (b:=256) (by omega)
   have w4:Vf .or .u64 ((a * 256:Nat):Int) (x:Int) = ((a * 256 + x:Nat):Int):=by
    rw [Gy rfl (show a * 256 < 2 ^ 64 by omega) (show x < 2 ^ 64 by omega)]
    have:=Da (a:=x) (b:=a) (n:=8) (by omega)
    rw [show (2:Nat) ^ 8 = 256 from rfl] at this
    rw [this]
   have e1:((j:Int) < 8) = True:=eq_true (by omega)
   have e2:((i:Int) < 80) = True:=eq_true (by omega)
   have e4:(i ≤ 79) = True:=eq_true (by omega)
   have hl1:liveAt (H ++ [⟨ns .u64 ((pf 80 (U0 b) i).set i a),true,true,true,1⟩]) id = some ⟨u8s all,true,true,false,1⟩:=Ga (Vr h1 rfl)
   generalize (pf 80 (U0 b) i).set i a = O1 at *
   generalize (pf 80 (U0 b) i).set i (a * 256 + x) = O2 at *
   generalize hv:a * 256 + x = v at *
   generalize a * 256 = v2 at *
   simp only [liveAt] at hl1
   generalize hoo:off + 8 * i = oo at *
   have hget:(H ++ [⟨ns .u64 O1,true,true,true,1⟩])[id]? = some ⟨u8s all,true,true,false,1⟩:=by rw [Qc (Qu.1 h1).1]; exact h1
   simp only [w2I,Qef,Jh,quiet,cF,↓pF,reduceCtorEq,Qd,Qp,Zo,Zj,Zq,Zi,Zg,Qk,Za,Qj,Q5,Ze,Zd,↓J7,↓J6,↓Xr,↓Xu,↓Xs,↓Xt,cL,Qo,Qn,Q2,Q1,Qy,Qr,Qq,Q0,Qe,Q8,Q9,Qz,Qi,Qh,Qg,Qx,Qw,Qv,Qm,Qf,cJ,hget,hxa,hgc,w1,w2,w3,w4,e1,e2,e4,hss,Kr,hln])
  (by
   rw [Zh (by omega),hstep]
   simp only [w2I,Qef,Jh,quiet,cF,↓pF,reduceCtorEq,Qd,Qp,Zo,Zj,Zq,Zi,Zg,Qk,Za,Qj,Q5,Ze,Zd,↓J7,↓J6,↓Xr,↓Xu,↓Xs,↓Xt,cL,Qo,Qn,Q2,Q1,Qy,Qr,Qq,Q0,Qe,Q8,Q9,Qz,Qi,Qh,Qg,Qx,Qw,Qv,Qm,Qf,cJ])
 rw [Za,Qx0] at h
 exact h
end Go.Ev.Ytpgphpkjlpkcbaa
set_option linter.unusedSimpArgs false
set_option linter.unusedVariables false
namespace Go.Ev.Ytpgphpkjlpkcbaa
open Go Go.Ev
attribute [local congr] Wq W3 Wp W4 Wg
set_option maxRecDepth 100000
theorem Bb {k:IntKind} {n y d:Nat} (h:n ≤ y):Ge (some (.int k (n:Int))) y d = some n:=by
 have e:(0:Int) ≤ (n:Int) ∧ (n:Int) ≤ (y:Int):=⟨by omega,by omega⟩
 simp only [Ge,if_pos e,Z4]
def w3I (H:List Ob) (P:Value) (id off cap:Nat) (w:List Nat) (i:Int) (ex:Env):St:=⟨[(0,P),(1,.slice (some ⟨id,off,none⟩) 128 cap),(4,.pointer (some ⟨H.length,0,none⟩)),(17,.int .i64 i)] ++ ex,H ++ [⟨ns .u64 w,true,true,true,1⟩],[]⟩
theorem Q4o {H:List Ob} {P:Value} {id off cap i:Nat} {b:List Nat} (hb:BB H id off b) (hl:b.length = 128) (hc:128 ≤ cap) (hi:i < 16) :
  J9 T H.length Rx (w3I H P id off cap (pf 80 (U0 b) i) i []) = some (.normal,w3I H P id off cap (pf 80 (U0 b) (i + 1)) ((i + 1:Nat):Int) []):=by
 have h2:=Qu6 (P:=P) (cap:=cap) (c8:=cap - 8 * i) hb hl hi
 obtain ⟨⟨all,h1,-⟩,h3⟩:=hb
 simp only [w2I,Zb,Q6,Vm] at h2
 have e1:((i:Int) < 80) = True:=eq_true (by omega)
 have e2:((i:Int) < 16) = True:=eq_true (by omega)
 have w1:IntKind.i64.wrap (8 * (i:Int)) = ((8 * i:Nat):Int):=Qeq (a:=8) (by omega)
 have w2:IntKind.i64.wrap (((8 * i:Nat):Int) + 8) = ((8 * i + 8:Nat):Int):=Ug (b:=8) (by omega)
 have w3:IntKind.i64.wrap ((i:Int) + 1) = ((i + 1:Nat):Int):=Ug (b:=1) (by omega)
 have b1:Y5 128 cap (some (.int .i64 ((8 * i:Nat):Int))) (some (.int .i64 ((8 * i + 8:Nat):Int))) none = some (8 * i,8 * i + 8,cap):=by
  have n1:Ge (some (.int .i64 ((8 * i + 8:Nat):Int))) cap 128 = some (8 * i + 8):=Bb (by omega)
  have n2:Ge (some (.int .i64 ((8 * i:Nat):Int))) (8 * i + 8) 0 = some (8 * i):=Bb (by omega)
  rw [U8,n1,Ql,n2,Ql]
 have hs:8 * i + 8 - 8 * i = 8:=by omega
 have hget:∀ l:List Ob,(H ++ l)[id]? = some ⟨u8s all,true,true,false,1⟩:=fun l => by rw [Qc (Qu.1 h1).1]; exact h1
 generalize pf 80 (U0 b) i = O1 at *
 generalize pf 80 (U0 b) (i + 1) = O2 at *
 generalize hk8:8 * i + 8 = k8 at *
 generalize hk:8 * i = k at *
 generalize i + 1 = i1 at *
 simp only [w3I,Rx,Jh,quiet,cF,↓pF,reduceCtorEq,Qd,Qp,Zo,Zj,Zq,Zi,Zg,Qk,Za,Qj,Q5,Ze,Zd,↓J7,↓J6,↓Xr,↓Xu,↓Xs,↓Xt,cL,Qo,Qn,Q2,Q1,Qy,Qr,Qq,Q0,Qe,Q8,Q9,Qz,Qi,Qh,Qg,Qx,Qw,Qv,Qm,Qf,cJ,e1,e2,w1,w2,w3,b1,hs,hget,h2]
theorem U7 {l:List Nat} {i x:Nat} (h:l[i]? = some x):l.getD i 0 = x:=by rw [Jf,h]; rfl
theorem Qzj {H:List Ob} {P:Value} {id off cap i:Nat} {b:List Nat} (hb:∀ x ∈ b,x < 256) (hi:16 ≤ i) (hi':i < 80) :
  J9 T H.length Rx (w3I H P id off cap (pf 80 (U0 b) i) i []) = some (.normal,w3I H P id off cap (pf 80 (U0 b) (i + 1)) ((i + 1:Nat):Int) []):=by
 have hWl:=Qaw b
 have hW:=Qjq (b:=b) hi hi'
 have hstep:=Rl hWl hi' hW
 have hpl:=Qa4 hWl (Um hi')
 obtain ⟨x,hx⟩:∃ x,(U0 b)[i - 15]? = some x:=⟨_,Qt (by omega)⟩
 obtain ⟨y,hy⟩:∃ x,(U0 b)[i - 2]? = some x:=⟨_,Qt (by omega)⟩
 obtain ⟨u,hu⟩:∃ x,(U0 b)[i - 16]? = some x:=⟨_,Qt (by omega)⟩
 obtain ⟨v,hv⟩:∃ x,(U0 b)[i - 7]? = some x:=⟨_,Qt (by omega)⟩
 have lx:=Qq0 hb hx
 have ly:=Qq0 hb hy
 have cx:=Ut (k := .u64) ((Qa5 (n:=80) (by omega:i - 15 < i) (by omega)).trans hx)
 have cy:=Ut (k := .u64) ((Qa5 (n:=80) (by omega:i - 2 < i) (by omega)).trans hy)
 have cu:=Ut (k := .u64) ((Qa5 (n:=80) (by omega:i - 16 < i) (by omega)).trans hu)
 have cv:=Ut (k := .u64) ((Qa5 (n:=80) (by omega:i - 7 < i) (by omega)).trans hv)
 rw [U7 hx,U7 hy,U7 hu,U7 hv] at hstep
 have r1:Vs T 102 [.int .u64 x,.int .i64 (-1)] = some (.int .u64 (Ur x 1:Nat)):=Qcr (r:=1) lx (by decide) (by decide)
 have r8:Vs T 102 [.int .u64 x,.int .i64 (-8)] = some (.int .u64 (Ur x 8:Nat)):=Qcr (r:=8) lx (by decide) (by decide)
 have r19:Vs T 102 [.int .u64 y,.int .i64 (-19)] = some (.int .u64 (Ur y 19:Nat)):=Qcr (r:=19) ly (by decide) (by decide)
 have r61:Vs T 102 [.int .u64 y,.int .i64 (-61)] = some (.int .u64 (Ur y 61:Nat)):=Qcr (r:=61) ly (by decide) (by decide)
 have b1:=Dk (r:=1) lx (by decide) (by decide)
 have b8:=Dk (r:=8) lx (by decide) (by decide)
 have b19:=Dk (r:=19) ly (by decide) (by decide)
 have b61:=Dk (r:=61) ly (by decide) (by decide)
 have x1:=Mf b1 b8
 have x2:Vf .xor .u64 ((Ur x 1 ^^^ Ur x 8:Nat):Int) ((x / 2 ^ 7:Nat):Int) = ((sg0 x:Nat):Int):=Mf (Hy b1 b8) (Qoj lx)
 have y1:=Mf b19 b61
 have y2:Vf .xor .u64 ((Ur y 19 ^^^ Ur y 61:Nat):Int) ((y / 2 ^ 6:Nat):Int) = ((sg1 y:Nat):Int):=Mf (Hy b19 b61) (Qoj ly)
 have s7:(x:Int).fdiv (2 ^ min 7 IntKind.u64.bits) = ((x / 2 ^ 7:Nat):Int):=Qcp (by decide)
 have s6:(y:Int).fdiv (2 ^ min 6 IntKind.u64.bits) = ((y / 2 ^ 6:Nat):Int):=Qcp (by decide)
 have m1:=Qg2 u v
 have m2:=Qg2 ((u + v) % 18446744073709551616) (sg0 x)
 have m3:=Qg2 (((u + v) % 18446744073709551616 + sg0 x) % 18446744073709551616) (sg1 y)
 have hsum:(((u + v) % 18446744073709551616 + sg0 x) % 18446744073709551616 + sg1 y) % 18446744073709551616 = (u + v + sg0 x + sg1 y) % 18446744073709551616:=by omega
 rw [hsum] at m3
 have hset:=T8 .u64 (pf 80 (U0 b) i) i ((u + v + sg0 x + sg1 y) % 18446744073709551616)
 rw [hstep] at hset
 have e1:((i:Int) < 80) = True:=eq_true (by omega)
 have e2:((i:Int) < 16) = False:=eq_false (by omega)
 have i15:IntKind.i64.wrap ((i:Int) - 15) = ((i - 15:Nat):Int):=by rw [V6 (by omega) (by omega)]; omega
 have i2:IntKind.i64.wrap ((i:Int) - 2) = ((i - 2:Nat):Int):=by rw [V6 (by omega) (by omega)]; omega
 have i16:IntKind.i64.wrap ((i:Int) - 16) = ((i - 16:Nat):Int):=by rw [V6 (by omega) (by omega)]; omega
 have i7:IntKind.i64.wrap ((i:Int) - 7) = ((i - 7:Nat):Int):=by rw [V6 (by omega) (by omega)]; omega
 have j15:(((i - 15:Nat):Int) < 80) = True:=eq_true (by omega)
 have j2:(((i - 2:Nat):Int) < 80) = True:=eq_true (by omega)
 have j16:(((i - 16:Nat):Int) < 80) = True:=eq_true (by omega)
 have j7:(((i - 7:Nat):Int) < 80) = True:=eq_true (by omega)
 have w3:IntKind.i64.wrap ((i:Int) + 1) = ((i + 1:Nat):Int):=Ug (b:=1) (by omega)
 have e4:(i ≤ 79) = True:=eq_true (by omega)
 clear hsum hstep hW hx hy hu hv hWl
 generalize pf 80 (U0 b) i = O1 at *
 generalize pf 80 (U0 b) (i + 1) = O2 at *
 generalize (u + v + sg0 x + sg1 y) % 18446744073709551616 = z at *
 generalize ((u + v) % 18446744073709551616 + sg0 x) % 18446744073709551616 = z2 at *
 generalize (u + v) % 18446744073709551616 = z3 at *
 generalize sg0 x = gx at *
 generalize sg1 y = gy at *
 generalize Ur x 1 ^^^ Ur x 8 = xx at *
 generalize Ur y 19 ^^^ Ur y 61 = yy at *
 generalize Ur x 1 = x1v at *
 generalize Ur x 8 = x8v at *
 generalize Ur y 19 = y19v at *
 generalize Ur y 61 = y61v at *
 generalize x / 2 ^ 7 = x7v at *
 generalize y / 2 ^ 6 = y6v at *
 generalize i - 15 = k15 at *
 generalize i - 2 = k2 at *
 generalize i - 16 = k16 at *
 generalize i - 7 = k7 at *
 generalize i + 1 = i1 at *
 simp only [w3I,Rx,↓Zv,Jh,quiet,cF,↓pF,reduceCtorEq,Qd,Qp,Zo,Zj,Zq,Zi,Zg,Qk,Za,Qj,Q5,Ze,Zd,↓Zx,↓Zu,↓Z7,↓Jb,↓Z9,↓Ja,cL,Qo,Qn,Q2,Q1,Qy,Qr,Qq,Q0,Qe,Q8,Q9,Qz,Qi,Qh,Qg,Qx,Qw,Qv,Qm,Qf,cJ,e1,e2,e4,i15,i2,i16,i7,j15,j2,j16,j7,cx,cy,cu,cv,r1,r8,r19,r61,x1,x2,y1,y2,s7,s6,m1,m2,m3,hset,w3,Kr,hpl]
theorem Qu4 {H:List Ob} {P:Value} {id off cap:Nat} {b:List Nat} (hb:BB H id off b) (hl:b.length = 128) (hc:128 ≤ cap) :
  J9 T H.length (.block 0 (.loop Rx)) (w3I H P id off cap (Qa 80 0) 0 []) = some (.normal,w3I H P id off cap (U0 b) 80 [(18,.bool false)]):=by
 have hWl:=Qaw b
 have h:=Uk (T:=T) (base:=H.length) (id:=0) (body:=Rx) (fun i => w3I H P id off cap (pf 80 (U0 b) i) i []) (s':=w3I H P id off cap (U0 b) 80 [(18,.bool false)]) 80
  (fun i hi => by
   by_cases h:i < 16
   ·exact Q4o hb hl hc h
   ·exact Qzj hb.lt (by omega) hi)
  (by
   rw [Qb0 hWl]
   simp only [w3I,Rx,Jh,quiet,cF,↓pF,reduceCtorEq,Qd,Qp,Zo,Zj,Zq,Zi,Zg,Qk,Za,Qj,Q5,Ze,Zd,↓J7,↓J6,↓Xr,↓Xu,↓Xs,↓Xt,cL,Qo,Qn,Q2,Q1,Qy,Qr,Qq,Q0,Qe,Q8,Q9,Qz,Qi,Qh,Qg,Qx,Qw,Qv,Qm,Qf,cJ])
 rw [Qbz] at h
 exact h
theorem eight {l:List Nat} (h:l.length = 8):∃ a b c d e f g i,l = [a,b,c,d,e,f,g,i]:=by
 match l,h with
 | [a,b,c,d,e,f,g,i],_ => exact ⟨a,b,c,d,e,f,g,i,rfl⟩
theorem Qz2 (s:List Nat) (k w:Nat):(rnd s k w).length = 8:=rfl
theorem Qdn {s:List Nat} (hs:s.length = 8) (w:List Nat):∀ n,(Qf7 n w s).length = 8
 | 0 => hs
 | n + 1 => rfl
theorem Q6a {s:List Nat} (hs:s.length = 8) (hx:∀ x ∈ s,x < 18446744073709551616) (k w:Nat):∀ x ∈ rnd s k w,x < 18446744073709551616:=by
 obtain ⟨a,b,c,d,e,f,g,h,rfl⟩:=eight hs
 intro x hm
 have h1:∀ y z:Nat,(y + z) % 18446744073709551616 < 18446744073709551616:=fun _ _ => Js _ (by decide)
 simp only [rnd,Y6,Y7,or_false] at hm
 rcases hm with rfl | rfl | rfl | rfl | rfl | rfl | rfl | rfl
 ·exact h1 _ _
 ·exact hx _ (by simp)
 ·exact hx _ (by simp)
 ·exact hx _ (by simp)
 ·exact h1 _ _
 ·exact hx _ (by simp)
 ·exact hx _ (by simp)
 ·exact hx _ (by simp)
theorem Qra {s:List Nat} (hs:s.length = 8) (hx:∀ x ∈ s,x < 18446744073709551616) (w:List Nat):∀ n,∀ x ∈ Qf7 n w s,x < 18446744073709551616
 | 0 => hx
 | n + 1 => Q6a (Qdn hs w n) (Qra hs hx w n) _ _
theorem Q1l:∀ x ∈ Rd,x < 18446744073709551616:=by decide +kernel
theorem fill8 (a b c d e f g h:Nat):fillL (Qa 8 (Value.int .u64 0)) [(0,1,.int .u64 (a:Int)),(1,1,.int .u64 (b:Int)),(2,1,.int .u64 (c:Int)),(3,1,.int .u64 (d:Int)),(4,1,.int .u64 (e:Int)),(5,1,.int .u64 (f:Int)),(6,1,.int .u64 (g:Int)),(7,1,.int .u64 (h:Int))] = some (ns .u64 [a,b,c,d,e,f,g,h]):=rfl
def w1I (H:List Ob) (P:Value) (w s:List Nat) (i:Int) (ex:Env):St:=⟨[(0,P),(4,.pointer (some ⟨H.length,0,none⟩)),(10,.pointer (some ⟨H.length + 1,0,none⟩)),(86,eV Rd),(87,.int .i64 i)] ++ ex,H ++ [⟨ns .u64 w,true,true,true,1⟩,⟨ns .u64 s,true,true,true,1⟩],[]⟩
theorem Qzl {H:List Ob} {P:Value} {w s:List Nat} {i:Nat} (hw:w.length = 80) (hs:s.length = 8) (hx:∀ x ∈ s,x < 18446744073709551616) (hi:i < 80) :
  J9 T H.length Qcg (w1I H P w s i []) = some (.normal,w1I H P w (rnd s (Rd.getD i 0) (w.getD i 0)) ((i + 1:Nat):Int) []):=by
 obtain ⟨a,b,c,d,e,f,g,h,rfl⟩:=eight hs
 obtain ⟨k,hk⟩:∃ k,Rd[i]? = some k:=⟨_,Qt (by rw [Qbc]; exact hi)⟩
 obtain ⟨v,hv⟩:∃ k,w[i]? = some k:=⟨_,Qt (by omega)⟩
 rw [U7 hk,U7 hv]
 have kc:=Ut (k := .u64) hk
 have vc:=Ut (k := .u64) hv
 have la:=hx a (by simp)
 have lb:=hx b (by simp)
 have lc:=hx c (by simp)
 have le:=hx e (by simp)
 have lf:=hx f (by simp)
 have lg:=hx g (by simp)
 have r14:Vs T 102 [.int .u64 e,.int .i64 (-14)] = some (.int .u64 (Ur e 14:Nat)):=Qcr (r:=14) le (by decide) (by decide)
 have r18:Vs T 102 [.int .u64 e,.int .i64 (-18)] = some (.int .u64 (Ur e 18:Nat)):=Qcr (r:=18) le (by decide) (by decide)
 have r41:Vs T 102 [.int .u64 e,.int .i64 (-41)] = some (.int .u64 (Ur e 41:Nat)):=Qcr (r:=41) le (by decide) (by decide)
 have r28:Vs T 102 [.int .u64 a,.int .i64 (-28)] = some (.int .u64 (Ur a 28:Nat)):=Qcr (r:=28) la (by decide) (by decide)
 have r34:Vs T 102 [.int .u64 a,.int .i64 (-34)] = some (.int .u64 (Ur a 34:Nat)):=Qcr (r:=34) la (by decide) (by decide)
 have r39:Vs T 102 [.int .u64 a,.int .i64 (-39)] = some (.int .u64 (Ur a 39:Nat)):=Qcr (r:=39) la (by decide) (by decide)
 have b14:=Dk (r:=14) le (by decide) (by decide)
 have b18:=Dk (r:=18) le (by decide) (by decide)
 have b41:=Dk (r:=41) le (by decide) (by decide)
 have b28:=Dk (r:=28) la (by decide) (by decide)
 have b34:=Dk (r:=34) la (by decide) (by decide)
 have b39:=Dk (r:=39) la (by decide) (by decide)
 have x1:=Mf b14 b18
 have x2:Vf .xor .u64 ((Ur e 14 ^^^ Ur e 18:Nat):Int) ((Ur e 41:Nat):Int) = ((Sg1 e:Nat):Int):=Mf (Hy b14 b18) b41
 have x3:=Mf b28 b34
 have x4:Vf .xor .u64 ((Ur a 28 ^^^ Ur a 34:Nat):Int) ((Ur a 39:Nat):Int) = ((Sg0 a:Nat):Int):=Mf (Hy b28 b34) b39
 have a1:=Qkx le lf
 have a2:Vf .xor .u64 (if IntKind.u64.signed = true then -1 else IntKind.u64.max) (e:Int) = ((18446744073709551615 ^^^ e:Nat):Int):=Mf (a:=18446744073709551615) (by decide) le
 have lne:18446744073709551615 ^^^ e < 18446744073709551616:=Hy (by decide) le
 have a3:=Qkx lne lg
 have a4:Vf .xor .u64 ((e &&& f:Nat):Int) (((18446744073709551615 ^^^ e) &&& g:Nat):Int) = ((chO e f g:Nat):Int):=Mf (Dz lf) (Dz lg)
 have a5:=Qkx la lb
 have a6:=Qkx la lc
 have a7:=Qkx lb lc
 have a8:=Mf (a:=a &&& b) (b:=a &&& c) (Dz lb) (Dz lc)
 have a9:Vf .xor .u64 (((a &&& b) ^^^ (a &&& c):Nat):Int) ((b &&& c:Nat):Int) = ((maO a b c:Nat):Int):=Mf (Hy (Dz lb) (Dz lc)) (Dz lc)
 have m1:=Qg2 h (Sg1 e)
 have m2:=Qg2 ((h + Sg1 e) % 18446744073709551616) (chO e f g)
 have m3:=Qg2 (((h + Sg1 e) % 18446744073709551616 + chO e f g) % 18446744073709551616) k
 have m4:=Qg2 ((((h + Sg1 e) % 18446744073709551616 + chO e f g) % 18446744073709551616 + k) % 18446744073709551616) v
 have hT1:((((h + Sg1 e) % 18446744073709551616 + chO e f g) % 18446744073709551616 + k) % 18446744073709551616 + v) % 18446744073709551616 = t1O [a,b,c,d,e,f,g,h] k v:=by
  show _ = (h + Sg1 e + chO e f g + k + v) % 18446744073709551616
  omega
 rw [hT1] at m4
 have m5:IntKind.u64.wrap ((Sg0 a:Int) + (maO a b c:Int)) = ((t2O [a,b,c,d,e,f,g,h]:Nat):Int):=Qg2 (Sg0 a) (maO a b c)
 have m6:=Qg2 (t1O [a,b,c,d,e,f,g,h] k v) (t2O [a,b,c,d,e,f,g,h])
 have m7:=Qg2 d (t1O [a,b,c,d,e,f,g,h] k v)
 have hr:rnd [a,b,c,d,e,f,g,h] k v = [(t1O [a,b,c,d,e,f,g,h] k v + t2O [a,b,c,d,e,f,g,h]) % 18446744073709551616,a,b,c,(d + t1O [a,b,c,d,e,f,g,h] k v) % 18446744073709551616,e,f,g]:=rfl
 have hf:=fill8 ((t1O [a,b,c,d,e,f,g,h] k v + t2O [a,b,c,d,e,f,g,h]) % 18446744073709551616) a b c ((d + t1O [a,b,c,d,e,f,g,h] k v) % 18446744073709551616) e f g
 rw [← hr] at hf
 have lR:=Qz2 [a,b,c,d,e,f,g,h] k v
 have e1:((i:Int) < 80) = True:=eq_true (by omega)
 have w3:IntKind.i64.wrap ((i:Int) + 1) = ((i + 1:Nat):Int):=Ug (b:=1) (by omega)
 have vi:Qk3 none 80 1 (eV Rd) (.int .i64 (i:Int)) = some (.int .u64 (k:Nat)):=by
  unfold eV
  rw [Qcv]
  simp only [e1,Jh,quiet,cF,↓pF,reduceCtorEq,Qd,Qp,Zo,Zj,Zq,Zi,Zg,Qk,Za,Qj,Q5,Ze,Zd,↓J7,↓J6,↓Xr,↓Xu,↓Xs,↓Xt,cL,Qo,Qn,Q2,Q1,Qy,Qr,Qq,Q0,Qe,Q8,Q9,Qz,Qi,Qh,Qg,Qx,Qw,Qv,Qm,Qf,kc]
 have g0:(ns .u64 [a,b,c,d,e,f,g,h])[0]? = some (.int .u64 (a:Nat)):=rfl
 have g1:(ns .u64 [a,b,c,d,e,f,g,h])[1]? = some (.int .u64 (b:Nat)):=rfl
 have g2:(ns .u64 [a,b,c,d,e,f,g,h])[2]? = some (.int .u64 (c:Nat)):=rfl
 have g3:(ns .u64 [a,b,c,d,e,f,g,h])[3]? = some (.int .u64 (d:Nat)):=rfl
 have g4:(ns .u64 [a,b,c,d,e,f,g,h])[4]? = some (.int .u64 (e:Nat)):=rfl
 have g5:(ns .u64 [a,b,c,d,e,f,g,h])[5]? = some (.int .u64 (f:Nat)):=rfl
 have g6:(ns .u64 [a,b,c,d,e,f,g,h])[6]? = some (.int .u64 (g:Nat)):=rfl
 have g7:(ns .u64 [a,b,c,d,e,f,g,h])[7]? = some (.int .u64 (h:Nat)):=rfl
 have lS:(ns .u64 [a,b,c,d,e,f,g,h]).length = 8:=rfl
 clear hT1 hr hk hv kc hs hx
 generalize rnd [a,b,c,d,e,f,g,h] k v = R at *
 generalize (t1O [a,b,c,d,e,f,g,h] k v + t2O [a,b,c,d,e,f,g,h]) % 18446744073709551616 = z1 at *
 generalize (d + t1O [a,b,c,d,e,f,g,h] k v) % 18446744073709551616 = z2 at *
 generalize t1O [a,b,c,d,e,f,g,h] k v = t1 at *
 generalize t2O [a,b,c,d,e,f,g,h] = t2 at *
 generalize (((h + Sg1 e) % 18446744073709551616 + chO e f g) % 18446744073709551616 + k) % 18446744073709551616 = z3 at *
 generalize ((h + Sg1 e) % 18446744073709551616 + chO e f g) % 18446744073709551616 = z4 at *
 generalize (h + Sg1 e) % 18446744073709551616 = z5 at *
 generalize Sg1 e = se at *
 generalize Sg0 a = sa at *
 generalize chO e f g = cc at *
 generalize maO a b c = mm at *
 generalize (a &&& b) ^^^ (a &&& c) = q1 at *
 generalize (18446744073709551615 ^^^ e) &&& g = q2 at *
 generalize 18446744073709551615 ^^^ e = q3 at *
 generalize e &&& f = q4 at *
 generalize a &&& b = q5 at *
 generalize a &&& c = q6 at *
 generalize b &&& c = q7 at *
 generalize Ur e 14 ^^^ Ur e 18 = q8 at *
 generalize Ur a 28 ^^^ Ur a 34 = q9 at *
 generalize Ur e 14 = p1 at *
 generalize Ur e 18 = p2 at *
 generalize Ur e 41 = p3 at *
 generalize Ur a 28 = p4 at *
 generalize Ur a 34 = p5 at *
 generalize Ur a 39 = p6 at *
 generalize i + 1 = i1 at *
 generalize hS:ns .u64 [a,b,c,d,e,f,g,h] = S at *
 simp only [w1I,hS]
 generalize eV Rd = kt at *
 simp only [Qcg,↓Zv,Jh,quiet,cF,↓pF,reduceCtorEq,Qd,Qp,Zo,Zj,Zq,Zi,Zg,Qk,Za,Qj,Q5,Ze,Zd,↓Zx,↓Zu,↓Z7,↓Jb,↓Z9,↓Ja,cL,Qo,Qn,Q2,Q1,Qy,Qr,Qq,Q0,Qe,Q8,Q9,Qz,Qi,Qh,Qg,Qx,Qw,Qv,Qm,Qf,cJ,e1,vi,vc,r14,r18,r41,r28,r34,r39,x1,x2,x3,x4,a1,a2,a3,a4,a5,a6,a7,a8,a9,m1,m2,m3,m4,m5,m6,m7,hf,w3,g0,g1,g2,g3,g4,g5,g6,g7,lS,Kr,hw,lR,X9,Q7]
theorem Qu7 {H:List Ob} {P:Value} {w s:List Nat} (hw:w.length = 80) (hs:s.length = 8) (hx:∀ x ∈ s,x < 18446744073709551616) :
  J9 T H.length (.block 4 (.loop Qcg)) (w1I H P w s 0 []) = some (.normal,w1I H P w (Qf7 80 w s) 80 [(88,.bool false)]):=by
 have h:=Uk (T:=T) (base:=H.length) (id:=4) (body:=Qcg) (fun i => w1I H P w (Qf7 i w s) i []) (s':=w1I H P w (Qf7 80 w s) 80 [(88,.bool false)]) 80
  (fun i hi => Qzl hw (Qdn hs w i) (Qra hs hx w i) hi)
  (by
   generalize Qf7 80 w s = R
   simp only [w1I]
   generalize eV Rd = kt
   simp only [Qcg,Jh,quiet,cF,↓pF,reduceCtorEq,Qd,Qp,Zo,Zj,Zq,Zi,Zg,Qk,Za,Qj,Q5,Ze,Zd,↓J7,↓J6,↓Xr,↓Xu,↓Xs,↓Xt,cL,Qo,Qn,Q2,Q1,Qy,Qr,Qq,Q0,Qe,Q8,Q9,Qz,Qi,Qh,Qg,Qx,Qw,Qv,Qm,Qf,cJ])
 exact h
def hcl (rv:Value) (n:Nat) (st:List Nat):List Value:=rv :: .int .u64 (n:Nat) :: ns .u64 st
def hob (rv:Value) (n:Nat) (st:List Nat):Ob:=⟨hcl rv n st,true,true,true,1⟩
theorem Qb5 (rv:Value) (n:Nat) (st:List Nat):(hcl rv n st).length = 2 + st.length:=by simp [hcl,Kr]; omega
theorem Qrx {rv:Value} {n i x:Nat} {st:List Nat} (h:st[i]? = some x):(hcl rv n st)[2 + i]? = some (.int .u64 (x:Nat)):=by
 rw [Br]; exact Ut h
theorem Q1n (rv:Value) (n i x:Nat) (st:List Nat):(hcl rv n st).set (2 + i) (.int .u64 (x:Nat)) = hcl rv n (st.set i x):=by
 rw [Br]
 show rv :: .int .u64 (n:Nat) :: (ns .u64 st).set i _ = _
 rw [T8]; rfl
theorem Qkl {rv:Value} {n:Nat} {st:List Nat} (h:st.length = 8):Vw 8 (Wk 2 (hcl rv n st)) = ns .u64 st:=by
 show Vw 8 (ns .u64 st) = _
 rw [Zh (by rw [Kr]; omega)]
theorem Q2f {s b:List Nat} (hs:s.length = 8):(blk s b).length = 8:=by unfold blk; rw [Tv,Qdn hs,hs]; rfl
theorem Q7l {s b:List Nat}:∀ x ∈ blk s b,x < 18446744073709551616:=by
 intro x hx
 unfold blk at hx
 obtain ⟨i,hi⟩:=Up hx
 rw [M9] at hi
 split at hi
 ·cases hi; exact Js _ (by decide)
 ·cases hi
theorem Yz {b:Nat}:∀ {M L:List Nat} {i:Nat},i ∈ Jj b L M → i ∈ L ∨ i ∈ M
 | [],L,i,h => .inl h
 | m :: M,L,i,h => by
  simp only [Jj] at h
  split at h
  ·rcases Yz h with h1 | h1
   ·rcases Xg.1 h1 with h2 | h2
    ·exact .inl h2
    ·exact .inr (by rw [U5.1 h2]; exact List.mem_cons_self)
   ·exact .inr (Qgg _ h1)
  ·rcases Yz h with h1 | h1
   ·exact .inl h1
   ·exact .inr (Qgg _ h1)
def w0I (H:List Ob) (hid:Nat) (rv:Value) (n:Nat) (st:List Nat) (s L:List Nat) (ob1 ob2:Ob) (i:Int) (ex:Env):St:=⟨[(0,.pointer (some ⟨hid,0,none⟩)),(174,eV s),(175,.int .i64 i)] ++ ex,H.set hid (hob rv n st) ++ [ob1,ob2],L⟩
theorem Qu9 {H:List Ob} {hid n:Nat} {rv:Value} {st s:List Nat} {ob1 ob2:Ob} (hh:hid < H.length) (hs:s.length = 8) (hst:st.length = 8) :
  ∃ L,J9 T H.length (.block 6 (.loop Qeg)) (w0I H hid rv n st s [] ob1 ob2 0 []) = some (.normal,w0I H hid rv n (Gb (fun x y => (x + y) % 18446744073709551616) st s) s L ob1 ob2 8 [(176,.bool false)]) ∧ ∀ i ∈ L,i = hid:=by
 have hZ:(Gb (fun x y => (x + y) % 18446744073709551616) st s).length = 8:=by rw [Tv,hs,hst]; rfl
 obtain ⟨Z,hZd⟩:∃ Z,Z = Gb (fun x y => (x + y) % 18446744073709551616) st s:=⟨_,rfl⟩
 rw [← hZd] at hZ ⊢
 obtain ⟨st',hb,L,rfl,hL⟩:=Yv (T:=T) (base:=H.length) (id:=6) (body:=Qeg)
  (fun i x => ∃ L,x = w0I H hid rv n (Z.take i ++ st.drop i) s L ob1 ob2 i [] ∧ ∀ j ∈ L,j = hid)
  (Q:=fun x => ∃ L,x = w0I H hid rv n Z s L ob1 ob2 8 [(176,.bool false)] ∧ ∀ j ∈ L,j = hid)
  8 (s:=w0I H hid rv n st s [] ob1 ob2 0 []) ⟨[],rfl,by simp⟩
  (fun i x hi hx => by
   obtain ⟨L,rfl,hL⟩:=hx
   obtain ⟨u,hu⟩:∃ u,st[i]? = some u:=⟨_,Qt (by omega)⟩
   obtain ⟨v,hv⟩:∃ u,s[i]? = some u:=⟨_,Qt (by omega)⟩
   have hz:Z[i]? = some ((u + v) % 18446744073709551616):=by rw [hZd,M9,hu,hv]
   have hlt:(Z.take i).length = i:=by rw [Km]; omega
   have hg:(Z.take i ++ st.drop i)[i]? = some u:=by
    rw [Q3 (by omega),hlt,Xa,V4]; exact hu
   have hstep:(Z.take i ++ st.drop i).set i ((u + v) % 18446744073709551616) = Z.take (i + 1) ++ st.drop (i + 1):=by
    rw [We _ _ (by omega),hlt,Xa,Bt (i:=i),hu,Y9,hz]
    simp
   have hlen:(Z.take i ++ st.drop i).length = 8:=by rw [Zc,X7,hlt]; omega
   have gc:=Qrx (rv:=rv) (n:=n) hg
   have sc:=Q1n rv n i ((u + v) % 18446744073709551616) (Z.take i ++ st.drop i)
   rw [hstep] at sc
   have cl:=Qb5 rv n (Z.take i ++ st.drop i)
   rw [hlen] at cl
   have vc:=Ut (k := .u64) hv
   have vi:Qk3 none 8 1 (eV s) (.int .i64 (i:Int)) = some (.int .u64 (v:Nat)):=by
    have e1:((i:Int) < 8) = True:=eq_true (by omega)
    unfold eV
    rw [Qcv]
    simp only [e1,Jh,quiet,cF,↓pF,reduceCtorEq,Qd,Qp,Zo,Zj,Zq,Zi,Zg,Qk,Za,Qj,Q5,Ze,Zd,↓J7,↓J6,↓Xr,↓Xu,↓Xs,↓Xt,cL,Qo,Qn,Q2,Q1,Qy,Qr,Qq,Q0,Qe,Q8,Q9,Qz,Qi,Qh,Qg,Qx,Qw,Qv,Qm,Qf,vc]
   have m1:=Qg2 u v
   have e1:((i:Int) < 8) = True:=eq_true (by omega)
   have w3:IntKind.i64.wrap ((i:Int) + 1) = ((i + 1:Nat):Int):=Ug (b:=1) (by omega)
   have hget:∀ o:Ob,(H.set hid o ++ [ob1,ob2])[hid]? = some o:=fun o => by
    rw [Qc (by rw [Jt]; exact hh),Jq hh]
   have hset:∀ o o':Ob,(H.set hid o ++ [ob1,ob2]).set hid o' = H.set hid o' ++ [ob1,ob2]:=fun o o' => by
    rw [R6 _ _ (by rw [Jt]; exact hh),Qem]
   have e5:(2 + i + 1 ≤ 2 + 8) = True:=eq_true (by omega)
   refine ⟨w0I H hid rv n (Z.take (i + 1) ++ st.drop (i + 1)) s (Jj H.length L [hid]) ob1 ob2 ((i + 1:Nat):Int) [],?_,_,rfl,?_⟩
   ·generalize Z.take (i + 1) ++ st.drop (i + 1) = O2 at *
    generalize Z.take i ++ st.drop i = O1 at *
    generalize (u + v) % 18446744073709551616 = z at *
    simp only [w0I,hob]
    generalize hcl rv n O1 = C1 at *
    generalize hcl rv n O2 = C2 at *
    generalize eV s = sv at *
    generalize i + 1 = i1 at *
    simp only [Qeg,↓Zv,Jh,quiet,cF,↓pF,reduceCtorEq,Qd,Qp,Zo,Zj,Zq,Zi,Zg,Qk,Za,Qj,Q5,Ze,Zd,↓Zx,↓Zu,↓Z7,↓Jb,↓Z9,↓Ja,cL,Qo,Qn,Q2,Q1,Qy,Qr,Qq,Q0,Qe,Q8,Q9,Qz,Qi,Qh,Qg,Qx,Qw,Qv,Qm,Qf,cJ,e1,vi,m1,w3,gc,sc,cl,e5,hget,hset]
    done
   ·intro j hj
    rcases Yz hj with h | h
    ·exact hL j h
    ·simpa using h)
  (fun x hx => by
   obtain ⟨L,rfl,hL⟩:=hx
   rw [Zh (by omega),Yx (by omega),Xj]
   refine ⟨_,?_,L,rfl,hL⟩
   simp only [w0I,hob]
   generalize hcl rv n Z = C
   generalize eV s = sv
   simp only [Qeg,Jh,quiet,cF,↓pF,reduceCtorEq,Qd,Qp,Zo,Zj,Zq,Zi,Zg,Qk,Za,Qj,Q5,Ze,Zd,↓J7,↓J6,↓Xr,↓Xu,↓Xs,↓Xt,cL,Qo,Qn,Q2,Q1,Qy,Qr,Qq,Q0,Qe,Q8,Q9,Qz,Qi,Qh,Qg,Qx,Qw,Qv,Qm,Qf,cJ])
 exact ⟨L,hb,hL⟩
theorem Qj0 {α:Type} {l:List α} {i:Nat} {x:α} (h:l[i]? = some x):l.set i x = l:=by
 apply Wn
 intro k
 rw [Bm]
 by_cases c:i = k
 ·rw [if_pos c,← c,h,if_pos (Qu.1 h).1]
 ·rw [if_neg c]
def Qky:List Nat:=Qa 80 0
theorem Q4k:Qa 80 (Value.int .u64 0) = ns .u64 Qky:=rfl
theorem Qzg:Qky.length = 80:=rfl
def Quy:List Nat:=Qa 8 0
theorem z8_eq:Qa 8 (Value.int .u64 0) = ns .u64 Quy:=rfl
theorem Q4j:Quy.length = 8:=rfl
theorem Qy1 {H:List Ob} {hid id off cap n:Nat} {rv:Value} {st b:List Nat} (hh:H[hid]? = some (hob rv n st)) (hs:st.length = 8) (hx:∀ x ∈ st,x < 18446744073709551616) (hb:BB H id off b) (hl:b.length = 128) (hc:128 ≤ cap) :
  ∃ w s M,Vx T 99 [.pointer (some ⟨hid,0,none⟩),.slice (some ⟨id,off,none⟩) 128 cap] H = some (.tuple #[],H.set hid (hob rv n (blk st b)) ++ [w,s],M) ∧ ∀ i ∈ M,i = hid:=by
 have hlt:hid < H.length:=(Qu.1 hh).1
 have h3:=Qu4 (P := .pointer (some ⟨hid,0,none⟩)) (cap:=cap) hb hl hc
 have hWl:=Qaw b
 have h1:=Qu7 (H:=H) (P := .pointer (some ⟨hid,0,none⟩)) hWl hs hx
 have lr:=Qdn hs (U0 b) 80
 obtain ⟨L,h0,hL⟩:=Qu9 (H:=H) (hid:=hid) (n:=n) (rv:=rv) (ob1:=⟨ns .u64 (U0 b),true,true,true,1⟩) (ob2:=⟨ns .u64 (Qf7 80 (U0 b) st),true,true,true,1⟩) hlt lr hs
 rw [show Gb (fun x y => (x + y) % 18446744073709551616) st (Qf7 80 (U0 b) st) = blk st b from rfl] at h0
 have hss:H.set hid (hob rv n st) = H:=Qj0 hh
 refine ⟨⟨ns .u64 (U0 b),true,true,true,1⟩,⟨ns .u64 (Qf7 80 (U0 b) st),true,true,true,1⟩,L,?_,hL⟩
 simp only [w0I,hss,Zb,Q6,Vm] at h0
 have hz:=Q4k
 have lz:=Qzg
 have hz8:=z8_eq
 have lz8:=Q4j
 rw [show Qa 80 0 = Qky from rfl] at h3
 simp only [w3I,Zb,Q6,Vm] at h3
 simp only [w1I,Zb,Q6,Vm] at h1
 have ht:=Qq3
 have hcs:=Qkl (rv:=rv) (n:=n) hs
 have hcl8:2 + 8 ≤ (hcl rv n st).length:=by rw [Qb5]; omega
 have hget:∀ l:List Ob,(H ++ l)[hid]? = some ⟨hcl rv n st,true,true,true,1⟩:=fun l => by rw [Qc hlt]; exact hh
 have lk:=Qbc
 generalize H.set hid (hob rv n (blk st b)) = H' at *
 generalize U0 b = W at *
 generalize Qf7 80 W st = R at *
 generalize hcl rv n st = C at *
 generalize Qky = Z at *
 generalize Quy = Z8 at *
 generalize Rd = KT at *
 rw [Jg (fn:=Q3s) rfl]
 simp only [Q3s,↓Zv,Jh,quiet,cF,↓pF,reduceCtorEq,Qd,Qp,Zo,Zj,Zq,Zi,Zg,Qk,Za,Qj,Q5,Ze,Zd,↓Zx,↓Zu,↓Z7,↓Jb,↓Z9,↓Ja,cL,Qo,Qn,Q2,Q1,Qy,Qr,Qq,Q0,Qe,Q8,Q9,Qz,Qi,Qh,Qg,Qx,Qw,Qv,Qm,Qf,cJ,hz,hz8,h3,h1,h0,ht,hget,hcs,hcl8,Q7,X9,Xv,Ko,Yg,Kp,Kr,hWl,hs,lr,lz,lz8,lk,V9]
 rfl
inductive Rst (K:Nat → Prop) (H:List Ob):Value → List Nat → Prop
 | nil:Rst K H (.slice none 0 0) []
 | empty {id:Nat}:¬ K id → H[id]? = some ⟨[],true,true,true,1⟩ → Rst K H (.slice (some ⟨id,0,none⟩) 0 0) []
 | own {id off:Nat} {all l:List Nat}:¬ K id → H[id]? = some ⟨u8s all,true,true,false,1⟩ → off + l.length ≤ all.length → (∀ i,i < l.length → all[off + i]? = l[i]?) → Rst K H (.slice (some ⟨id,off,none⟩) l.length l.length) l
theorem Rst.app {K:Nat → Prop} {H m:List Ob} {v:Value} {l:List Nat} (h:Rst K H v l):Rst K (H ++ m) v l:=by
 cases h with
 | nil => exact .nil
 | empty h1 h2 => exact .empty h1 (by rw [Qc (Qu.1 h2).1]; exact h2)
 | own h1 h2 h4 h3 => exact .own h1 (by rw [Qc (Qu.1 h2).1]; exact h2) h4 h3
theorem Rst.setH {K:Nat → Prop} {H:List Ob} {v:Value} {l:List Nat} {hid n:Nat} {rv:Value} {st:List Nat} (h:Rst K H v l) (hh:H[hid]? = some (hob rv n st)) (o:Ob):Rst K (H.set hid o) v l:=by
 cases h with
 | nil => exact .nil
 | empty h1 h2 => exact .empty h1 (by
   rw [Z3]
   ·exact h2
   ·intro e; subst e
    have:=congrArg Ob.cells (B5 (hh.symm.trans h2))
    simp [hob,hcl] at this)
 | own h1 h2 h4 h3 => exact .own h1 (by
   rw [Z3]
   ·exact h2
   ·intro e; subst e
    have:=congrArg Ob.exact (B5 (hh.symm.trans h2))
    simp [hob] at this) h4 h3
theorem Qg7 {all l:List Nat} {off:Nat} (h:∀ i,i < l.length → all[off + i]? = l[i]?):((u8s all).drop off).take l.length = u8s l:=by
 apply Wn
 intro i
 rw [Vi]
 split
 ·rename_i hi
  rw [V4]
  have:=h i hi
  simp only [u8s,Bn,this]
 ·rename_i hi
  rw [Kn (by rw [Zt]; omega)]
theorem Rst.append {K:Nat → Prop} {H:List Ob} {v x:Value} {l p:List Nat} (h:Rst K H v l) (hK:∀ i,K i → i < H.length) (hl:Go.Ev.lenV x = some p.length) (he:elemsOf H 1 p.length x = some (u8s p)) (hb:l.length + p.length ≤ 2 ^ 47) :
  ∃ v' H' M,Y4 1 1 H v x = some (v',H',none,M) ∧ Rst K H' v' (l ++ p) ∧ (∀ i ∈ M,¬ K i) ∧ H.length ≤ H'.length ∧ (∀ i,K i → H'[i]? = H[i]?) ∧ ∀ (i:Nat) (o:Ob),H[i]? = some o → o.exact = true → H'[i]? = some o:=by
 rcases W5 p.length with hn | hn
 ·have:p = []:=Y0 hn
  subst this
  rw [Xj]
  refine ⟨v,H,[],?_,h,by simp,Zf _,fun _ _ => rfl,fun i o h _ => h⟩
  rw [Zw] at hl he
  cases h <;> simp only [Y4,hl,he,Ql,if_true]
 ·have h1:¬ p.length = 0:=by omega
  have hnew:¬ K H.length:=fun h => absurd (hK _ h) (Xb _)
  cases h with
  | nil =>
   refine ⟨.slice (some ⟨H.length,0,none⟩) p.length p.length,H ++ [Ob.grown 1 (u8s p)],[],?_,?_,by simp,by simp,?_,?_⟩
   ·have h2:(0 + p.length) * 1 ≤ 2 ^ 47 ∧ 0 < 1 ∧ 0 < 1:=⟨by simpa using hb,by decide,by decide⟩
    simp only [Y4,hl,he,Ql,if_neg h1,h2,and_self,not_true_eq_false,if_false,if_true]
   ·rw [Q6]
    exact .own (all:=p) hnew (by simp [Ob.grown]) (by omega) (fun i _ => by rw [Zm])
   ·intro i hi; rw [Qc (hK i hi)]
   ·intro i o ho _; rw [Qc (Qu.1 ho).1]; exact ho
  | @empty id0 k1 k2 =>
   refine ⟨.slice (some ⟨H.length,0,none⟩) (0 + p.length) (0 + p.length),H ++ [Ob.grown 1 ([] ++ u8s p)],[],?_,?_,by simp,by simp,?_,?_⟩
   ·have h2:(0 + p.length) * 1 ≤ 2 ^ 47 ∧ 0 < 1 ∧ 0 < 1:=⟨by simpa using hb,by decide,by decide⟩
    have h4:liveAt H id0 = some ⟨[],true,true,true,1⟩:=Vr k2 rfl
    have h7:¬ (0 + p.length ≤ 0):=by omega
    have h8:elemsOf H 1 0 (.slice (some ⟨id0,0,none⟩) 0 0) = some []:=by simp [elemsOf,h4]
    simp only [Y4,hl,he,Ql,if_neg h1,h2,and_self,not_true_eq_false,if_false,if_true,h4,h8,if_neg h7]
   ·rw [Q6,Q6,Zm]
    exact .own (all:=p) hnew (by simp [Ob.grown]) (by omega) (fun i _ => by rw [Zm])
   ·intro i hi; rw [Qc (hK i hi)]
   ·intro i o ho _; rw [Qc (Qu.1 ho).1]; exact ho
  | @own id0 off all _ k1 k2 k4 k3 =>
   have hid:id0 < H.length:=(Qu.1 k2).1
   refine ⟨.slice (some ⟨H.length,0,none⟩) (l.length + p.length) (l.length + p.length),(H.set id0 Ob.dead) ++ [Ob.grown 1 (u8s l ++ u8s p)],[id0],?_,?_,by simpa using k1,by simp,?_,?_⟩
   ·have h2:(l.length + p.length) * 1 ≤ 2 ^ 47 ∧ 0 < 1 ∧ 0 < 1:=⟨by omega,by decide,by decide⟩
    have h4:liveAt H id0 = some ⟨u8s all,true,true,false,1⟩:=Vr k2 rfl
    have h7:¬ (l.length + p.length ≤ l.length):=by omega
    have h8:elemsOf H 1 l.length (.slice (some ⟨id0,off,none⟩) l.length l.length) = some (u8s l):=by
     have:=Qg7 k3
     simp only [elemsOf,h4,Ql,X6]
     rw [this]
     simp [Zt,k4]
    simp only [Y4,hl,he,Ql,if_neg h1,h2,and_self,not_true_eq_false,if_false,if_true,h4,h8,if_neg h7,Zp,Zf]
   ·have:=Rst.own (K:=K) (H:=(H.set id0 Ob.dead) ++ [Ob.grown 1 (u8s l ++ u8s p)]) (id:=H.length) (off:=0) (all:=l ++ p) (l:=l ++ p) hnew (by simp [Ob.grown,u8s]) (by omega) (fun i _ => by rw [Zm])
    rwa [Zc] at this
   ·intro i hi
    rw [Qc (by rw [Jt]; exact hK i hi),Z3 (fun e => k1 (by rw [e]; exact hi))]
   ·intro i o ho hex
    rw [Qc (by rw [Jt]; exact (Qu.1 ho).1),Z3]
    ·exact ho
    ·intro e; subst e; rw [k2] at ho; cases ho; cases hex
theorem Qgm (b:List Nat):∀ n,(stK n b).length = 8
 | 0 => rfl
 | n + 1 => Q2f (Qgm b n)
theorem Qwa:∀ x ∈ Qcq,x < 18446744073709551616:=by decide
theorem Qvw (b:List Nat):∀ n,∀ x ∈ stK n b,x < 18446744073709551616
 | 0 => Qwa
 | n + 1 => Q7l
theorem Qq6 (a b:List Nat):∀ q,128 * q ≤ a.length → stK q (a ++ b) = stK q a
 | 0,_ => rfl
 | q + 1,h => by
  rw [stK,stK,Qq6 a b q (by omega),Yd (by omega),V2 (by rw [X7]; omega)]
def Hsh (K:Nat → Prop) (H:List Ob) (hid:Nat) (all:List Nat):Prop:=∃ rv,H[hid]? = some (hob rv all.length (stK (all.length / 128) all)) ∧ Rst K H rv (all.drop (128 * (all.length / 128)))
def fdF (hid:Nat):Value := .func (.func 99) [Value.pointer (some ⟨hid,0,none⟩)].toArray [].toArray
def fdI (hid:Nat) (H:List Ob) (L:List Nat) (ex:Env):St:=⟨[(0,.pointer (some ⟨hid,0,none⟩)),(1,.int .i64 128),(3,fdF hid)] ++ ex,H,L⟩
theorem Q11 {K:Nat → Prop} {H:List Ob} {hid b0 n:Nat} {rv:Value} {st rest L:List Nat} {ex:Env} (hK:∀ i,K i → i < H.length) (hKh:¬ K hid) (hh:H[hid]? = some (hob rv n st)) (hs:st.length = 8) (hx:∀ x ∈ st,x < 18446744073709551616) (hr:Rst K H rv rest) (h128:128 ≤ rest.length) (xr:∀ x ∈ rest,x < 256) (hL:∀ i ∈ L,¬ K i) (hmx:rest.length < 2 ^ 60) :
  ∃ rv' H' L' ex',J9 T b0 Ma (fdI hid H L ex) = some (.normal,fdI hid H' L' ex') ∧ H'[hid]? = some (hob rv' n (blk st (rest.take 128))) ∧ Rst K H' rv' (rest.drop 128) ∧ (∀ i,K i → H'[i]? = H[i]?) ∧ H.length ≤ H'.length ∧ ∀ i ∈ L',¬ K i:=by
 have hlt:hid < H.length:=(Qu.1 hh).1
 cases hr with
 | nil => exact absurd h128 (by decide)
 | empty _ _ => exact absurd h128 (by decide)
 | @own id off all _ k1 k2 k4 k3 =>
  have hidne:id ≠ hid:=fun e => by
   subst e
   have:=congrArg Ob.exact (B5 (hh.symm.trans k2))
   simp [hob] at this
  have hBB:BB H id off (rest.take 128):=⟨⟨all,k2,fun i hi => by
   rw [Km] at hi
   rw [k3 i (by omega),Vi,if_pos (by omega)]⟩,fun x hx => xr x (Vk hx)⟩
  have hl:(rest.take 128).length = 128:=by rw [Km]; omega
  obtain ⟨w,s,M,hb,hM⟩:=Qy1 (cap:=rest.length) hh hs hx hBB hl h128
  have c0:∀ s',(hcl (.slice (some ⟨id,off,none⟩) rest.length rest.length) n s')[0]? = some (.slice (some ⟨id,off,none⟩) rest.length rest.length):=fun _ => rfl
  have cs:∀ s' v,(hcl (.slice (some ⟨id,off,none⟩) rest.length rest.length) n s').set 0 v = hcl v n s':=fun _ _ => rfl
  have cl:∀ v s',(1 ≤ (hcl v n s').length) = True:=fun v s' => eq_true (by rw [Qb5]; omega)
  have b1:Y5 rest.length rest.length none (some (.int .i64 128)) none = some (0,128,rest.length):=by
   have n1:Ge (some (.int .i64 128)) rest.length rest.length = some 128:=Bb (n:=128) h128
   rw [U8,n1,Ql]; rfl
  have b2:Y5 rest.length rest.length (some (.int .i64 128)) none none = some (128,rest.length,rest.length):=by
   have n1:Ge (some (.int .i64 128)) rest.length 0 = some 128:=Bb (n:=128) h128
   rw [U8,Mo,Ql,n1,Ql]
  have e1:((128:Int) ≤ (rest.length:Int)) = True:=eq_true (by omega)
  have g0:H[hid]? = some ⟨hcl (.slice (some ⟨id,off,none⟩) rest.length rest.length) n st,true,true,true,1⟩:=hh
  have g1:∀ o:Ob,(H.set hid o ++ [w,s])[hid]? = some o:=fun o => by
   rw [Qc (by rw [Jt]; exact hlt),Jq hlt]
  have g2:∀ o:Ob,(H.set hid o ++ [w,s])[id]? = some ⟨u8s all,true,true,false,1⟩:=fun o => by
   rw [Qc (by rw [Jt]; exact (Qu.1 k2).1),Z3 (Ne.symm hidne)]; exact k2
  have g3:∀ o o':Ob,(H.set hid o ++ [w,s]).set hid o' = H.set hid o' ++ [w,s]:=fun o o' => by
   rw [R6 _ _ (by rw [Jt]; exact hlt),Qem]
  refine ⟨.slice (some ⟨id,off + 128,none⟩) (rest.length - 128) (rest.length - 128),H.set hid (hob (.slice (some ⟨id,off + 128,none⟩) (rest.length - 128) (rest.length - 128)) n (blk st (rest.take 128))) ++ [w,s],Jj b0 (Jj b0 L M) [hid],[],?_,g1 _,?_,?_,?_,?_⟩
  ·simp only [hob] at hb ⊢
   generalize blk st (rest.take 128) = st' at *
   simp only [fdI,fdF,Ma,↓Zv,Jh,quiet,cF,↓pF,reduceCtorEq,Qd,Qp,Zo,Zj,Zq,Zi,Zg,Qk,Za,Qj,Q5,Ze,Zd,↓Zx,↓Zu,↓Z7,↓Jb,↓Z9,↓Ja,cL,Qo,Qn,Q2,Q1,Qy,Qr,Qq,Q0,Qe,Q8,Q9,Qz,Qi,Qh,Qg,Qx,Qw,Qv,Qm,Qf,cJ,e1,b1,b2,hb,c0,cs,cl,g0,k2,g1,g2,g3]
  ·have:=Rst.own (K:=K) (H:=H.set hid (hob (.slice (some ⟨id,off + 128,none⟩) (rest.length - 128) (rest.length - 128)) n (blk st (rest.take 128))) ++ [w,s]) (id:=id) (off:=off + 128) (all:=all) (l:=rest.drop 128) k1 (g2 _) (by rw [X7]; omega) (fun i hi => by
    rw [X7] at hi
    rw [V4,← k3 _ (by omega),Vl])
   rwa [X7] at this
  ·intro i hi
   rw [Qc (by rw [Jt]; exact hK i hi),Z3 (fun e => hKh (by rw [e]; exact hi))]
  ·simp
  ·intro i hi
   rcases Yz hi with h | h
   ·rcases Yz h with h | h
    ·exact hL i h
    ·rw [hM i h]; exact hKh
   ·rw [U5.1 h]; exact hKh
theorem Rst.shape {K:Nat → Prop} {H:List Ob} {v:Value} {l:List Nat} (h:Rst K H v l):∃ (a:Option Addr) (c:Nat),v = .slice a l.length c:=by
 cases h with
 | nil => exact ⟨_,_,rfl⟩
 | empty _ _ => exact ⟨_,_,rfl⟩
 | own _ _ _ _ => exact ⟨_,_,rfl⟩
theorem Q10 {K:Nat → Prop} {H:List Ob} {hid:Nat} {x:Value} {all p:List Nat} (hK:∀ i,K i → i < H.length) (hKh:¬ K hid) (hh:Hsh K H hid all) (xa:∀ y ∈ all,y < 256) (xp:∀ y ∈ p,y < 256)
  (hl:∃ (a:Option Addr) (c:Nat),x = .slice a p.length c) (he:∀ o,elemsOf (H.set hid o) 1 p.length x = some (u8s p)) (hb:all.length + p.length < 2 ^ 50) (hb2:p.length ≤ 2 ^ 47 - 128) :
  ∃ H' M,Vx T 93 [.pointer (some ⟨hid,0,none⟩),.int .i64 128,x,fdF hid] H = some (.tuple #[],H',M) ∧ Hsh K H' hid (all ++ p) ∧ (∀ i,K i → H'[i]? = H[i]?) ∧ H.length ≤ H'.length ∧ ∀ i ∈ M,¬ K i:=by
 obtain ⟨rv,h1,h2⟩:=hh
 have hlt:hid < H.length:=(Qu.1 h1).1
 obtain ⟨q0,hq0⟩:∃ q,q = all.length / 128:=⟨_,rfl⟩
 rw [← hq0] at h1 h2
 have hq1:128 * q0 ≤ all.length:=by rw [hq0]; omega
 have hst:stK q0 all = stK q0 (all ++ p):=(Qq6 all p q0 hq1).symm
 have hN:(all ++ p).length = all.length + p.length:=Zc
 rw [hst] at h1
 obtain ⟨st0,hst0⟩:∃ s,s = stK q0 (all ++ p):=⟨_,rfl⟩
 rw [← hst0] at h1
 have hrest:all.drop (128 * q0) ++ p = (all ++ p).drop (128 * q0):=(Yd hq1).symm
 have hrl:(all.drop (128 * q0)).length ≤ 127:=by rw [X7,hq0]; omega
 have hr1:Rst K (H.set hid (hob rv (all.length + p.length) st0)) rv (all.drop (128 * q0)):=h2.setH h1 _
 have hK1:∀ i,K i → i < (H.set hid (hob rv (all.length + p.length) st0)).length:=fun i hi => by rw [Jt]; exact hK i hi
 have hlen:Go.Ev.lenV x = some p.length:=by obtain ⟨a,c,rfl⟩:=hl; rfl
 obtain ⟨rv',H2,M2,ha,a1,a2,a3,a4,a5⟩:=hr1.append hK1 hlen (he _) (by omega)
 have hg1:(H.set hid (hob rv (all.length + p.length) st0))[hid]? = some (hob rv (all.length + p.length) st0):=Jq hlt
 have hg2:=a5 hid _ hg1 rfl
 rw [Jt] at a3
 have hlt2:hid < H2.length:=by omega
 have hr3:Rst K (H2.set hid (hob rv' (all.length + p.length) st0)) rv' ((all ++ p).drop (128 * q0)):=by
  rw [hrest] at a1
  exact a1.setH hg2 _
 have hg3:(H2.set hid (hob rv' (all.length + p.length) st0))[hid]? = some (hob rv' (all.length + p.length) st0):=Jq hlt2
 obtain ⟨H3,hH3⟩:∃ X,X = H2.set hid (hob rv' (all.length + p.length) st0):=⟨_,rfl⟩
 have hf3:∀ i,K i → H3[i]? = H[i]? := fun i hi => by
  have hne:hid ≠ i:=fun e => hKh (by rw [e]; exact hi)
  rw [hH3,Z3 hne,a4 i hi,Z3 hne]
 have hl3:H.length ≤ H3.length:=by rw [hH3,Jt]; exact a3
 obtain ⟨L3,hL3⟩:∃ L,L = Jj H.length (Jj H.length (Jj H.length [] [hid]) M2) [hid]:=⟨_,rfl⟩
 have hL3':∀ i ∈ L3,¬ K i:=fun i hi => by
  rw [hL3] at hi
  rcases Yz hi with h | h
  ·rcases Yz h with h | h
   ·rcases Yz h with h | h
    ·simp at h
    ·rw [U5.1 h]; exact hKh
   ·exact a2 i h
  ·rw [U5.1 h]; exact hKh
 rw [← hH3] at hr3 hg3
 obtain ⟨st,hloop,H',L',ex',rvf,rfl,f1,f2,f3,f4,f5⟩:=Yv (T:=T) (base:=H.length) (id:=0) (body:=Ma)
  (fun k st => ∃ H' L' ex' rvk,st = fdI hid H' L' ex' ∧ H'[hid]? = some (hob rvk (all.length + p.length) (stK (q0 + k) (all ++ p))) ∧ Rst K H' rvk ((all ++ p).drop (128 * (q0 + k))) ∧ (∀ i,K i → H'[i]? = H[i]?) ∧ H.length ≤ H'.length ∧ ∀ i ∈ L',¬ K i)
  (Q:=fun st => ∃ H' L' ex' rvk,st = fdI hid H' L' ex' ∧ H'[hid]? = some (hob rvk (all.length + p.length) (stK ((all ++ p).length / 128) (all ++ p))) ∧ Rst K H' rvk ((all ++ p).drop (128 * ((all ++ p).length / 128))) ∧ (∀ i,K i → H'[i]? = H[i]?) ∧ H.length ≤ H'.length ∧ ∀ i ∈ L',¬ K i)
  ((all ++ p).length / 128 - q0) (s:=fdI hid H3 L3 []) ⟨H3,L3,[],rv',rfl,by rw [Ji,← hst0]; exact hg3,by rw [Ji]; exact hr3,hf3,hl3,hL3'⟩
  (fun k st hk hs => by
   obtain ⟨Hk,Lk,exk,rvk,rfl,k1,k2,k3,k4,k5⟩:=hs
   obtain ⟨rv2,Hk2,L2,ex2,j1,j2,j3,j4,j5,j6⟩:=Q11 (b0:=H.length) (ex:=exk) (fun i hi => Xl (hK i hi) k4) hKh k1 (Qgm _ _) (Qvw _ _) k2 (by rw [X7]; omega) (fun y hy => by
    rcases Xg.1 (Yo hy) with h | h
    ·exact xa y h
    ·exact xp y h) k5 (by rw [X7]; omega)
   refine ⟨_,j1,Hk2,L2,ex2,rv2,rfl,j2,?_,fun i hi => (j4 i hi).trans (k3 i hi),Ul k4 j5,j6⟩
   rw [Bc] at j3
   rw [show 128 * (q0 + (k + 1)) = 128 * (q0 + k) + 128 by omega]
   exact j3)
  (fun st hs => by
   obtain ⟨Hk,Lk,exk,rvk,rfl,k1,k2,k3,k4,k5⟩:=hs
   have hqq:q0 + ((all ++ p).length / 128 - q0) = (all ++ p).length / 128:=by
    have:q0 ≤ (all ++ p).length / 128:=by rw [hq0,hN]; omega
    omega
   rw [hqq] at k1 k2
   have hrl2:((all ++ p).drop (128 * ((all ++ p).length / 128))).length < 128:=by rw [X7]; omega
   obtain ⟨v,c,hv⟩:=k2.shape
   refine ⟨_,?_,Hk,Lk,[(33,.bool false)],rvk,rfl,k1,k2,k3,k4,k5⟩
   subst hv
   have c0:∀ v' s',(hcl v' (all.length + p.length) s')[0]? = some v':=fun _ _ => rfl
   have e1:((128:Int) ≤ (((all ++ p).drop (128 * ((all ++ p).length / 128))).length:Int)) = False:=eq_false (by omega)
   simp only [hob] at k1
   generalize ((all ++ p).drop (128 * ((all ++ p).length / 128))).length = rl at *
   generalize stK ((all ++ p).length / 128) (all ++ p) = sk at *
   simp only [fdI,fdF,Ma,↓Zv,Jh,quiet,cF,↓pF,reduceCtorEq,Qd,Qp,Zo,Zj,Zq,Zi,Zg,Qk,Za,Qj,Q5,Ze,Zd,↓Zx,↓Zu,↓Z7,↓Jb,↓Z9,↓Ja,cL,Qo,Qn,Q2,Q1,Qy,Qr,Qq,Q0,Qe,Q8,Q9,Qz,Qi,Qh,Qg,Qx,Qw,Qv,Qm,Qf,cJ,e1,k1,c0])
 refine ⟨H',L',?_,⟨rvf,by rw [hN] at f1 ⊢; exact f1,f2⟩,f3,f4,f5⟩
 obtain ⟨c1,c2,rfl⟩:=hl
 simp only [fdI,Zb,Q6,hL3] at hloop
 simp only [hob] at h1 ha hg2 hH3
 have w1:IntKind.u64.wrap (p.length:Int) = (p.length:Int):=Qsb (by omega)
 have w2:IntKind.u64.wrap ((all.length:Int) + (p.length:Int)) = ((all.length + p.length:Nat):Int):=Qq1 (by omega)
 have c0:∀ v' n' s',(hcl v' n' s')[0]? = some v':=fun _ _ _ => rfl
 have c1':∀ v' (n':Nat) s',(hcl v' n' s')[1]? = some (.int .u64 n'):=fun _ _ _ => rfl
 have s0:∀ v' n' s' v,(hcl v' n' s').set 0 v = hcl v n' s':=fun _ _ _ _ => rfl
 have s1:∀ v' n' s' (m:Nat),(hcl v' n' s').set 1 (.int .u64 (m:Int)) = hcl v' m s':=fun _ _ _ _ => rfl
 have cl:∀ v n' s',(1 ≤ (hcl v n' s').length) = True:=fun v n' s' => eq_true (by rw [Qb5]; omega)
 have cl2:∀ v n' s',(2 ≤ (hcl v n' s').length) = True:=fun v n' s' => eq_true (by rw [Qb5]; omega)
 have hgs:∀ o:Ob,(H.set hid o)[hid]? = some o:=fun o => Jq hlt
 obtain ⟨vr,cr,hvr⟩:=a1.shape
 have hok:Vy rv' = true:=by rw [hvr]; rfl
 have hc1:rv'.cells.toList = [rv']:=by rw [hvr]; rfl
 have hc2:rv'.cells.size = 1:=by rw [hvr]; rfl
 clear hvr
 generalize all.length + p.length = NN at *
 rw [Jg (fn:=Quw) rfl]
 simp only [Quw,↓Zv,Jh,quiet,cF,↓pF,reduceCtorEq,Qd,Qp,Zo,Zj,Zq,Zi,Zg,Qk,Za,Qj,Q5,Ze,Zd,↓Zx,↓Zu,↓Z7,↓Jb,↓Z9,↓Ja,cL,Qo,Qn,Q2,Q1,Qy,Qr,Qq,Q0,Qe,Q8,Q9,Qz,Qi,Qh,Qg,Qx,Qw,Qv,Qm,Qf,cJ,fdF,h1,c0,c1',s0,s1,cl,cl2,w1,w2,hgs,ha,hg2,← hH3,hok,hc1,hc2]
 simp only [fdF] at hloop
 simp only [hloop,Jh,quiet,cF,↓pF,reduceCtorEq,Qd,Qp,Zo,Zj,Zq,Zi,Zg,Qk,Za,Qj,Q5,Ze,Zd,↓Zx,↓Zu,↓Z7,↓Jb,↓Z9,↓Ja,cL,Qo,Qn,Q2,Q1,Qy,Qr,Qq,Q0,Qe,Q8,Q9,Qz,Qi,Qh,Qg,Qx,Qw,Qv,Qm,Qf]
 rfl
structure HPart (K:Nat → Prop) (H:List Ob) (x:Value) (p:List Nat):Prop where
 shape:∃ (a:Option Addr) (c:Nat),x = .slice a p.length c
 reads:∀ G:List Ob,(∀ i,K i → G[i]? = H[i]?) → elemsOf G 1 p.length x = some (u8s p)
 lt:∀ y ∈ p,y < 256
 le:p.length ≤ 2 ^ 47 - 128
theorem HPart.of {K:Nat → Prop} {H G:List Ob} {x:Value} {p:List Nat} (h:HPart K H x p) (hg:∀ i,K i → G[i]? = H[i]?):HPart K G x p :=
 ⟨h.shape,fun G' hG' => h.reads G' fun i hi => (hG' i hi).trans (hg i hi),h.lt,h.le⟩
inductive HParts (K:Nat → Prop) (H:List Ob):List Value → List (List Nat) → Prop
 | nil:HParts K H [] []
 | cons {x:Value} {p:List Nat} {xs:List Value} {ps:List (List Nat)}:HPart K H x p → HParts K H xs ps → HParts K H (x :: xs) (p :: ps)
theorem HParts.get {K:Nat → Prop} {H:List Ob}:∀ {xs:List Value} {ps:List (List Nat)},HParts K H xs ps → ∀ {i:Nat} {x:Value},xs[i]? = some x → ∃ p,ps[i]? = some p ∧ HPart K H x p
 | _,_,.nil,i,x,h => by simp at h
 | _,_,.cons a b,0,x,h => by simp at h; subst h; exact ⟨_,rfl,a⟩
 | _,_,.cons a b,i + 1,x,h => by
  obtain ⟨p,h1,h2⟩:=b.get (i:=i) (by simpa using h)
  exact ⟨p,by simpa using h1,h2⟩
theorem HParts.len {K:Nat → Prop} {H:List Ob}:∀ {xs:List Value} {ps:List (List Nat)},HParts K H xs ps → ps.length = xs.length
 | _,_,.nil => rfl
 | _,_,.cons _ b => by simp [b.len]
theorem HParts.lt {K:Nat → Prop} {H:List Ob}:∀ {xs:List Value} {ps:List (List Nat)},HParts K H xs ps → ∀ y ∈ ps.flatten,y < 256
 | _,_,.nil => by simp
 | _,_,.cons a b => by
  intro y hy
  rw [Xn] at hy
  rcases Xg.1 hy with h | h
  ·exact a.lt y h
  ·exact b.lt y h
def PV (K:Nat → Prop) (H:List Ob) (pv:Value) (xs:List Value):Prop:=(pv = .slice none 0 0 ∧ xs = []) ∨ ∃ pid off cap o,pv = .slice (some ⟨pid,off,none⟩) xs.length cap ∧ K pid ∧ H[pid]? = some o ∧ o.live = true ∧ ∀ i,i < xs.length → o.cells[off + i]? = xs[i]?
def wrI (hid:Nat) (pv:Value) (n:Nat) (i:Int) (H:List Ob) (L:List Nat) (ex:Env):St:=⟨[(0,.pointer (some ⟨hid,0,none⟩)),(6,pv),(7,.int .i64 n),(8,.int .i64 i)] ++ ex,H,L⟩
theorem Qzi {K:Nat → Prop} {H H0:List Ob} {hid b0 i:Nat} {pv:Value} {xs:List Value} {ps:List (List Nat)} {all L:List Nat} (hK:∀ i,K i → i < H.length) (hKh:¬ K hid) (hh:Hsh K H hid all) (xa:∀ y ∈ all,y < 256) (hp:PV K H0 pv xs) (hP:HParts K H0 xs ps) (hF:∀ i,K i → H[i]? = H0[i]?) (hL:∀ i ∈ L,¬ K i) (hi:i < xs.length) (hn:xs.length < 2 ^ 50) (hb:all.length + (ps.getD i []).length < 2 ^ 50) :
  ∃ H' L',J9 T b0 Qei (wrI hid pv xs.length i H L []) = some (.normal,wrI hid pv xs.length ((i + 1:Nat):Int) H' L' []) ∧ Hsh K H' hid (all ++ ps.getD i []) ∧ (∀ i,K i → H'[i]? = H[i]?) ∧ H.length ≤ H'.length ∧ ∀ i ∈ L',¬ K i:=by
 obtain ⟨x,hx⟩:∃ x,xs[i]? = some x:=⟨_,Qt hi⟩
 obtain ⟨p,hpi,hpp⟩:=hP.get hx
 have hgd:ps.getD i [] = p:=by rw [Jf,hpi]; rfl
 rw [hgd] at hb ⊢
 obtain ⟨H',M,hf,f1,f2,f3,f4⟩:=Q10 hK hKh hh xa hpp.lt hpp.shape (fun o => hpp.reads _ (fun j hj => by
  rw [Z3 (fun e => hKh (by rw [e]; exact hj))]; exact hF j hj)) hb hpp.le
 rcases hp with ⟨-,h0⟩ | ⟨pid,off,cap,o,rfl,kp,ho,hlv,hc⟩
 ·rw [h0] at hi; exact absurd hi (Jr _)
 ·have ho':H[pid]? = some o:=(hF pid kp).trans ho
  have hcx:o.cells[off + i]? = some x:=(hc i hi).trans hx
  have e1:((i:Int) < (xs.length:Int)) = True:=eq_true (by omega)
  have w3:IntKind.i64.wrap ((i:Int) + 1) = ((i + 1:Nat):Int):=Ug (b:=1) (by omega)
  refine ⟨H',Jj b0 L M,?_,f1,f2,f3,fun j hj => ?_⟩
  ·simp only [fdF] at hf
   generalize i + 1 = i1 at *
   simp only [wrI,Qei,↓Zv,Jh,quiet,cF,↓pF,reduceCtorEq,Qd,Qp,Zo,Zj,Zq,Zi,Zg,Qk,Za,Qj,Q5,Ze,Zd,↓Zx,↓Zu,↓Z7,↓Jb,↓Z9,↓Ja,cL,Qo,Qn,Q2,Q1,Qy,Qr,Qq,Q0,Qe,Q8,Q9,Qz,Qi,Qh,Qg,Qx,Qw,Qv,Qm,Qf,cJ,e1,ho',hlv,hcx,w3,hf]
  ·rcases Yz hj with h | h
   ·exact hL j h
   ·exact f4 j h
theorem Qma {K:Nat → Prop} {H:List Ob} {hid:Nat} {pv:Value} {xs:List Value} {ps:List (List Nat)} {all:List Nat} (hK:∀ i,K i → i < H.length) (hKh:¬ K hid) (hh:Hsh K H hid all) (xa:∀ y ∈ all,y < 256) (hp:PV K H pv xs) (hP:HParts K H xs ps) (hn:xs.length < 2 ^ 50) (hb:(all ++ ps.flatten).length < 2 ^ 50) :
  ∃ H' M,Vx T 86 [.pointer (some ⟨hid,0,none⟩),pv] H = some (.tuple #[],H',M) ∧ Hsh K H' hid (all ++ ps.flatten) ∧ (∀ i,K i → H'[i]? = H[i]?) ∧ H.length ≤ H'.length ∧ ∀ i ∈ M,¬ K i:=by
 obtain ⟨st,hl,H',L',rfl,f1,f2,f3,f4⟩:=Yv (T:=T) (base:=H.length) (id:=0) (body:=Qei)
  (fun i st => ∃ H' L',st = wrI hid pv xs.length (i:Nat) H' L' [] ∧ Hsh K H' hid (all ++ (ps.take i).flatten) ∧ (∀ i,K i → H'[i]? = H[i]?) ∧ H.length ≤ H'.length ∧ ∀ i ∈ L',¬ K i)
  (Q:=fun st => ∃ H' L',st = wrI hid pv xs.length (xs.length:Nat) H' L' [(9,.bool false)] ∧ Hsh K H' hid (all ++ ps.flatten) ∧ (∀ i,K i → H'[i]? = H[i]?) ∧ H.length ≤ H'.length ∧ ∀ i ∈ L',¬ K i)
  xs.length (s:=wrI hid pv xs.length 0 H [] []) ⟨H,[],rfl,by simpa using hh,fun _ _ => rfl,Zf _,by simp⟩
  (fun i st hi hs => by
   obtain ⟨H1,L1,rfl,g1,g2,g3,g4⟩:=hs
   have hpl:=hP.len
   have hsp:ps.flatten = (ps.take i).flatten ++ ((ps.getD i []) ++ (ps.drop (i + 1)).flatten):=by
    obtain ⟨p,hpi⟩:∃ p,ps[i]? = some p:=⟨_,Qt (by omega)⟩
    have hgd:ps.getD i [] = p:=by rw [Jf,hpi]; rfl
    rw [hgd,← Xn,← Yn]
    congr 1
    have h1:=Qu.1 hpi
    conv => lhs; rw [← Wd i ps,Uc h1.1,h1.2]
   have htk:(ps.take (i + 1)).flatten = (ps.take i).flatten ++ ps.getD i []:=by
    obtain ⟨p,hpi⟩:∃ p,ps[i]? = some p:=⟨_,Qt (by omega)⟩
    have hgd:ps.getD i [] = p:=by rw [Jf,hpi]; rfl
    rw [hgd,Y9,hpi,Yn]; simp
   have hlt:=hP.lt
   obtain ⟨H2,L2,j1,j2,j3,j4,j5⟩:=Qzi (b0:=H.length) (fun j hj => Xl (hK j hj) g3) hKh g1 (fun y hy => by
    rcases Xg.1 hy with h | h
    ·exact xa y h
    ·exact hlt y (by rw [hsp]; exact Qgh _ h)) hp hP g2 g4 hi hn (by
     rw [hsp] at hb
     simp only [Zc] at hb ⊢
     omega)
   refine ⟨_,j1,H2,L2,rfl,by rw [htk,← Z1]; exact j2,fun j hj => (j3 j hj).trans (g2 j hj),Ul g3 j4,j5⟩)
  (fun st hs => by
   obtain ⟨H1,L1,rfl,g1,g2,g3,g4⟩:=hs
   rw [Zh (by rw [hP.len]; exact Zf _)] at g1
   refine ⟨_,?_,H1,L1,rfl,g1,g2,g3,g4⟩
   have e1:((xs.length:Int) < (xs.length:Int)) = False:=eq_false (by omega)
   simp only [wrI,Qei,Jh,quiet,cF,↓pF,reduceCtorEq,Qd,Qp,Zo,Zj,Zq,Zi,Zg,Qk,Za,Qj,Q5,Ze,Zd,↓Zx,↓Zu,↓Z7,↓Jb,↓Z9,↓Ja,cL,Qo,Qn,Q2,Q1,Qy,Qr,Qq,Q0,Qe,Q8,Q9,Qz,Qi,Qh,Qg,Qx,Qw,Qv,Qm,Qf,cJ,e1])
 refine ⟨H',L',?_,f1,f2,f3,f4⟩
 simp only [wrI,Zb,Q6,Vm] at hl
 have hlen:vLen false pv = some (.int .i64 xs.length):=by
  rcases hp with ⟨rfl,h0⟩ | ⟨pid,off,cap,o,rfl,-⟩
  ·rw [h0]; rfl
  ·rfl
 rw [Jg (fn:=Q3u) rfl]
 simp only [Q3u,↓Zv,Jh,quiet,cF,↓pF,reduceCtorEq,Qd,Qp,Zo,Zj,Zq,Zi,Zg,Qk,Za,Qj,Q5,Ze,Zd,↓Zx,↓Zu,↓Z7,↓Jb,↓Z9,↓Ja,cL,Qo,Qn,Q2,Q1,Qy,Qr,Qq,Q0,Qe,Q8,Q9,Qz,Qi,Qh,Qg,Qx,Qw,Qv,Qm,Qf,cJ,hlen,hl]
 rfl
theorem Qxj:fillL (Value.slice none 0 0 :: Qa 9 (.int .u64 0)) [(2,8,.agg (ns .u64 Qcq).toArray)] = some (hcl (.slice none 0 0) 0 Qcq):=rfl
theorem Q6u (H:List Ob):Vx T 85 [] H = some (.pointer (some ⟨H.length,0,none⟩),H ++ [hob (.slice none 0 0) 0 Qcq],[]):=by
 have hf:fillL (Qa 8 (Value.int .u64 0)) [(0,1,.int .u64 7640891576956012808),(1,1,.int .u64 13503953896175478587),(2,1,.int .u64 4354685564936845355),(3,1,.int .u64 11912009170470909681),(4,1,.int .u64 5840696475078001361),(5,1,.int .u64 11170449401992604703),(6,1,.int .u64 2270897969802886507),(7,1,.int .u64 6620516959819538809)] = some (ns .u64 Qcq):=rfl
 have hf2:∀ a,fillL [Value.slice none 0 0,.int .u64 0,.int .u64 0,.int .u64 0,.int .u64 0,.int .u64 0,.int .u64 0,.int .u64 0,.int .u64 0,.int .u64 0] [(2,8,.agg (ns .u64 a).toArray)] = fillL (Value.slice none 0 0 :: Qa 9 (.int .u64 0)) [(2,8,.agg (ns .u64 a).toArray)]:=fun _ => rfl
 have hf3:=Qxj
 simp only [hob]
 generalize Qcq = S at *
 generalize hcl (.slice none 0 0) 0 S = C at *
 rw [Jg (fn:=Q3v) rfl]
 simp only [Q3v,↓Zv,Jh,quiet,cF,↓pF,reduceCtorEq,Qd,Qp,Zo,Zj,Zq,Zi,Zg,Qk,Za,Qj,Q5,Ze,Zd,↓Zx,↓Zu,↓Z7,↓Jb,↓Z9,↓Ja,cL,Qo,Qn,Q2,Q1,Qy,Qr,Qq,Q0,Qe,Q8,Q9,Qz,Qi,Qh,Qg,Qx,Qw,Qv,Qm,Qf,cJ,hf,hf2,hf3]
theorem Q03 {K:Nat → Prop} {H:List Ob} {hid:Nat} (h:H[hid]? = some (hob (.slice none 0 0) 0 Qcq)):Hsh K H hid []:=⟨_,h,.nil⟩
end Go.Ev.Ytpgphpkjlpkcbaa
set_option linter.unusedSimpArgs false
set_option linter.unusedVariables false
namespace Go.Ev.Ytpgphpkjlpkcbaa
open Go Go.Ev
attribute [local congr] Wq W3 Wp W4 Wg
set_option maxRecDepth 100000
def paI (hid:Nat) (s:Value) (Hc:List Ob) (ex:Env):St:=⟨[(0,.pointer (some ⟨hid,0,none⟩)),(1,.int .i64 128),(2,.int .i64 16),(7,s)] ++ ex,Hc,[]⟩
def pbI (hid:Nat) (s:Value) (i:Int) (Hc:List Ob) (ex:Env):St:=⟨[(0,.pointer (some ⟨hid,0,none⟩)),(7,s),(8,.int .i64 i)] ++ ex,Hc,[]⟩
theorem Qj7 (n i:Nat):((n / 256 ^ (i + 1) * 8 % 256) ||| (n / 256 ^ i % 256 / 32)) = 8 * n / 256 ^ (i + 1) % 256:=by
 have h1:n / 256 ^ (i + 1) = n / 256 ^ i / 256:=by rw [Vt,Ym]
 have h2:8 * n / 256 ^ (i + 1) = n / 256 ^ i / 32:=by
  rw [Ym,Vt,show 256 ^ i * 256 = 8 * (256 ^ i * 32) by omega,Nat.mul_div_mul_left _ _ (by decide)]
 rw [h1,h2]
 generalize n / 256 ^ i = m
 have h3:m / 256 * 8 % 256 = (m / 256 % 32) * 2 ^ 3:=by omega
 rw [h3,Da (by omega)]
 omega
theorem Qwv (n:Nat):(n + (1 + Mm n) + 16) % 128 = 0:=by unfold Mm; omega
theorem Qm7 (n z:Nat) (h:z < Mm n):(n + (1 + z) + 16) % 128 ≠ 0:=by unfold Mm at h; omega
theorem Qlg (n:Nat):Mm n < 128:=by unfold Mm; omega
theorem Q0i {H:List Ob} {hid n:Nat} {rv:Value} {st:List Nat} (hh:H[hid]? = some (hob rv n st)) (hn:n < 2 ^ 50) :
  ∃ s l,J9 T H.length (.block 0 (.loop D9)) (paI hid (.slice (some ⟨H.length,0,none⟩) 1 1) (H ++ [⟨[.int .u8 128],true,true,true,1⟩]) []) = some (.normal,paI hid s (H ++ l) [(23,.bool false)]) ∧ Grown .u8 H.length (H ++ l) s (128 :: Qa (Mm n) 0):=by
 have hlt:hid < H.length:=(Qu.1 hh).1
 have f0:fillL [Value.int .u8 0] [(0,1,.int .u8 0)] = some [.int .u8 0]:=rfl
 have c1:(hcl rv n st)[1]? = some (.int .u64 n):=rfl
 have hz:=Qlg n
 obtain ⟨x,hb,s,Hc,rfl,hg,hL,hF⟩:=Yv (T:=T) (base:=H.length) (id:=0) (body:=D9)
  (fun j x => ∃ s Hc,x = paI hid s Hc [] ∧ Grown .u8 H.length Hc s (128 :: Qa j 0) ∧ H.length ≤ Hc.length ∧ ∀ i,i < H.length → Hc[i]? = H[i]?)
  (Q:=fun x => ∃ s Hc,x = paI hid s Hc [(23,.bool false)] ∧ Grown .u8 H.length Hc s (128 :: Qa (Mm n) 0) ∧ H.length ≤ Hc.length ∧ ∀ i,i < H.length → Hc[i]? = H[i]?)
  (Mm n) (s:=paI hid (.slice (some ⟨H.length,0,none⟩) 1 1) (H ++ [⟨[.int .u8 128],true,true,true,1⟩]) []) ⟨_,_,rfl,Grown.new (k := .u8) (id:=H.length) (bs:=[128]) (Zf _) (by decide) (by simp [Ob.fresh,ns]),by simp,fun i hi => Qc hi⟩
  (fun j x hj hx => by
   obtain ⟨s,Hc,rfl,hg,hL,hF⟩:=hx
   have hl:=hg.len
   have e1:(128 :: Qa j 0).length = 1 + j:=by simp; omega
   rw [e1] at hl
   obtain ⟨s',H',M,h1,h2,h3,h4,h5⟩:=Qdw (x:=0) (bytes:=1) hg hL (by rw [e1]; omega) (by decide)
   have hm:Jj H.length [] M = []:=K9 h3
   have hget:Hc[hid]? = some ⟨hcl rv n st,true,true,true,1⟩:=(hF hid hlt).trans hh
   have w1:IntKind.i64.wrap (n:Int) = (n:Int):=wn (by omega)
   have w2:IntKind.i64.wrap ((n:Int) + ((1 + j:Nat):Int)) = ((n + (1 + j):Nat):Int):=Ug (by omega)
   have w3:IntKind.i64.wrap (((n + (1 + j):Nat):Int) + 16) = ((n + (1 + j) + 16:Nat):Int):=Ug (b:=16) (by omega)
   have w4:((n + (1 + j) + 16:Nat):Int).tmod 128 = (((n + (1 + j) + 16) % 128:Nat):Int):=rfl
   have w5:((((n + (1 + j) + 16) % 128:Nat):Int) != 0) = true:=bne_iff_ne.2 (by have:=Qm7 n j hj; omega)
   refine ⟨paI hid s' H' [],?_,s',H',rfl,by rw [Qgf,← Zb]; exact h2,h4,fun i hi => by rw [h5 i hi,hF i hi]⟩
   simp only [Vm] at h1
   generalize (n + (1 + j) + 16) % 128 = r at *
   generalize n + (1 + j) + 16 = r2 at *
   generalize n + (1 + j) = r3 at *
   simp only [paI,D9,↓Zv,Jh,quiet,cF,↓pF,reduceCtorEq,Qd,Qp,Zo,Zj,Zq,Zi,Zg,Qk,Za,Qj,Q5,Ze,Zd,↓Zx,↓Zu,↓Z7,↓Jb,↓Z9,↓Ja,cL,Qo,Qn,Q2,Q1,Qy,Qr,Qq,Q0,Qe,Q8,Q9,Qz,Qi,Qh,Qg,Qx,Qw,Qv,Qm,Qf,cJ,hget,c1,hl,w1,w2,w3,w4,w5,f0,h1,hm])
  (fun x hx => by
   obtain ⟨s,Hc,rfl,hg,hL,hF⟩:=hx
   have hl:=hg.len
   have e1:(128 :: Qa (Mm n) 0).length = 1 + Mm n:=by simp; omega
   rw [e1] at hl
   have hget:Hc[hid]? = some ⟨hcl rv n st,true,true,true,1⟩:=(hF hid hlt).trans hh
   have w1:IntKind.i64.wrap (n:Int) = (n:Int):=wn (by omega)
   have w2:IntKind.i64.wrap ((n:Int) + ((1 + Mm n:Nat):Int)) = ((n + (1 + Mm n):Nat):Int):=Ug (by omega)
   have w3:IntKind.i64.wrap (((n + (1 + Mm n):Nat):Int) + 16) = ((n + (1 + Mm n) + 16:Nat):Int):=Ug (b:=16) (by omega)
   have w4:((n + (1 + Mm n) + 16:Nat):Int).tmod 128 = 0:=by
    have:((n + (1 + Mm n) + 16:Nat):Int).tmod 128 = (((n + (1 + Mm n) + 16) % 128:Nat):Int):=rfl
    rw [this,Qwv]; rfl
   refine ⟨_,?_,s,Hc,rfl,hg,hL,hF⟩
   generalize n + (1 + Mm n) + 16 = r2 at *
   generalize n + (1 + Mm n) = r3 at *
   simp only [paI,D9,↓Zv,Jh,quiet,cF,↓pF,reduceCtorEq,Qd,Qp,Zo,Zj,Zq,Zi,Zg,Qk,Za,Qj,Q5,Ze,Zd,↓Zx,↓Zu,↓Z7,↓Jb,↓Z9,↓Ja,cL,Qo,Qn,Q2,Q1,Qy,Qr,Qq,Q0,Qe,Q8,Q9,Qz,Qi,Qh,Qg,Qx,Qw,Qv,Qm,Qf,cJ,hget,c1,hl,w1,w2,w3,w4])
 obtain ⟨l,rfl⟩:=By hL hF
 exact ⟨s,l,hb,hg⟩
def Qpr (n i:Nat):Nat:=8 * n / 256 ^ (15 - i) % 256
theorem Q0h {H l0:List Ob} {hid n:Nat} {rv s0:Value} {st bs:List Nat} (hh:H[hid]? = some (hob rv n st)) (hn:n < 2 ^ 50) (hg0:Grown .u8 H.length (H ++ l0) s0 bs) (hbs:bs.length ≤ 200) :
  ∃ s l,J9 T H.length (.block 2 (.loop Gz)) (pbI hid s0 15 (H ++ l0) []) = some (.normal,pbI hid s (-1) (H ++ l) [(30,.bool false)]) ∧ Grown .u8 H.length (H ++ l) s (bs ++ (Wu 16).map (Qpr n)):=by
 have hlt:hid < H.length:=(Qu.1 hh).1
 have c1:(hcl rv n st)[1]? = some (.int .u64 n):=rfl
 obtain ⟨x,hb,s,Hc,rfl,hg,hL,hF⟩:=Yv (T:=T) (base:=H.length) (id:=2) (body:=Gz)
  (fun j x => ∃ s Hc,x = pbI hid s ((15:Int) - j) Hc [] ∧ Grown .u8 H.length Hc s (bs ++ (Wu j).map (Qpr n)) ∧ H.length ≤ Hc.length ∧ ∀ i,i < H.length → Hc[i]? = H[i]?)
  (Q:=fun x => ∃ s Hc,x = pbI hid s (-1) Hc [(30,.bool false)] ∧ Grown .u8 H.length Hc s (bs ++ (Wu 16).map (Qpr n)) ∧ H.length ≤ Hc.length ∧ ∀ i,i < H.length → Hc[i]? = H[i]?)
  16 (s:=pbI hid s0 15 (H ++ l0) []) ⟨_,_,rfl,by simpa using hg0,by simp,fun i hi => Qc hi⟩
  (fun j x hj hx => by
   obtain ⟨s,Hc,rfl,hg,hL,hF⟩:=hx
   obtain ⟨i,hi⟩:∃ i,i = 15 - j:=⟨_,rfl⟩
   rw [show (15:Int) - j = (i:Int) by omega,show (15:Int) - ((j + 1:Nat):Int) = (i:Int) - 1 by omega]
   have hl:=hg.len
   have hpd:Qpr n j = 8 * n / 256 ^ i % 256:=by rw [hi]; rfl
   obtain ⟨s',H',M,h1,h2,h3,h4,h5⟩:=Qdw (x:=Qpr n j) (bytes:=1) hg hL (by rw [Zc,Dp,List.length_range]; omega) (by decide)
   have hm:Jj H.length [] M = []:=K9 h3
   have hget:Hc[hid]? = some ⟨hcl rv n st,true,true,true,1⟩:=(hF hid hlt).trans hh
   have fx:∀ a:Int,fillL [Value.int .u8 0] [(0,1,.int .u8 a)] = some [.int .u8 a]:=fun _ => rfl
   have w0:IntKind.i64.wrap ((i:Int) - 1) = (i:Int) - 1:=V6 (by omega) (by omega)
   have e0:((0:Int) ≤ (i:Int)) = True:=eq_true (by omega)
   refine ⟨pbI hid s' ((i:Int) - 1) H' [],?_,s',H',rfl,by rw [List.range_succ,Ha,← Z1]; exact h2,h4,fun k hk => by rw [h5 k hk,hF k hk]⟩
   rw [hpd] at h1
   by_cases h9:i < 9
   ·have e9:((i:Int) < 9) = True:=eq_true (by omega)
    have w1:IntKind.i64.wrap (8 * (i:Int)) = ((8 * i:Nat):Int):=Qeq (a:=8) (by omega)
    have w2:(((8 * i:Nat):Int) < 0) = False:=eq_false (by omega)
    have w3:(n:Int).fdiv (2 ^ min (8 * i) IntKind.u64.bits) = ((n / 256 ^ i:Nat):Int):=by
     rw [Qcp (by omega),show (256:Nat) = 2 ^ 8 from rfl,← Ys]
    have hle:n / 256 ^ i ≤ n:=B6 _ _
    have w4:IntKind.u64.wrap (((n / 256 ^ i:Nat):Int) * 2 ^ min 3 IntKind.u64.bits) = ((n / 256 ^ i * 8:Nat):Int):=Qkz (b:=8) (by omega)
    have w5:IntKind.u8.wrap ((n / 256 ^ i * 8:Nat):Int) = ((n / 256 ^ i * 8 % 256:Nat):Int):=Qf8 _
    by_cases hz:i = 0
    ·subst hz
     have e8:n / 256 ^ 0 * 8 % 256 = 8 * n / 256 ^ 0 % 256:=by rw [W0,Ux,Ux]; omega
     rw [e8] at w5
     have ew:(8 * 0:Nat) = 0:=rfl
     simp only [ew,Vm] at w1 w2 w3
     generalize 8 * n / 256 ^ 0 % 256 = d at *
     generalize n / 256 ^ 0 * 8 = v1 at *
     generalize n / 256 ^ 0 = v2 at *
     simp only [pbI,Gz,↓Zv,Jh,quiet,cF,↓pF,reduceCtorEq,Qd,Qp,Zo,Zj,Zq,Zi,Zg,Qk,Za,Qj,Q5,Ze,Zd,↓Zx,↓Zu,↓Z7,↓Jb,↓Z9,↓Ja,cL,Qo,Qn,Q2,Q1,Qy,Qr,Qq,Q0,Qe,Q8,Q9,Qz,Qi,Qh,Qg,Qx,Qw,Qv,Qm,Qf,cJ,hget,c1,w0,e0,e9,w1,w2,w3,w4,w5,fx,h1,hm]
    ·obtain ⟨k,rfl⟩:∃ k,i = k + 1:=⟨i - 1,by omega⟩
     have hd:=Qj7 n k
     have ep:((0:Int) < ((k + 1:Nat):Int)) = True:=eq_true (by omega)
     have v1:IntKind.i64.wrap (((8 * (k + 1):Nat):Int) - 8) = ((8 * k:Nat):Int):=by rw [V6 (by omega) (by omega)]; omega
     have v2:(((8 * k:Nat):Int) < 0) = False:=eq_false (by omega)
     have v3:(n:Int).fdiv (2 ^ min (8 * k) IntKind.u64.bits) = ((n / 256 ^ k:Nat):Int):=by
      rw [Qcp (by omega),show (256:Nat) = 2 ^ 8 from rfl,← Ys]
     have v4:Vf .and .u64 ((n / 256 ^ k:Nat):Int) 255 = ((n / 256 ^ k % 256:Nat):Int):=R3 .u64 rfl 8 _ (by decide)
     have v5:((n / 256 ^ k % 256:Nat):Int).fdiv (2 ^ min 5 IntKind.u64.bits) = ((n / 256 ^ k % 256 / 32:Nat):Int):=Qcp (r:=5) (by decide)
     have v6:IntKind.u8.wrap ((n / 256 ^ k % 256 / 32:Nat):Int) = ((n / 256 ^ k % 256 / 32:Nat):Int):=by rw [Qf8,Z2 (by omega)]
     have v7:Vf .or .u8 ((n / 256 ^ (k + 1) * 8 % 256:Nat):Int) ((n / 256 ^ k % 256 / 32:Nat):Int) = ((8 * n / 256 ^ (k + 1) % 256:Nat):Int):=by
      rw [Gy rfl (show _ < 2 ^ 8 from Js _ (by decide)) (show n / 256 ^ k % 256 / 32 < 2 ^ 8 by omega),hd]
     generalize 8 * n / 256 ^ (k + 1) % 256 = d at *
     generalize n / 256 ^ (k + 1) * 8 % 256 = u1 at *
     generalize n / 256 ^ (k + 1) * 8 = u2 at *
     generalize n / 256 ^ (k + 1) = u3 at *
     generalize n / 256 ^ k % 256 / 32 = u4 at *
     generalize n / 256 ^ k % 256 = u5 at *
     generalize n / 256 ^ k = u6 at *
     generalize 8 * (k + 1) = u7 at *
     generalize 8 * k = u8' at *
     generalize k + 1 = k1 at *
     simp only [pbI,Gz,↓Zv,Jh,quiet,cF,↓pF,reduceCtorEq,Qd,Qp,Zo,Zj,Zq,Zi,Zg,Qk,Za,Qj,Q5,Ze,Zd,↓Zx,↓Zu,↓Z7,↓Jb,↓Z9,↓Ja,cL,Qo,Qn,Q2,Q1,Qy,Qr,Qq,Q0,Qe,Q8,Q9,Qz,Qi,Qh,Qg,Qx,Qw,Qv,Qm,Qf,cJ,hget,c1,w0,e0,e9,ep,w1,w2,w3,w4,w5,v1,v2,v3,v4,v5,v6,v7,fx,h1,hm]
   ·have e9:((i:Int) < 9) = False:=eq_false (by omega)
    have ep:((0:Int) < (i:Int)) = True:=eq_true (by omega)
    have hz:8 * n / 256 ^ i % 256 = 0:=by
     have:(256:Nat) ^ 9 ≤ 256 ^ i:=Ve (by decide) (by omega)
     rw [Ua (Xl (by omega) this)]
    rw [hz] at h1
    simp only [Vm] at h1
    simp only [pbI,Gz,↓Zv,Jh,quiet,cF,↓pF,reduceCtorEq,Qd,Qp,Zo,Zj,Zq,Zi,Zg,Qk,Za,Qj,Q5,Ze,Zd,↓Zx,↓Zu,↓Z7,↓Jb,↓Z9,↓Ja,cL,Qo,Qn,Q2,Q1,Qy,Qr,Qq,Q0,Qe,Q8,Q9,Qz,Qi,Qh,Qg,Qx,Qw,Qv,Qm,Qf,cJ,hget,c1,w0,e0,e9,ep,fx,h1,hm])
  (fun x hx => by
   obtain ⟨s,Hc,rfl,hg,hL,hF⟩:=hx
   have e:((0:Int) ≤ -1) = False:=by decide
   refine ⟨_,?_,s,Hc,rfl,hg,hL,hF⟩
   rw [show (15:Int) - ((16:Nat):Int) = -1 by omega]
   simp only [pbI,Gz,Jh,quiet,cF,↓pF,reduceCtorEq,Qd,Qp,Zo,Zj,Zq,Zi,Zg,Qk,Za,Qj,Q5,Ze,Zd,↓Zx,↓Zu,↓Z7,↓Jb,↓Z9,↓Ja,cL,Qo,Qn,Q2,Q1,Qy,Qr,Qq,Q0,Qe,Q8,Q9,Qz,Qi,Qh,Qg,Qx,Qw,Qv,Qm,Qf,e])
 obtain ⟨l,rfl⟩:=By hL hF
 exact ⟨s,l,hb,hg⟩
theorem Q0k (n:Nat):Qe2 n = (128 :: Qa (Mm n) 0) ++ (Wu 16).map (Qpr n):=by unfold Qe2 Qpr; rw [Zb]
theorem Qpp {H:List Ob} {hid n:Nat} {rv:Value} {st:List Nat} (hh:H[hid]? = some (hob rv n st)) (hn:n < 2 ^ 50) :
  ∃ s l,Vx T 95 [.pointer (some ⟨hid,0,none⟩),.int .i64 128,.int .i64 16] H = some (s,H ++ l,[]) ∧ Grown .u8 H.length (H ++ l) s (Qe2 n):=by
 obtain ⟨s1,l1,h1,g1⟩:=Q0i hh hn
 have hz:=Qlg n
 obtain ⟨s2,l2,h2,g2⟩:=Q0h hh hn g1 (by simp; omega)
 rw [← Q0k] at g2
 refine ⟨s2,l2,?_,g2⟩
 have f128:fillL [Value.int .u8 0] [(0,1,.int .u8 128)] = some [.int .u8 128]:=rfl
 have w1:IntKind.i64.wrap 15 = 15:=by decide
 simp only [paI,Zb,Q6] at h1
 simp only [pbI,Zb,Q6] at h2
 rw [Jg (fn:=Quv) rfl]
 simp only [Quv,↓Zv,Jh,quiet,cF,↓pF,reduceCtorEq,Qd,Qp,Zo,Zj,Zq,Zi,Zg,Qk,Za,Qj,Q5,Ze,Zd,↓Zx,↓Zu,↓Z7,↓Jb,↓Z9,↓Ja,cL,Qo,Qn,Q2,Q1,Qy,Qr,Qq,Q0,Qe,Q8,Q9,Qz,Qi,Qh,Qg,Qx,Qw,Qv,Qm,Qf,cJ,f128,h1,w1,h2]
theorem Rst.elems {K:Nat → Prop} {H:List Ob} {v:Value} {l:List Nat} (h:Rst K H v l):elemsOf H 1 l.length v = some (u8s l):=by
 cases h with
 | nil => rfl
 | empty _ h2 => simp [elemsOf,Vr h2 rfl,u8s]
 | own h1 h2 h4 h3 => simp [elemsOf,Vr h2 rfl,Zt,h4,Qg7 h3]
theorem Qkw {K:Nat → Prop} {G:List Ob} {e:Nat} {x:Value} {p:List Nat} (he:G[e]? = some ⟨[],true,true,true,1⟩) (hKe:¬ K e) (hKg:¬ K G.length) (hl:Go.Ev.lenV x = some p.length) (hel:elemsOf G 1 p.length x = some (u8s p)) (hb:p.length ≤ 2 ^ 47) :
  ∃ v' l,Y4 1 1 G (.slice (some ⟨e,0,none⟩) 0 0) x = some (v',G ++ l,none,[]) ∧ Rst K (G ++ l) v' p ∧ Vy v' = true ∧ v'.cells.toList = [v'] ∧ v'.cells.size = 1:=by
 have h4:liveAt G e = some ⟨[],true,true,true,1⟩:=Vr he rfl
 rcases W5 p.length with hn | hn
 ·have:p = []:=Y0 hn
  subst this
  refine ⟨.slice (some ⟨e,0,none⟩) 0 0,[],?_,by rw [Xj]; exact .empty hKe he,rfl,rfl,rfl⟩
  rw [Zw] at hl hel
  simp only [Y4,hl,hel,Ql,if_true,Xj]
 ·have h1:¬ p.length = 0:=by omega
  have h2:p.length * 1 ≤ 2 ^ 47:=by omega
  have h7:¬ (p.length ≤ 0):=by omega
  have h8:elemsOf G 1 0 (.slice (some ⟨e,0,none⟩) 0 0) = some []:=by simp [elemsOf,h4]
  refine ⟨.slice (some ⟨G.length,0,none⟩) p.length p.length,[Ob.grown 1 (u8s p)],?_,.own (all:=p) hKg (by simp [Ob.grown]) (by omega) (fun i _ => by rw [Zm]),rfl,rfl,rfl⟩
  simp only [Y4,hl,hel,Ql,if_neg h1,Zm,h2,Qux,Tt,and_self,not_true_eq_false,if_false,if_true,h4,h8,if_neg h7,Q6]
theorem Rst.len {K:Nat → Prop} {H:List Ob} {v:Value} {l:List Nat} (h:Rst K H v l):Go.Ev.lenV v = some l.length:=by
 obtain ⟨a,c,rfl⟩:=h.shape; rfl
theorem D8 (b:List Nat):(sha b).length = 64:=by simp [sha]
theorem Qhh (b:List Nat):∀ x ∈ sha b,x < 256:=by
 intro x hx
 simp only [sha,Us] at hx
 obtain ⟨i,-,rfl⟩:=hx
 exact Js _ (by decide)
def suI (r x o:Nat) (G:List Ob) (b:List Nat) (i:Int) (ex:Env):St:=⟨[(2,.pointer (some ⟨r,0,none⟩)),(3,.pointer (some ⟨x,0,none⟩)),(4,.pointer (some ⟨G.length,0,none⟩)),(32,.int .i64 i)] ++ ex,G ++ [⟨u8s b,true,true,true,1⟩],[]⟩
theorem Qvs {r x base n:Nat} {G:List Ob} {rv:Value} {st R:List Nat} (hx:G[x]? = some (hob rv n st)) (hs:st.length = 8) (hR:R.length = 64) (hRi:∀ i,i < 64 → R[i]? = some (st.getD (i / 8) 0 / 256 ^ (7 - i % 8) % 256)) (hxs:∀ y ∈ st,y < 18446744073709551616) (hb:base ≤ G.length) :
  J9 T base (.block 0 (.loop Qeh)) (suI r x 0 G (Qa 64 0) 0 []) = some (.normal,suI r x 0 G R 64 [(33,.bool false)]):=by
 have h:=Uk (T:=T) (base:=base) (id:=0) (body:=Qeh) (fun i => suI r x 0 G (pf 64 R i) i []) (s':=suI r x 0 G R 64 [(33,.bool false)]) 64
  (fun i hi => by
   obtain ⟨w,hw⟩:∃ w,st[i / 8]? = some w:=⟨_,Qt (by omega)⟩
   have hw':=hxs w (Zs hw)
   have hv:=hRi i hi
   rw [U7 hw] at hv
   have hstep:=Rl hR hi hv
   have hlen:=Qa4 hR (Um hi)
   have hset:=Gt (pf 64 R i) i (w / 256 ^ (7 - i % 8) % 256)
   rw [hstep] at hset
   have gc:=Qrx (rv:=rv) (n:=n) hw
   have hget:∀ l:List Ob,(G ++ l)[x]? = some ⟨hcl rv n st,true,true,true,1⟩:=fun l => by rw [Qc (Qu.1 hx).1]; exact hx
   have e1:((i:Int) < 64) = True:=eq_true (by omega)
   have w3:IntKind.i64.wrap ((i:Int) + 1) = ((i + 1:Nat):Int):=Ug (b:=1) (by omega)
   have w4:IntKind.i64.wrap ((i:Int).tdiv 8) = ((i / 8:Nat):Int):=wn (n:=i / 8) (by omega)
   have e2:(((i / 8:Nat):Int) < 8) = True:=eq_true (by omega)
   have w5:(i:Int).tmod 8 = ((i % 8:Nat):Int):=rfl
   have w6:IntKind.i64.wrap (8 * ((i % 8:Nat):Int)) = ((8 * (i % 8):Nat):Int):=Qeq (a:=8) (by omega)
   have w7:IntKind.i64.wrap (56 - ((8 * (i % 8):Nat):Int)) = ((8 * (7 - i % 8):Nat):Int):=by rw [V6 (by omega) (by omega)]; omega
   have e3:(((8 * (7 - i % 8):Nat):Int) < 0) = False:=eq_false (by omega)
   have w8:(w:Int).fdiv (2 ^ min (8 * (7 - i % 8)) IntKind.u64.bits) = ((w / 256 ^ (7 - i % 8):Nat):Int):=by
    rw [Qcp (by omega),show (256:Nat) = 2 ^ 8 from rfl,← Ys]
   have w9:IntKind.u8.wrap ((w / 256 ^ (7 - i % 8):Nat):Int) = ((w / 256 ^ (7 - i % 8) % 256:Nat):Int):=Qf8 _
   have e4:(i ≤ 63) = True:=eq_true (by omega)
   have m1:Jj base [] [G.length] = []:=K9 (by simpa using hb)
   clear hstep hv hw
   generalize pf 64 R i = o1 at *
   generalize pf 64 R (i + 1) = o2 at *
   generalize w / 256 ^ (7 - i % 8) % 256 = d at *
   generalize w / 256 ^ (7 - i % 8) = d2 at *
   generalize 8 * (7 - i % 8) = d3 at *
   generalize 8 * (i % 8) = d4 at *
   generalize i % 8 = d5 at *
   generalize i / 8 = d6 at *
   generalize i + 1 = i1 at *
   simp only [suI,Qeh,↓Zv,Jh,quiet,cF,↓pF,reduceCtorEq,Qd,Qp,Zo,Zj,Zq,Zi,Zg,Qk,Za,Qj,Q5,Ze,Zd,↓Zx,↓Zu,↓Z7,↓Jb,↓Z9,↓Ja,cL,Qo,Qn,Q2,Q1,Qy,Qr,Qq,Q0,Qe,Q8,Q9,Qz,Qi,Qh,Qg,Qx,Qw,Qv,Qm,Qf,cJ,e1,e2,e3,e4,w3,w4,w5,w6,w7,w8,w9,hget,gc,hset,Zt,hlen,m1])
  (by
   rw [Qb0 hR]
   simp only [suI,Qeh,Jh,quiet,cF,↓pF,reduceCtorEq,Qd,Qp,Zo,Zj,Zq,Zi,Zg,Qk,Za,Qj,Q5,Ze,Zd,↓J7,↓J6,↓Xr,↓Xu,↓Xs,↓Xt,cL,Qo,Qn,Q2,Q1,Qy,Qr,Qq,Q0,Qe,Q8,Q9,Qz,Qi,Qh,Qg,Qx,Qw,Qv,Qm,Qf,cJ])
 rw [Qbz] at h
 exact h
theorem Grown.part {K:Nat → Prop} {B:Nat} {H:List Ob} {s:Value} {p:List Nat} (h:Grown .u8 B H s p) (hK:∀ i,B ≤ i → i < H.length → K i) (xp:∀ y ∈ p,y < 256) (hl:p.length ≤ 2 ^ 47 - 128) (h0:0 < p.length):HPart K H s p:=by
 refine ⟨?_,fun G hG => ?_,xp,hl⟩
 ·cases h with
  | nil => exact absurd h0 (by decide)
  | own _ _ _ => exact ⟨_,_,rfl⟩
  | new _ _ _ => exact ⟨_,_,rfl⟩
 ·cases h with
  | nil => exact absurd h0 (by decide)
  | @own id _ h1 h2 h3 =>
   have:=hG id (hK id h1 (Qu.1 h3).1)
   rw [h3] at this
   simp [elemsOf,Vr this rfl,Ob.grown,Kr]
   exact Zh (by rw [Kr]; exact Zf _)
  | @new id _ h1 h2 h3 =>
   have:=hG id (hK id h1 (Qu.1 h3).1)
   rw [h3] at this
   simp [elemsOf,Vr this rfl,Ob.fresh,Kr]
   exact Zh (by rw [Kr]; exact Zf _)
theorem Q0j (n:Nat):∀ y ∈ Qe2 n,y < 256:=by
 intro y hy
 simp only [Qe2,Y6,Xg,Qar,Us] at hy
 rcases hy with rfl | ⟨-,rfl⟩ | ⟨i,-,rfl⟩
 ·decide
 ·decide
 ·exact Js _ (by decide)
theorem Qhv (n:Nat):(Qe2 n).length = 17 + Mm n:=by simp [Qe2]; omega
theorem Rst.toK {K K':Nat → Prop} {H:List Ob} {v:Value} {l:List Nat} (h:Rst K H v l) (hk:∀ i,¬ K i → ¬ K' i):Rst K' H v l:=by
 cases h with
 | nil => exact .nil
 | empty h1 h2 => exact .empty (hk _ h1) h2
 | own h1 h2 h4 h3 => exact .own (hk _ h1) h2 h4 h3
theorem Hx:Qa 64 (Value.int .u8 0) = u8s (Qa 64 0):=rfl
theorem Qui (va:Option Addr) (rl vc m:Nat) {st:List Nat} (h:st.length = 8):fillL [Value.slice none 0 0,.int .u64 0,.int .u64 0,.int .u64 0,.int .u64 0,.int .u64 0,.int .u64 0,.int .u64 0,.int .u64 0,.int .u64 0] [(0,2,.agg [.slice va rl vc,.int .u64 m].toArray),(2,8,eV st)] = some (hcl (.slice va rl vc) m st):=by
 obtain ⟨a,b,c,d,e,f,g,i,rfl⟩:=eight h
 rfl
theorem Q57 {K:Nat → Prop} {H:List Ob} {hid:Nat} {all:List Nat} (hh:Hsh K H hid all) (xa:∀ y ∈ all,y < 256) (hn:all.length < 2 ^ 49) :
  ∃ H',Vx T 87 [.pointer (some ⟨hid,0,none⟩)] H = some (.agg (u8s (sha all)).toArray,H',[]) ∧ (∀ i,i < H.length → H'[i]? = H[i]?) ∧ H.length ≤ H'.length:=by
 obtain ⟨rv,h1,h2⟩:=hh
 have hlt:hid < H.length:=(Qu.1 h1).1
 obtain ⟨st,hst⟩:∃ s,s = stK (all.length / 128) all:=⟨_,rfl⟩
 have ls:st.length = 8:=by rw [hst]; exact Qgm _ _
 rw [← hst] at h1
 obtain ⟨G,hG⟩:∃ G,G = H ++ [⟨u8s (Qa 64 0),true,true,true,1⟩,⟨[],true,true,true,1⟩]:=⟨_,rfl⟩
 have hGl:G.length = H.length + 2:=by rw [hG]; simp
 have hrG:Rst K G rv (all.drop (128 * (all.length / 128))):=by rw [hG]; exact h2.app
 have heG:G[H.length + 1]? = some ⟨[],true,true,true,1⟩:=by rw [hG,Q3 (by omega),Z6]; rfl
 have hzG:G[H.length]? = some ⟨u8s (Qa 64 0),true,true,true,1⟩:=by rw [hG,Q3 (by omega),Xa]; rfl
 have hhG:G[hid]? = some (hob rv all.length st):=by rw [hG,Qc hlt]; exact h1
 obtain ⟨v',l,ha,hr',hok,hc1,hc2⟩:=Qkw (K:=fun i => i ≠ H.length + 1 ∧ i ≠ G.length) heG (by simp) (by simp) hrG.len hrG.elems (by rw [X7]; omega)
 obtain ⟨G2,hG2⟩:∃ X,X = G ++ l ++ [hob v' all.length st]:=⟨_,rfl⟩
 have hG2l:G2.length = G.length + l.length + 1:=by rw [hG2]; simp; omega
 obtain ⟨xid,hxid⟩:∃ x,x = (G ++ l).length:=⟨_,rfl⟩
 have hxl:xid = G.length + l.length:=by rw [hxid]; simp
 have hx2:G2[xid]? = some (hob v' all.length st):=by rw [hG2,hxid,Q3 (Zf _),Xa]; rfl
 have hh2:G2[hid]? = some (hob rv all.length st):=by
  have:hid < G.length:=by omega
  rw [hG2,Z1,Qc this]; exact hhG
 obtain ⟨s,l3,hp,hgr⟩:=Qpp hh2 (by omega)
 obtain ⟨G4,hG4⟩:∃ X,X = G2 ++ l3 ++ [⟨[s],true,true,true,1⟩]:=⟨_,rfl⟩
 have hG4l:G4.length = G2.length + l3.length + 1:=by rw [hG4]; simp; omega
 have hgr4:Grown .u8 G2.length G4 s (Qe2 all.length):=by rw [hG4]; exact hgr.app
 obtain ⟨K2,hK2⟩:∃ K2:Nat → Prop,K2 = fun i => i < G4.length ∧ i ≠ xid ∧ i ≠ H.length + 1 ∧ i ≠ G.length:=⟨_,rfl⟩
 have hx4:G4[xid]? = some (hob v' all.length st):=by rw [hG4,Z1,Qc (by omega)]; exact hx2
 have hsh4:Hsh K2 G4 xid all:=by
  refine ⟨v',by rw [← hst]; exact hx4,?_⟩
  have:=(hr'.app (m:=[hob v' all.length st])).app (m:=l3 ++ [⟨[s],true,true,true,1⟩])
  rw [← hG2,← Z1,← hG4] at this
  exact this.toK fun i hi hk => by
   rw [hK2] at hk
   exact hi ⟨hk.2.2.1,hk.2.2.2⟩
 have hpz:=Qlg all.length
 have hpart:HPart K2 G4 s (Qe2 all.length):=Grown.part hgr4 (fun i h1 h2 => by rw [hK2]; exact ⟨h2,by omega,by omega,by omega⟩) (Q0j _) (by rw [Qhv]; omega) (by rw [Qhv]; omega)
 have harr:(G2 ++ l3).length < G4.length:=by rw [hG4]; simp
 have hpv:PV K2 G4 (.slice (some ⟨(G2 ++ l3).length,0,none⟩) 1 1) [s] := .inr ⟨_,0,1,_,rfl,by rw [hK2]; exact ⟨harr,by simp; omega,by simp; omega,by simp; omega⟩,by rw [hG4,Q3 (Zf _),Xa]; rfl,rfl,fun i _ => by rw [Zm]⟩
 have hKx:¬ K2 xid:=by rw [hK2]; intro h; exact h.2.1 rfl
 obtain ⟨G5,M5,hw,hsh5,hf5,hl5,hM5⟩:=Qma (fun i hi => by rw [hK2] at hi; exact hi.1) hKx hsh4 xa hpv (.cons hpart .nil) (by show 1 < 2 ^ 50; decide) (by simp [Qhv]; omega)
 rw [Xn,Ye,Xj] at hsh5
 obtain ⟨rv5,hx5,-⟩:=hsh5
 obtain ⟨st5,hst5⟩:∃ s,s = stK ((all ++ Qe2 all.length).length / 128) (all ++ Qe2 all.length):=⟨_,rfl⟩
 rw [← hst5] at hx5
 have ls5:st5.length = 8:=by rw [hst5]; exact Qgm _ _
 have xs5:∀ y ∈ st5,y < 18446744073709551616:=by rw [hst5]; exact Qvw _ _
 have hb5:H.length ≤ G5.length:=by omega
 have hsu:=Qvs (r:=H.length) (base:=H.length) hx5 ls5 (D8 all) (fun i hi => by simp [sha,hi,hst5]) xs5 hb5
 have hz5:G5[H.length]? = some ⟨u8s (Qa 64 0),true,true,true,1⟩:=by
  rw [hf5 _ (by rw [hK2]; exact ⟨by omega,by omega,by omega,by omega⟩),hG4,Z1,Qc (by omega),hG2,Z1,Qc (by omega)]
  exact hzG
 have hfr:∀ i,i < H.length → G5[i]? = H[i]? := fun i hi => by
  rw [hf5 _ (by rw [hK2]; exact ⟨by omega,by omega,by omega,by omega⟩),hG4,Z1,Qc (by omega),hG2,Z1,Qc (by omega),hG,Qc hi]
 have hm5:Jj H.length [] M5 = []:=K9 fun i hi => by
  have:=hM5 i hi
  rw [hK2] at this
  rcases Yc i H.length with h | h
  ·exact absurd (show i < G4.length ∧ i ≠ xid ∧ i ≠ H.length + 1 ∧ i ≠ G.length from ⟨by omega,by omega,by omega,by omega⟩) this
  ·exact h
 refine ⟨(G5 ++ [(⟨u8s (sha all),true,true,true,1⟩:Ob)]).set H.length (⟨u8s (sha all),true,true,true,1⟩:Ob),?_,fun i hi => by rw [Z3 (by omega),Qc (by omega)]; exact hfr i hi,by rw [Jt,Zc]; omega⟩
 have hz:=Hx
 have lz:(Qa 64 0).length = 64:=Q7
 have lsh:=D8 all
 have cst:=Qkl (rv:=rv) (n:=all.length) ls
 have c0:(hcl rv all.length st)[0]? = some rv:=rfl
 have c1:(hcl rv all.length st)[1]? = some (.int .u64 all.length):=rfl
 have hcl8:2 + 8 ≤ (hcl rv all.length st).length:=by rw [Qb5]; omega
 obtain ⟨va,vc,rfl⟩:=hr'.shape
 generalize (all.drop (128 * (all.length / 128))).length = rl at *
 have fl1:fillL [Value.slice none 0 0,.int .u64 0] [(0,1,.slice va rl vc),(1,1,.int .u64 all.length)] = some [.slice va rl vc,.int .u64 all.length]:=rfl
 have fl2:=Qui va rl vc all.length ls
 have fls:fillL [Value.slice none 0 0] [(0,1,s)] = some [s]:=by
  obtain ⟨sa,sc,hsh⟩:=hpart.shape
  rw [hsh]; rfl
 have f0:fillL [] [] = some []:=rfl
 have F1:H ++ [⟨u8s (Qa 64 0),true,true,true,1⟩,⟨[],true,true,true,1⟩] = G:=hG.symm
 have Fx:G.length + l.length = xid:=hxl.symm
 have F2:G ++ (l ++ [⟨hcl (.slice va rl vc) all.length st,true,true,true,1⟩]) = G2:=by rw [hG2,Z1]; rfl
 have F4:G2 ++ (l3 ++ [⟨[s],true,true,true,1⟩]) = G4:=by rw [hG4,Z1]
 have g1:G[hid]? = some ⟨hcl rv all.length st,true,true,true,1⟩:=hhG
 have g2:(G ++ l)[hid]? = some ⟨hcl rv all.length st,true,true,true,1⟩:=by rw [Qc (by omega)]; exact hhG
 have g5:∀ o:Ob,(G5 ++ [o])[H.length]? = some ⟨u8s (Qa 64 0),true,true,true,1⟩:=fun o => by rw [Qc (by omega)]; exact hz5
 have g6:∀ o o':Ob,((G5 ++ [o]).set H.length o')[H.length]? = some o':=fun o o' => Jq (by rw [Zc]; omega)
 have okcl:(hcl (.slice va rl vc) all.length st).all Vy = true:=by
  show (Vy (.slice va rl vc) && (Vy (.int .u64 all.length) && (ns .u64 st).all Vy)) = true
  have:(ns .u64 st).all Vy = true:=by
   rw [Yj]; intro y hy
   simp only [ns,Us] at hy
   obtain ⟨m,-,rfl⟩:=hy; rfl
  rw [this]; rfl
 rw [Zc] at hw
 simp only [suI,Zb,Q6,Vm] at hsu
 have hge:H.length ≤ H.length + 1:=by omega
 generalize hcl rv all.length st = C1 at *
 generalize hcl (.slice va rl vc) all.length st = C2 at *
 generalize sha all = R at *
 generalize Qa 64 0 = Z64 at *
 rw [Jg (fn:=Q3t) rfl]
 simp only [Q3t,↓Zv,Jh,quiet,cF,↓pF,reduceCtorEq,Qd,Qp,Zo,Zj,Zq,Zi,Zg,Qk,Za,Qj,Q5,Ze,Zd,↓Zx,↓Zu,↓Z7,↓Jb,↓Z9,↓Ja,cL,Qo,Qn,Q2,Q1,Qy,Qr,Qq,Q0,Qe,Q8,Q9,Qz,Qi,Qh,Qg,Qx,Qw,Qv,Qm,Qf,cJ,hz,f0,F1,g1,g2,c0,c1,ha,fl1,cst,hcl8,Xv,Ko,Yg,Kp,fl2,Fx,F2,hp,fls,F4,hw,hm5,hsu,g5,g6,Zt,lz,lsh,X9,Q7]
theorem Qso {H:List Ob} {pv:Value} {xs:List Value} {ps:List (List Nat)} (hp:PV (fun i => i < H.length) H pv xs) (hP:HParts (fun i => i < H.length) H xs ps) (hn:xs.length < 2 ^ 50) (hb:ps.flatten.length < 2 ^ 49) :
  ∃ l,Vx T 50 [pv] H = some (.agg (u8s (sha ps.flatten)).toArray,H ++ l,[]):=by
 obtain ⟨H1,hH1⟩:∃ X,X = H ++ [⟨u8s (Qa 64 0),true,true,true,1⟩,hob (.slice none 0 0) 0 Qcq]:=⟨_,rfl⟩
 have hl1:H1.length = H.length + 2:=by rw [hH1]; simp
 have hg1:H1[H.length + 1]? = some (hob (.slice none 0 0) 0 Qcq):=by rw [hH1,Q3 (by omega),Z6]; rfl
 have hz1:H1[H.length]? = some ⟨u8s (Qa 64 0),true,true,true,1⟩:=by rw [hH1,Q3 (by omega),Xa]; rfl
 have hf1:∀ i,i < H.length → H1[i]? = H[i]? := fun i hi => by rw [hH1,Qc hi]
 have hp1:PV (fun i => i < H.length + 1) H1 pv xs:=by
  rcases hp with h | ⟨pid,off,cap,o,h1,h2,h3,h4,h5⟩
  ·exact .inl h
  ·exact .inr ⟨pid,off,cap,o,h1,Hn h2,(hf1 _ h2).trans h3,h4,h5⟩
 have hP1:HParts (fun i => i < H.length + 1) H1 xs ps:=by
  clear hn hb hp hp1
  induction hP with
  | nil => exact .nil
  | cons a _ ih => exact .cons ⟨a.shape,fun G hG => a.reads G fun i hi => (hG i (Hn hi)).trans (hf1 i hi),a.lt,a.le⟩ ih
 obtain ⟨H2,M2,hw,s2,f2,l2,m2⟩:=Qma (K:=fun i => i < H.length + 1) (hid:=H.length + 1) (fun i hi => by have:i < H.length + 1:=hi; omega) (Xb _) (Q03 hg1) (by simp) hp1 hP1 hn (by rw [Q6]; omega)
 rw [Q6] at s2
 obtain ⟨H3,hs3,f3,l3⟩:=Q57 s2 hP.lt hb
 have hm2:Jj H.length [] M2 = []:=K9 fun i hi => by
  have:¬ i < H.length + 1:=m2 i hi
  omega
 have g3:H3[H.length]? = some ⟨u8s (Qa 64 0),true,true,true,1⟩:=by
  rw [f3 _ (by omega),f2 _ (Nat.lt_succ_self _)]; exact hz1
 have hfr:∀ i,i < H.length → (H3.set H.length (⟨u8s (sha ps.flatten),true,true,true,1⟩:Ob))[i]? = H[i]? := fun i hi => by
  rw [Z3 (by omega),f3 _ (by omega),f2 _ (Hn hi)]; exact hf1 i hi
 have hle:H.length ≤ (H3.set H.length (⟨u8s (sha ps.flatten),true,true,true,1⟩:Ob)).length:=by rw [Jt]; omega
 obtain ⟨l,hl⟩:=By hle hfr
 refine ⟨l,?_⟩
 rw [← hl]
 have hz:=Hx
 have lz:(Qa 64 0).length = 64:=Q7
 have lsh:=D8 ps.flatten
 have hnew:=Q6u (H ++ [⟨u8s (Qa 64 0),true,true,true,1⟩])
 have e1:(H ++ [(⟨u8s (Qa 64 0),true,true,true,1⟩:Ob)]).length = H.length + 1:=by simp
 rw [e1,Z1,Zb,Q6,← hH1] at hnew
 have g4:∀ o:Ob,(H3.set H.length o)[H.length]? = some o:=fun o => Jq (by omega)
 generalize sha ps.flatten = R at *
 generalize Qa 64 0 = Z64 at *
 rw [Jg (fn:=Q3w) rfl]
 simp only [Q3w,↓Zv,Jh,quiet,cF,↓pF,reduceCtorEq,Qd,Qp,Zo,Zj,Zq,Zi,Zg,Qk,Za,Qj,Q5,Ze,Zd,↓Zx,↓Zu,↓Z7,↓Jb,↓Z9,↓Ja,cL,Qo,Qn,Q2,Q1,Qy,Qr,Qq,Q0,Qe,Q8,Q9,Qz,Qi,Qh,Qg,Qx,Qw,Qv,Qm,Qf,cJ,hz,hnew,hw,hm2,hs3,g3,g4,Xv,Ko,Yg,Kp,Zt,lz,lsh,X9,Q7]
theorem Qpq (p:Go.Cv.Pt Go.Fp.P Go.Fp.d):Wy p Bx = p:=Go.Cv.add_zero Go.Fp.fld p
theorem Qm6 (p:Go.Cv.Pt Go.Fp.P Go.Fp.d):Wy p p.neg = Bx:=Go.Cv.add_neg Go.Fp.fld p
theorem Qm4 (a b:Nat) (p:Go.Cv.Pt Go.Fp.P Go.Fp.d):Y2 (a + b) p = Wy (Y2 a p) (Y2 b p):=Go.Cv.mul_add Go.Fp.fld a b p
theorem Qdq (a b:Nat) (p:Go.Cv.Pt Go.Fp.P Go.Fp.d):Y2 (a * b) p = Y2 a (Y2 b p):=Go.Cv.Qgs Go.Fp.fld a b p
theorem Qm3 {l:Nat} {p:Go.Cv.Pt Go.Fp.P Go.Fp.d} (hl:Y2 l p = Bx) (k:Nat):Y2 (k % l) p = Y2 k p:=Go.Cv.mul_mod Go.Fp.fld hl k
theorem Qj3 (k:Nat):Y2 k Bx = Bx:=Go.Cv.mul_zero Go.Fp.fld k
abbrev LtN (n:Nat):Nat → Prop:=fun i => i < n
theorem HPart.arr {n id off m c:Nat} {H:List Ob} {b:List Nat} {w e:Bool} {s:Nat} (hid:id < n) (h:H[id]? = some ⟨u8s b,true,w,e,s⟩) (hb:∀ y ∈ b,y < 256) (hl:off + m ≤ b.length) (hm:m ≤ 2 ^ 47 - 4096):HPart (LtN n) H (.slice (some ⟨id,off,none⟩) m c) ((b.drop off).take m):=by
 have hlen:((b.drop off).take m).length = m:=by rw [Km,X7]; omega
 refine ⟨⟨_,_,by rw [hlen]⟩,fun G hG => ?_,fun y hy => hb y (Yo (Vk hy)),by rw [hlen]; omega⟩
 have hg:=(hG id hid).trans h
 rw [hlen]
 simp [elemsOf,Vr hg rfl,Zt,hl]
 simp [u8s,List.map_take,List.map_drop]
theorem HPart.whole {n id c:Nat} {H:List Ob} {b:List Nat} {w e:Bool} {s:Nat} (hid:id < n) (h:H[id]? = some ⟨u8s b,true,w,e,s⟩) (hb:∀ y ∈ b,y < 256) (hm:b.length ≤ 2 ^ 47 - 4096):HPart (LtN n) H (.slice (some ⟨id,0,none⟩) b.length c) b:=by
 have:=HPart.arr (off:=0) (m:=b.length) (c:=c) hid h hb (by omega) hm
 rwa [Q5,Dd] at this
theorem HPart.ext {n m:Nat} {H G:List Ob} {x:Value} {p:List Nat} (h:HPart (LtN n) H x p) (hg:∀ i,i < n → G[i]? = H[i]?) (hnm:n ≤ m):HPart (LtN m) G x p :=
 ⟨h.shape,fun G' hG' => h.reads G' fun i hi => (hG' i (Xl hi hnm)).trans (hg i hi),h.lt,h.le⟩
theorem HParts.ext {n m:Nat} {H G:List Ob} {xs:List Value} {ps:List (List Nat)} (h:HParts (LtN n) H xs ps) (hg:∀ i,i < n → G[i]? = H[i]?) (hnm:n ≤ m):HParts (LtN m) G xs ps:=by
 induction h with
 | nil => exact .nil
 | cons a _ ih => exact .cons (a.ext hg hnm) ih
theorem HParts.append {K:Nat → Prop} {H:List Ob} {xs ys:List Value} {ps qs:List (List Nat)} (h:HParts K H xs ps) (k:HParts K H ys qs):HParts K H (xs ++ ys) (ps ++ qs):=by
 induction h with
 | nil => exact k
 | cons a _ ih => exact .cons a ih
structure Args1 (H:List Ob) (pv:Value) (ps:List (List Nat)) (xs:List Value):Prop where
 inPv:PV (LtN H.length) H pv xs
 parts:HParts (LtN H.length) H xs ps
 few:xs.length < 2 ^ 40
 len:Go.Ev.lenV pv = some xs.length
 reads:∀ G:List Ob,(∀ i,i < H.length → G[i]? = H[i]?) → elemsOf G 1 xs.length pv = some xs
def Args (H:List Ob) (pv:Value) (ps:List (List Nat)):Prop:=∃ xs,Args1 H pv ps xs
theorem Args.ext {H G:List Ob} {pv:Value} {ps:List (List Nat)} (h:Args H pv ps) (hg:∀ i,i < H.length → G[i]? = H[i]?) (hl:H.length ≤ G.length):Args G pv ps:=by
 obtain ⟨xs,h1,h2,h3,h4,h5⟩:=h
 refine ⟨xs,?_,h2.ext hg hl,h3,h4,fun G' hG' => h5 G' fun i hi => (hG' i (Xl hi hl)).trans (hg i hi)⟩
 rcases h1 with h | ⟨pid,off,cap,o,a1,a2,a3,a4,a5⟩
 ·exact .inl h
 ·exact .inr ⟨pid,off,cap,o,a1,Xl a2 hl,(hg pid a2).trans a3,a4,a5⟩
theorem Args.app {H l:List Ob} {pv:Value} {ps:List (List Nat)} (h:Args H pv ps):Args (H ++ l) pv ps:=h.ext (fun i hi => Qc hi) (by simp)
theorem Args.nothing (H:List Ob):Args H (.slice none 0 0) []:=⟨[],.inl ⟨rfl,rfl⟩,.nil,by decide,rfl,fun _ _ => rfl⟩
theorem Args.arr {H:List Ob} {a n c:Nat} {e:Bool} {s:Nat} {ys:List Value} {qs:List (List Nat)} (ha:H[a]? = some ⟨ys,true,true,e,s⟩) (hn:ys.length = n) (hys:HParts (LtN H.length) H ys qs) (hf:n < 2 ^ 40):Args H (.slice (some ⟨a,0,none⟩) n c) qs:=by
 subst hn
 refine ⟨ys,.inr ⟨a,0,c,_,rfl,(Qu.1 ha).1,ha,rfl,fun i _ => by rw [Zm]⟩,hys,hf,rfl,fun G hG => ?_⟩
 have hg:=(hG a (Qu.1 ha).1).trans ha
 simp [elemsOf,Vr hg rfl]
theorem Qbl {H:List Ob} {a n:Nat} {ys:List Value} {pv:Value} {qs ps:List (List Nat)} (ha:H[a]? = some ⟨ys,true,true,true,1⟩) (hn:ys.length = n) (hys:HParts (LtN H.length) H ys qs) (hp:Args H pv ps) (h10:n ≤ 10) (hps:ps.length ≤ 1000) :
  ∃ v' l,Y4 1 24 H (.slice (some ⟨a,0,none⟩) n n) pv = some (v',H ++ l,none,[]) ∧ Args (H ++ l) v' (qs ++ ps):=by
 have hAr:Args H (.slice (some ⟨a,0,none⟩) n n) qs:=Args.arr ha hn hys (by omega)
 subst hn
 obtain ⟨xs,hp⟩:=hp
 have h4:liveAt H a = some ⟨ys,true,true,true,1⟩:=Vr ha rfl
 have h8:elemsOf H 1 ys.length (.slice (some ⟨a,0,none⟩) ys.length ys.length) = some ys:=by simp [elemsOf,h4]
 have k1:=hp.len
 have k2:=hp.reads H (fun _ _ => rfl)
 have k3:=hp.few
 have k4:=hp.parts.len
 rcases W5 xs.length with h0 | h0
 ·have hx:xs = []:=Y0 h0
  have hps':ps = []:=Y0 (by rw [hp.parts.len,h0])
  subst hx hps'
  refine ⟨.slice (some ⟨a,0,none⟩) ys.length ys.length,[],?_,by rw [Xj,Xj]; exact hAr⟩
  rw [Zw] at k1 k2
  simp only [Y4,k1,k2,Ql,if_true,Xj]
 ·have h1:¬ xs.length = 0:=by omega
  have h2:(ys.length + xs.length) * 24 ≤ 2 ^ 47:=by omega
  have h7:¬ (ys.length + xs.length ≤ ys.length):=by omega
  refine ⟨.slice (some ⟨H.length,0,none⟩) (ys.length + xs.length) (ys.length + xs.length),[Ob.grown 1 (ys ++ xs)],?_,?_⟩
  ·simp only [Y4,k1,k2,Ql,if_neg h1,h2,Qo2,Qux,Tt,and_self,not_true_eq_false,if_false,if_true,h4,h8,if_neg h7]
  ·refine Args.arr (ys:=ys ++ xs) (e:=false) (s:=1) (by rw [Q3 (Zf _),Xa]; rfl) (by simp) ?_ (by omega)
   exact (hys.ext (fun i hi => Qc hi) (by simp)).append (hp.parts.ext (fun i hi => Qc hi) (by simp))
theorem Qmo {H:List Ob} {pv:Value} {ps:List (List Nat)} (h:Args H pv ps) (hb:ps.flatten.length < 2 ^ 49):∃ l,Vx T 50 [pv] H = some (.agg (u8s (sha ps.flatten)).toArray,H ++ l,[]):=by
 obtain ⟨xs,h⟩:=h
 have:=h.few
 exact Qso h.inPv h.parts (by omega) hb
def Qhm (b:List Nat):List Nat:=rd (sha b)
theorem Qdo {b:List Nat}:(Qhm b).length = 32:=Q6c
theorem Qgp {b:List Nat}:∀ x ∈ Qhm b,x < 256:=rd_lt
theorem Ry {H:List Ob} {pv:Value} {ps:List (List Nat)} (h:Args H pv ps) (hb:ps.flatten.length < 2 ^ 49) :
  ∃ l,Vx T 30 [pv] H = some (.agg (u8s (Qhm ps.flatten)).toArray,H ++ l,[]):=by
 have hz:Qa 32 (Value.int .u8 0) = u8s (dig 256 32 0):=rfl
 have lz:(dig 256 32 0).length = 32:=rfl
 have hz64:=Hx
 have lz64:(Qa 64 0).length = 64:=Q7
 obtain ⟨l1,h1⟩:=Qmo (h.app (l:=[⟨u8s (dig 256 32 0),true,true,true,1⟩])) hb
 have ls:=D8 ps.flatten
 have xs:=Qhh ps.flatten
 obtain ⟨G,hG⟩:∃ X,X = H ++ (⟨u8s (dig 256 32 0),true,true,true,1⟩ :: (l1 ++ [⟨u8s (sha ps.flatten),true,true,true,1⟩,⟨[.slice (some ⟨H.length + (l1.length + 1),0,none⟩) 64 64],true,true,true,1⟩])):=⟨_,rfl⟩
 have hGl:G.length = H.length + (l1.length + 3):=by rw [hG]; simp
 have hg1:G[H.length + (l1.length + 1)]? = some ⟨u8s (sha ps.flatten),true,true,true,1⟩:=by
  rw [hG,Q3 (by omega),Z6,Zl,Q3 (Zf _),Xa]; rfl
 have hg2:G[H.length + (l1.length + 1 + 1)]? = some ⟨[.slice (some ⟨H.length + (l1.length + 1),0,none⟩) 64 64],true,true,true,1⟩:=by
  rw [hG,Q3 (by omega),Z6,Zl,Q3 (by omega),Z6]; rfl
 have hP:Qzd .u8 G (H.length + (l1.length + 1 + 1)) 0 [sha ps.flatten]:=by
  refine ⟨_,Vr hg2 rfl,fun i p hi => ?_⟩
  cases i with
  | zero =>
   simp at hi; subst hi
   refine ⟨_,rfl,?_⟩
   have:=Sl.mk (k := .u8) (c:=64) (off:=0) (l:=sha ps.flatten) (Vr hg1 rfl) (by simp [Zt]) (fun i x hx => by rw [Zm]; exact Uh hx)
   rwa [ls] at this
  | succ i => simp at hi
 obtain ⟨l2,h2⟩:=Qsy (c:=1) (n:=1) hP rfl (by decide) (by simp [ls]) (by simpa using xs)
 rw [Xn,Ye,Xj] at h2
 have hfr:∀ i,i < H.length → ((G ++ l2).set H.length (⟨u8s (Qhm ps.flatten),true,true,true,1⟩:Ob))[i]? = H[i]? := fun i hi => by
  rw [Z3 (by omega),Qc (by omega),hG,Qc hi]
 obtain ⟨l,hl⟩:=By (H:=H) (by rw [Jt,Zc]; omega) hfr
 refine ⟨l,?_⟩
 rw [← hl]
 have g4:∀ o:Ob,((G ++ l2).set H.length o)[H.length]? = some o:=fun o => Jq (by rw [Zc]; omega)
 have f1:fillL [Value.slice none 0 0] [(0,1,.slice (some ⟨H.length + (l1.length + 1),0,none⟩) 64 64)] = some [.slice (some ⟨H.length + (l1.length + 1),0,none⟩) 64 64]:=rfl
 have lr:=Qdo (b:=ps.flatten)
 rw [show dig 256 32 (num 256 (sha ps.flatten) % ell) = Qhm ps.flatten from rfl] at h2
 have F1:H ++ (⟨u8s (dig 256 32 0),true,true,true,1⟩ :: (l1 ++ [⟨u8s (sha ps.flatten),true,true,true,1⟩,⟨[.slice (some ⟨H.length + (l1.length + 1),0,none⟩) 64 64],true,true,true,1⟩])) = G:=hG.symm
 have hg3:(G ++ l2)[H.length]? = some ⟨u8s (dig 256 32 0),true,true,true,1⟩:=by
  rw [Qc (by omega),hG,Q3 (Zf _),Xa]; rfl
 rw [Z1,Zb,Q6] at h1
 generalize Qhm ps.flatten = R at *
 generalize sha ps.flatten = S at *
 generalize dig 256 32 0 = Z at *
 generalize Qa 64 0 = Z64 at *
 rw [Jg (fn:=Q3x) rfl]
 simp only [Q3x,↓Zv,Jh,quiet,cF,↓pF,reduceCtorEq,Qd,Qp,Zo,Zj,Zq,Zi,Zg,Qk,Za,Qj,Q5,Ze,Zd,↓Zx,↓Zu,↓Z7,↓Jb,↓Z9,↓Ja,cL,Qo,Qn,Q2,Q1,Qy,Qr,Qq,Q0,Qe,Q8,Q9,Qz,Qi,Qh,Qg,Qx,Qw,Qv,Qm,Qf,cJ,hz,hz64,h1,f1,F1,h2,hg3,g4,Xv,Ko,Yg,Kp,Zt,lz,lz64,ls,lr,X9,Q7]
def scL (s:List Nat):List Nat:=Bw ((sha s).take 32) ((sha s).getD 0 0) ((sha s).getD 31 0)
def pfL (s:List Nat):List Nat:=(sha s).drop 32
theorem Qbw (s:List Nat):(scL s).length = 32:=by simp [scL,Bw,D8]
theorem Qgq (s:List Nat):(pfL s).length = 32:=by simp [pfL,D8]
theorem Qey (s:List Nat) {i:Nat} (h:i < 64):∃ x,(sha s)[i]? = some x ∧ (sha s).getD i 0 = x ∧ x < 256:=by
 obtain ⟨x,hx⟩:∃ x,(sha s)[i]? = some x:=⟨_,Qt (by rw [D8]; exact h)⟩
 exact ⟨x,hx,U7 hx,Qhh s x (Zs hx)⟩
theorem Qlb (s:List Nat):∀ y ∈ scL s,y < 256:=by
 obtain ⟨x,-,e1,lx⟩:=Qey s (i:=0) (by decide)
 obtain ⟨z,-,e2,lz⟩:=Qey s (i:=31) (by decide)
 have h1:x &&& 248 < 256:=U4 (n:=8) _ (by decide)
 have h2:(z &&& 127) ||| 64 < 256:=Hm (n:=8) (U4 (n:=8) _ (by decide)) (by decide)
 rw [scL,Bw,e1,e2]
 exact Mi (Mi (fun y hy => Qhh s y (Vk hy)) h1) h2
theorem Q6g (s:List Nat):∀ y ∈ pfL s,y < 256:=fun y hy => Qhh s y (Yo hy)
theorem Gc (n:Nat) (l:List Nat):Vw n (u8s l) = u8s (l.take n):=by simp [u8s,List.map_take]
theorem Tc (n:Nat) (l:List Nat):Wk n (u8s l) = u8s (l.drop n):=by simp [u8s,List.map_drop]
theorem Ui (a b:List Nat):u8s (a ++ b) = u8s a ++ u8s b:=by simp [u8s]
theorem U2 {a b:List Nat} (la:a.length = 32) (lb:b.length = 32):fillL (u8s (Qa 64 0)) [(0,32,.agg (u8s a).toArray),(32,32,.agg (u8s b).toArray)] = some (u8s (a ++ b)):=by
 have l64:(u8s (Qa 64 0)).length = 64:=by rw [Zt,Q7]
 have lA:(u8s a).length = 32:=by rw [Zt,la]
 have lB:(u8s b).length = 32:=by rw [Zt,lb]
 have ca:∀ l:List Nat,(Value.agg (u8s l).toArray).cells.toList = u8s l:=fun _ => rfl
 have cz:∀ l:List Nat,(Value.agg (u8s l).toArray).cells.size = (u8s l).length:=fun _ => rfl
 have ok:∀ l:List Nat,Vy (Value.agg (u8s l).toArray) = true:=fun _ => rfl
 have s1:splice (u8s (Qa 64 0)) 0 (u8s a) = u8s a ++ (u8s (Qa 64 0)).drop 32:=by
  rw [B8 _ _ _ (by omega),Za,Q6,Zm,lA]
 have s2:splice (u8s a ++ (u8s (Qa 64 0)).drop 32) 32 (u8s b) = u8s (a ++ b):=by
  rw [B8 _ _ _ (by rw [Zc,X7]; omega),V2 (by omega),Zh (by omega),Yx (by rw [Zc,X7]; omega),Xj,Ui]
 have e1:(u8s a).length = 32 ∧ 0 + 32 ≤ (u8s (Qa 64 0)).length ∧ True:=⟨lA,by omega,trivial⟩
 have e2:(u8s b).length = 32 ∧ 32 + 32 ≤ (u8s a ++ (u8s (Qa 64 0)).drop 32).length ∧ True:=⟨lB,by rw [Zc,X7]; omega,trivial⟩
 simp only [fillL,ca,cz,ok,s1,s2,if_pos e1,if_pos e2]
theorem Qn4 {s:List Nat} (ls:s.length = 32) (xs:∀ y ∈ s,y < 256):Vs T 26 [.agg (u8s s).toArray] = some (.agg (u8s (scL s ++ pfL s)).toArray):=by
 have hz64:=Hx
 have lz64:(Qa 64 0).length = 64:=Q7
 obtain ⟨G,hG⟩:∃ X,X = [(⟨u8s s,true,true,true,1⟩:Ob),⟨u8s (Qa 64 0),true,true,true,1⟩,⟨[.slice (some ⟨0,0,none⟩) 32 32],true,true,true,1⟩]:=⟨_,rfl⟩
 have hA:Args G (.slice (some ⟨2,0,none⟩) 1 1) [s]:=by
  have hp:HPart (LtN G.length) G (.slice (some ⟨0,0,none⟩) 32 32) s:=by
   have:=HPart.whole (n:=G.length) (H:=G) (id:=0) (c:=32) (b:=s) (by rw [hG]; exact Qo2 _) (by rw [hG]; rfl) xs (by rw [ls]; decide)
   rwa [ls] at this
  exact Args.arr (ys:=[.slice (some ⟨0,0,none⟩) 32 32]) (e:=true) (s:=1) (by rw [hG]; rfl) rfl (.cons hp .nil) (by decide)
 obtain ⟨l,h1⟩:=Qmo hA (by simp [ls])
 rw [Xn,Ye,Xj,hG] at h1
 simp only [Zb,Q6] at h1
 obtain ⟨x,g0,d0,lx⟩:=Qey s (i:=0) (by decide)
 obtain ⟨z,g31,d31,lz⟩:=Qey s (i:=31) (by decide)
 have lS:=D8 s
 have lt32:((sha s).take 32).length = 32:=by rw [Km,lS]; rfl
 obtain ⟨lc,hc⟩:=Qoo (a:=(sha s).take 32) (x:=x) (y:=z) lt32 (by rw [Vi,if_pos (by decide)]; exact g0) (by rw [Vi,if_pos (by decide)]; exact g31) lx lz
 have hcv:=Qbg hc
 rw [show Bw ((sha s).take 32) x z = scL s by rw [scL,d0,d31]] at hcv
 have hf:=U2 (Qbw s) (Qgq s)
 have f1:fillL [Value.slice none 0 0] [(0,1,.slice (some ⟨0,0,none⟩) 32 32)] = some [.slice (some ⟨0,0,none⟩) 32 32]:=rfl
 have t1:Vw 32 (u8s (sha s)) = u8s ((sha s).take 32):=Gc _ _
 have t2:Vw 32 (Wk 32 (u8s (sha s))) = u8s (pfL s):=by rw [Tc,Gc,Zh (by rw [X7,lS]; decide)]; rfl
 have l1:=Qbw s
 have l2:=Qgq s
 have l3:(scL s ++ pfL s).length = 64:=by rw [Zc,l1,l2]
 clear hG hA
 generalize (sha s).take 32 = S1 at *
 generalize pfL s = S2 at *
 generalize scL s = S3 at *
 generalize S3 ++ S2 = R at *
 generalize sha s = S at *
 generalize Qa 64 0 = Z64 at *
 apply K8
 apply Jl
 rw [Jg (fn:=Q3y) rfl]
 simp only [Q3y,↓Zv,Jh,quiet,cF,↓pF,reduceCtorEq,Qd,Qp,Zo,Zj,Zq,Zi,Zg,Qk,Za,Qj,Q5,Ze,Zd,↓Zx,↓Zu,↓Z7,↓Jb,↓Z9,↓Ja,cL,Qo,Qn,Q2,Q1,Qy,Qr,Qq,Q0,Qe,Q8,Q9,Qz,Qi,Qh,Qg,Qx,Qw,Qv,Qm,Qf,cJ,hz64,h1,f1,t1,t2,hcv,hf,Xv,Ko,Yg,Kp,Zt,ls,lS,lz64,l1,l2,l3,lt32,X9,Q7]
 rfl
def Dt (s:List Nat):List Nat:=enc (Y2 (num 256 (scL s)) Uj)
theorem Qwl {s:List Nat} (ls:s.length = 32) (xs:∀ y ∈ s,y < 256):Vs T 20 [.agg (u8s s).toArray] = some (.agg (u8s (Dt s)).toArray):=by
 have hz:Qa 32 (Value.int .u8 0) = u8s (dig 256 32 0):=rfl
 have lz:(dig 256 32 0).length = 32:=rfl
 have hh:=Qn4 ls xs
 obtain ⟨B,hB,rB⟩:=Qqu
 obtain ⟨P,hP,rP⟩:=Mp rB (Qbw s) (Qlb s)
 have hE:=Qdy rP
 have lE:=Qdz (Y2 (num 256 (scL s)) Uj)
 have l1:=Qbw s
 have l2:=Qgq s
 have t1:Vw 32 (u8s (scL s ++ pfL s)) = u8s (scL s):=by rw [Gc,V2 (by omega),Zh (by omega)]
 have l3:(scL s ++ pfL s).length = 64:=by rw [Zc,l1,l2]
 unfold Dt
 generalize enc (Y2 (num 256 (scL s)) Uj) = E at *
 generalize scL s ++ pfL s = R at *
 generalize scL s = S3 at *
 generalize dig 256 32 0 = Z at *
 apply K8
 apply Jl
 rw [Jg (fn:=Q3z) rfl]
 simp only [Q3z,↓Zv,Jh,quiet,cF,↓pF,reduceCtorEq,Qd,Qp,Zo,Zj,Zq,Zi,Zg,Qk,Za,Qj,Q5,Ze,Zd,↓Zx,↓Zu,↓Z7,↓Jb,↓Z9,↓Ja,cL,Qo,Qn,Q2,Q1,Qy,Qr,Qq,Q0,Qe,Q8,Q9,Qz,Qi,Qh,Qg,Qx,Qw,Qv,Qm,Qf,cJ,hz,hh,hB,hP,hE,t1,Xv,Ko,Yg,Kp,Zt,ls,lz,l1,l3,lE,X9,Q7,V9]
 rfl
def rL (s m:List Nat):List Nat:=Qhm (pfL s ++ m)
def frL (s m:List Nat):List Nat:=enc (Y2 (num 256 (rL s m)) Uj)
def chL (front pub m:List Nat):List Nat:=Qhm (front ++ (pub ++ m))
def bkL (s m:List Nat):List Nat:=mA (chL (frL s m) (Dt s) m) (scL s) (rL s m)
def Qa1 (s m:List Nat):List Nat:=frL s m ++ bkL s m
theorem Qb6 (s m:List Nat):(frL s m).length = 32:=Qdz _
theorem Qyf (s m:List Nat):∀ y ∈ frL s m,y < 256:=Qym _
theorem Ds (s:List Nat):(Dt s).length = 32:=Qdz _
theorem Qre (s:List Nat):∀ y ∈ Dt s,y < 256:=Qym _
theorem Qr8 (s m:List Nat):(bkL s m).length = 32:=Q63
theorem Q7m (s m:List Nat):∀ y ∈ bkL s m,y < 256:=mA_lt
theorem Qdm (s m:List Nat):(Qa1 s m).length = 64:=by rw [Qa1,Zc,Qb6,Qr8]
theorem Qzz (s m:List Nat):∀ y ∈ Qa1 s m,y < 256:=by
 intro y hy
 rcases Xg.1 hy with h | h
 ·exact Qyf s m y h
 ·exact Q7m s m y h
theorem Qkv {H:List Ob} {a b n m c:Nat} {fa fb:List Nat} {e:Bool} {s:Nat} (ha:H[a]? = some ⟨u8s fa,true,true,true,1⟩) (hb:H[b]? = some ⟨u8s fb,true,true,e,s⟩) (hn:fa.length = n) (hm:fb.length = m) (h0:0 < m) (hs:n + m ≤ 1000) :
  Y4 1 1 H (.slice (some ⟨a,0,none⟩) n n) (.slice (some ⟨b,0,none⟩) m c) = some (.slice (some ⟨H.length,0,none⟩) (n + m) (n + m),H ++ [⟨u8s (fa ++ fb),true,true,false,1⟩],none,[]):=by
 have h4:liveAt H a = some ⟨u8s fa,true,true,true,1⟩:=Vr ha rfl
 have k2:elemsOf H 1 m (.slice (some ⟨b,0,none⟩) m c) = some (u8s fb):=by
  simp [elemsOf,Vr hb rfl,Zt,hm]
  exact Zh (by rw [Zt,hm]; exact Zf _)
 have h8:elemsOf H 1 n (.slice (some ⟨a,0,none⟩) n n) = some (u8s fa):=by
  simp [elemsOf,h4,Zt,hn]
  exact Zh (by rw [Zt,hn]; exact Zf _)
 have h1:¬ m = 0:=by omega
 have h2:(n + m) * 1 ≤ 2 ^ 47:=by omega
 have h7:¬ (n + m ≤ n):=by omega
 have k1:Go.Ev.lenV (.slice (some ⟨b,0,none⟩) m c) = some m:=rfl
 simp only [Y4,k1,k2,Ql,if_neg h1,h2,Qo2,Qux,Tt,and_self,not_true_eq_false,if_false,if_true,h4,h8,if_neg h7,Ob.grown,← Ui]
theorem Q1f {H:List Ob} {s:List Nat} {pv:Value} {ps:List (List Nat)} (ls:s.length = 32) (xs:∀ y ∈ s,y < 256) (hp:Args H pv ps) (hn:ps.length ≤ 1000) (hb:ps.flatten.length < 2 ^ 48) :
  ∃ l,Vx T 16 [.agg (u8s s).toArray,pv] H = some (.agg (u8s (Qa1 s ps.flatten)).toArray,H ++ l,[]):=by
 have hz:Qa 32 (Value.int .u8 0) = u8s (dig 256 32 0):=rfl
 have lz:(dig 256 32 0).length = 32:=rfl
 have hz64:=Hx
 have lz64:(Qa 64 0).length = 64:=Q7
 have hh:=Qn4 ls xs
 have l1:=Qbw s
 have l2:=Qgq s
 have l3:(scL s ++ pfL s).length = 64:=by rw [Zc,l1,l2]
 have x3:∀ y ∈ scL s ++ pfL s,y < 256:=fun y hy => (Xg.1 hy).elim (Qlb s y) (Q6g s y)
 obtain ⟨B,hB,rB⟩:=Qqu
 obtain ⟨P,hP,rP⟩:=Mp rB (Qbw s) (Qlb s)
 have hE:=Qdy rP
 rw [show enc (Y2 (num 256 (scL s)) Uj) = Dt s from rfl] at hE
 have lA:=Ds s
 obtain ⟨G1,hG1⟩:∃ X,X = H ++ [(⟨u8s s,true,true,true,1⟩:Ob),⟨u8s (Qa 64 0),true,true,true,1⟩,⟨u8s (scL s ++ pfL s),true,true,true,1⟩,⟨u8s (Dt s),true,true,true,1⟩,⟨[.slice (some ⟨H.length + 2,32,none⟩) 32 32],true,true,true,1⟩]:=⟨_,rfl⟩
 have lG1:G1.length = H.length + 5:=by rw [hG1]; simp
 have gz:G1[H.length + 1]? = some ⟨u8s (Qa 64 0),true,true,true,1⟩:=by rw [hG1,Q3 (by omega),Z6]; rfl
 have gh:G1[H.length + 2]? = some ⟨u8s (scL s ++ pfL s),true,true,true,1⟩:=by rw [hG1,Q3 (by omega),Z6]; rfl
 have gA:G1[H.length + 3]? = some ⟨u8s (Dt s),true,true,true,1⟩:=by rw [hG1,Q3 (by omega),Z6]; rfl
 have ga:G1[H.length + 4]? = some ⟨[.slice (some ⟨H.length + 2,32,none⟩) 32 32],true,true,true,1⟩:=by rw [hG1,Q3 (by omega),Z6]; rfl
 have hp1:Args G1 pv ps:=by rw [hG1]; exact hp.app
 have part1:HPart (LtN G1.length) G1 (.slice (some ⟨H.length + 2,32,none⟩) 32 32) (pfL s):=by
  have:=HPart.arr (n:=G1.length) (off:=32) (m:=32) (c:=32) (by omega) gh x3 (by rw [l3]; decide) (by decide)
  rwa [Yd (by omega),Yx (by omega),Q6,Zh (by omega)] at this
 obtain ⟨v1,k1,ha1,hA1⟩:=Qbl (n:=1) ga rfl (.cons part1 .nil) hp1 (by decide) hn
 obtain ⟨k2,hr⟩:=Ry hA1 (by rw [Yn,Xn,Ye,Xj,Zc,l2]; omega)
 rw [Yn,Xn,Ye,Xj,show Qhm (pfL s ++ ps.flatten) = rL s ps.flatten from rfl] at hr
 have lr:(rL s ps.flatten).length = 32:=Qdo
 obtain ⟨G2,hG2⟩:∃ X,X = G1 ++ (k1 ++ k2):=⟨_,rfl⟩
 have lG2:G1.length ≤ G2.length:=by rw [hG2]; simp
 obtain ⟨P2,hP2,rP2⟩:=Mp rB lr Qgp
 have hE2:=Qdy rP2
 rw [show enc (Y2 (num 256 (rL s ps.flatten)) Uj) = frL s ps.flatten from rfl] at hE2
 have lF:=Qb6 s ps.flatten
 obtain ⟨G3,hG3⟩:∃ X,X = G2 ++ [(⟨u8s (rL s ps.flatten),true,true,true,1⟩:Ob),⟨u8s (frL s ps.flatten),true,true,true,1⟩,⟨[.slice (some ⟨G2.length + 1,0,none⟩) 32 32,.slice (some ⟨H.length + 3,0,none⟩) 32 32],true,true,true,1⟩]:=⟨_,rfl⟩
 have lG3:G3.length = G2.length + 3:=by rw [hG3]; simp
 have up13:∀ i,i < G1.length → G3[i]? = G1[i]? := fun i hi => by rw [hG3,Qc (by omega),hG2,Qc hi]
 have hr3:G3[G2.length]? = some ⟨u8s (rL s ps.flatten),true,true,true,1⟩:=by rw [hG3,Q3 (Zf _),Xa]; rfl
 have hf3:G3[G2.length + 1]? = some ⟨u8s (frL s ps.flatten),true,true,true,1⟩:=by rw [hG3,Q3 (by omega),Z6]; rfl
 have harr3:G3[G2.length + 2]? = some ⟨[.slice (some ⟨G2.length + 1,0,none⟩) 32 32,.slice (some ⟨H.length + 3,0,none⟩) 32 32],true,true,true,1⟩:=by rw [hG3,Q3 (by omega),Z6]; rfl
 have hp3:Args G3 pv ps:=hp1.ext up13 (by omega)
 have partF:HPart (LtN G3.length) G3 (.slice (some ⟨G2.length + 1,0,none⟩) 32 32) (frL s ps.flatten):=by
  have:=HPart.whole (n:=G3.length) (c:=32) (by omega) hf3 (Qyf s _) (by rw [lF]; decide)
  rwa [lF] at this
 have partA:HPart (LtN G3.length) G3 (.slice (some ⟨H.length + 3,0,none⟩) 32 32) (Dt s):=by
  have:=HPart.whole (n:=G3.length) (c:=32) (by omega) ((up13 _ (by omega)).trans gA) (Qre s) (by rw [lA]; decide)
  rwa [lA] at this
 obtain ⟨v3,k3,ha3,hA3⟩:=Qbl (n:=2) harr3 rfl (.cons partF (.cons partA .nil)) hp3 (by decide) hn
 obtain ⟨k4,hk⟩:=Ry hA3 (by rw [Yn,Xn,Xn,Ye,Xj,Zc,Zc,lF,lA]; omega)
 rw [Yn,Xn,Xn,Ye,Xj,Z1,show Qhm (frL s ps.flatten ++ (Dt s ++ ps.flatten)) = chL (frL s ps.flatten) (Dt s) ps.flatten from rfl] at hk
 have lk:(chL (frL s ps.flatten) (Dt s) ps.flatten).length = 32:=Qdo
 obtain ⟨G4,hG4⟩:∃ X,X = G3 ++ (k3 ++ k4):=⟨_,rfl⟩
 have lG4:G3.length ≤ G4.length:=by rw [hG4]; simp
 have up34:∀ i,i < G3.length → G4[i]? = G3[i]? := fun i hi => by rw [hG4,Qc hi]
 obtain ⟨q,hm⟩:=Qtl lk l1 lr Qgp (Qlb s) Qgp
 have hmv:=Qbg hm
 rw [show mA (chL (frL s ps.flatten) (Dt s) ps.flatten) (scL s) (rL s ps.flatten) = bkL s ps.flatten from rfl] at hmv
 have lB:=Qr8 s ps.flatten
 obtain ⟨G5,hG5⟩:∃ X,X = G4 ++ [(⟨u8s (chL (frL s ps.flatten) (Dt s) ps.flatten),true,true,true,1⟩:Ob),⟨u8s (bkL s ps.flatten),true,true,true,1⟩]:=⟨_,rfl⟩
 have lG5:G5.length = G4.length + 2:=by rw [hG5]; simp
 have hf5:G5[G2.length + 1]? = some ⟨u8s (frL s ps.flatten),true,true,true,1⟩:=by rw [hG5,Qc (by omega),up34 _ (by omega)]; exact hf3
 have hb5:G5[G4.length + 1]? = some ⟨u8s (bkL s ps.flatten),true,true,true,1⟩:=by rw [hG5,Q3 (by omega),Z6]; rfl
 have hap:=Qkv (c:=32) hf5 hb5 lF lB (by decide) (by decide)
 rw [show frL s ps.flatten ++ bkL s ps.flatten = Qa1 s ps.flatten from rfl] at hap
 have lS:=Qdm s ps.flatten
 have g4h:∀ l:List Ob,(G4 ++ l)[H.length + 2]? = some ⟨u8s (scL s ++ pfL s),true,true,true,1⟩:=fun l => by rw [Qc (by omega),up34 _ (by omega),up13 _ (by omega)]; exact gh
 have g4r:∀ l:List Ob,(G4 ++ l)[G2.length]? = some ⟨u8s (rL s ps.flatten),true,true,true,1⟩:=fun l => by rw [Qc (by omega),up34 _ (by omega)]; exact hr3
 have g5z:∀ l:List Ob,(G5 ++ l)[H.length + 1]? = some ⟨u8s (Qa 64 0),true,true,true,1⟩:=fun l => by rw [Qc (by omega),hG5,Qc (by omega),up34 _ (by omega),up13 _ (by omega)]; exact gz
 have hfr:∀ i,i < H.length → ((G5 ++ [(⟨u8s (Qa1 s ps.flatten),true,true,false,1⟩:Ob)]).set (H.length + 1) (⟨u8s (Qa1 s ps.flatten),true,true,true,1⟩:Ob))[i]? = H[i]? := fun i hi => by
  rw [Z3 (by omega),Qc (by omega),hG5,Qc (by omega),up34 _ (by omega),up13 _ (by omega),hG1,Qc hi]
 obtain ⟨l,hl⟩:=By (H:=H) (by rw [Jt,Zc]; omega) hfr
 refine ⟨l,?_⟩
 rw [← hl]
 have g6:∀ o:Ob,((G5 ++ [(⟨u8s (Qa1 s ps.flatten),true,true,false,1⟩:Ob)]).set (H.length + 1) o)[H.length + 1]? = some o:=fun o => Jq (by rw [Zc]; omega)
 have f1:fillL [Value.slice none 0 0] [(0,1,.slice (some ⟨H.length + 2,32,none⟩) 32 32)] = some [.slice (some ⟨H.length + 2,32,none⟩) 32 32]:=rfl
 have f2:fillL [Value.slice none 0 0,.slice none 0 0] [(0,1,.slice (some ⟨G2.length + 1,0,none⟩) 32 32),(1,1,.slice (some ⟨H.length + 3,0,none⟩) 32 32)] = some [.slice (some ⟨G2.length + 1,0,none⟩) 32 32,.slice (some ⟨H.length + 3,0,none⟩) 32 32]:=rfl
 have t1:Vw 32 (u8s (scL s ++ pfL s)) = u8s (scL s):=by rw [Gc,V2 (by omega),Zh (by omega)]
 have F1:H ++ [(⟨u8s s,true,true,true,1⟩:Ob),⟨u8s (Qa 64 0),true,true,true,1⟩,⟨u8s (scL s ++ pfL s),true,true,true,1⟩,⟨u8s (Dt s),true,true,true,1⟩,⟨[.slice (some ⟨H.length + 2,32,none⟩) 32 32],true,true,true,1⟩] = G1:=hG1.symm
 have F2:G1 ++ (k1 ++ k2) = G2:=hG2.symm
 have F3:G2 ++ [(⟨u8s (rL s ps.flatten),true,true,true,1⟩:Ob),⟨u8s (frL s ps.flatten),true,true,true,1⟩,⟨[.slice (some ⟨G2.length + 1,0,none⟩) 32 32,.slice (some ⟨H.length + 3,0,none⟩) 32 32],true,true,true,1⟩] = G3:=hG3.symm
 have F4:G3 ++ (k3 ++ k4) = G4:=hG4.symm
 have F5:G4 ++ [(⟨u8s (chL (frL s ps.flatten) (Dt s) ps.flatten),true,true,true,1⟩:Ob),⟨u8s (bkL s ps.flatten),true,true,true,1⟩] = G5:=hG5.symm
 have im1:Jj H.length [] [G2.length] = []:=K9 (by simp; omega)
 have im2:Jj H.length [] [G2.length + 1] = []:=K9 (by simp; omega)
 have im3:Jj H.length [] [G4.length] = []:=K9 (by simp; omega)
 have im4:Jj H.length [] [G4.length + 1] = []:=K9 (by simp; omega)
 have ls1:[Value.slice (some ⟨H.length + 2,32,none⟩) 32 32].length = 1:=rfl
 clear hG1 hG2 hG3 hG4 hG5 hl hfr hm hA1 hA3 partF partA part1
 rw [Z1] at hr hk
 generalize Qa1 s ps.flatten = S at *
 generalize bkL s ps.flatten = Bk at *
 generalize chL (frL s ps.flatten) (Dt s) ps.flatten = Ck at *
 generalize frL s ps.flatten = Fr at *
 generalize rL s ps.flatten = R at *
 generalize Dt s = A at *
 generalize scL s ++ pfL s = Hv at *
 generalize scL s = Sc at *
 generalize dig 256 32 0 = Z at *
 generalize Qa 64 0 = Z64 at *
 rw [Jg (fn:=Q30) rfl]
 simp only [Q30,↓Zv,Jh,quiet,cF,↓pF,reduceCtorEq,Qd,Qp,Zo,Zj,Zq,Zi,Zg,Qk,Za,Qj,Q5,Ze,Zd,↓Zx,↓Zu,↓Z7,↓Jb,↓Z9,↓Ja,cL,Qo,Qn,Q2,Q1,Qy,Qr,Qq,Q0,Qe,Q8,Q9,Qz,Qi,Qh,Qg,Qx,Qw,Qv,Qm,Qf,cJ,hz,hz64,hh,hB,hP,hE,f1,F1,ha1,hr,F2,hP2,hE2,f2,F3,ha3,hk,F4,g4h,g4r,t1,hmv,F5,hap,g5z,g6,im1,im2,im3,im4,Xv,Ko,Yg,Kp,Zt,ls,lz,lz64,l1,l3,lA,lr,lF,lk,lB,lS,X9,Q7,V9]
end Go.Ev.Ytpgphpkjlpkcbaa
set_option linter.unusedSimpArgs false
set_option linter.unusedVariables false
namespace Go.Ev.Ytpgphpkjlpkcbaa
open Go Go.Ev
attribute [local congr] Wq W3 Wp W4 Wg
set_option maxRecDepth 100000
def Ql9 (pub front back m:List Nat) (c:Int):Prop :=
 ((∀ A,enc A ≠ pub) ∧ c = 60) ∨ ∃ A,enc A = pub ∧
  (((Y2 8 A = Bx ∨ ¬ num 256 back < ell) ∧ c = 70) ∨ (Y2 8 A ≠ Bx ∧ num 256 back < ell ∧
   (((∀ R,enc R ≠ front) ∧ c = 70) ∨ ∃ R,enc R = front ∧ c = if Wy (Y2 (num 256 back) Uj) (Y2 (num 256 (chL front pub m)) A.neg) = R then 0 else 70)))
theorem Qax {k l:List Nat} (lk:k.length = 32) (ll:l.length = 32):vEq (some (Qa 32 true)) true (.agg (u8s k).toArray) (.agg (u8s l).toArray) = some (.bool (!(k == l))):=by
 rw [Qmk,Hp lk ll]
 rfl
theorem Qyx {H:List Ob} {pub front back:List Nat} {pv:Value} {ps:List (List Nat)} (lp:pub.length = 32) (xp:∀ y ∈ pub,y < 256) (lf:front.length = 32) (xf:∀ y ∈ front,y < 256) (lb:back.length = 32) (xb:∀ y ∈ back,y < 256) (hp:Args H pv ps) (hn:ps.length ≤ 1000) (hb:ps.flatten.length < 2 ^ 48) :
  ∃ l c,Vx T 22 [.agg (u8s pub).toArray,.agg (u8s (front ++ back)).toArray,pv] H = some (.int .i64 c,H ++ l,[]) ∧ Ql9 pub front back ps.flatten c:=by
 have hz:Qa 32 (Value.int .u8 0) = u8s (dig 256 32 0):=rfl
 have lz:(dig 256 32 0).length = 32:=rfl
 have hz20:∃ O,Qa 20 (Value.int .u64 0) = ns .u64 O ∧ O.length = 20:=⟨Qa 20 0,rfl,rfl⟩
 obtain ⟨O,hz20,lO⟩:=hz20
 have rft:∀ (r:List Nat) (c:Int),rf (Value.tuple #[eV r,.int .i64 c]) = true:=fun r c => Dl (a:=eV r) (b := .int .i64 c) (V9 r) rfl
 have lS:(front ++ back).length = 64:=by rw [Zc,lf,lb]
 have t1:Vw 32 (u8s (front ++ back)) = u8s front:=by rw [Gc,V2 (by omega),Zh (by omega)]
 have t2:Vw 32 (Wk 32 (u8s (front ++ back))) = u8s back:=by rw [Tc,Yd (by omega),Yx (by omega),Q6,Gc,Zh (by omega)]
 rcases Qom lp xp with ⟨A,a,hA,rA,eA⟩ | ⟨A,hA,lA,hno⟩
 ·have p1:=rA.len
  have ht:=Q4y rA
  obtain ⟨qc,hcn⟩:=Ql4 lb xb
  have hcv:=Qbg hcn
  unfold Quh at hA
  by_cases htiny:Y2 8 a = Bx
  ·rw [decide_eq_true htiny] at ht
   have hx:∃ l,Vx T 22 [.agg (u8s pub).toArray,.agg (u8s (front ++ back)).toArray,pv] H = some (.int .i64 70,H ++ l,[]):=by
    generalize front ++ back = S at *
    generalize dig 256 32 0 = Z at *
    apply Jl
    rw [Jg (fn:=Qej) rfl]
    simp only [Qej,↓Zv,Jh,quiet,cF,↓pF,reduceCtorEq,Qd,Qp,Zo,Zj,Zq,Zi,Zg,Qk,Za,Qj,Q5,Ze,Zd,↓Zx,↓Zu,↓Z7,↓Jb,↓Z9,↓Ja,cL,Qo,Qn,Q2,Q1,Qy,Qr,Qq,Q0,Qe,Q8,Q9,Qz,Qi,Qh,Qg,Qx,Qw,Qv,Qm,Qf,cJ,hz,hz20,hA,t1,t2,ht, Xv,Ko,Yg,Kp,Kr,Zt,lp,lf,lb,lS,lz,lO,p1,X9,Q7,rft,V9]
    rfl
   obtain ⟨l,hx⟩:=hx
   exact ⟨l,70,hx,.inr ⟨a,eA,.inl ⟨.inl htiny,rfl⟩⟩⟩
  ·rw [decide_eq_false htiny] at ht
   by_cases hc:num 256 back < ell
   ·rw [decide_eq_true hc] at hcv
    rcases Qom lf xf with ⟨R,r,hR,rR,eR⟩ | ⟨R,hR,lR,hnR⟩
    ·have p2:=rR.len
     unfold Quh at hR
     obtain ⟨G1,hG1⟩:∃ X,X = H ++ [(⟨u8s pub,true,true,true,1⟩:Ob),⟨u8s (front ++ back),true,true,true,1⟩,⟨ns .u64 A,true,true,true,1⟩,⟨u8s front,true,true,true,1⟩,⟨u8s back,true,true,true,1⟩,⟨ns .u64 R,true,true,true,1⟩,⟨[.slice (some ⟨H.length + 3,0,none⟩) 32 32,.slice (some ⟨H.length,0,none⟩) 32 32],true,true,true,1⟩]:=⟨_,rfl⟩
     have lG1:G1.length = H.length + 7:=by rw [hG1]; simp
     have gp:G1[H.length]? = some ⟨u8s pub,true,true,true,1⟩:=by rw [hG1,Q3 (by omega),Xa]; rfl
     have gA:G1[H.length + 2]? = some ⟨ns .u64 A,true,true,true,1⟩:=by rw [hG1,Q3 (by omega),Z6]; rfl
     have gf:G1[H.length + 3]? = some ⟨u8s front,true,true,true,1⟩:=by rw [hG1,Q3 (by omega),Z6]; rfl
     have gb:G1[H.length + 4]? = some ⟨u8s back,true,true,true,1⟩:=by rw [hG1,Q3 (by omega),Z6]; rfl
     have ga:G1[H.length + 6]? = some ⟨[.slice (some ⟨H.length + 3,0,none⟩) 32 32,.slice (some ⟨H.length,0,none⟩) 32 32],true,true,true,1⟩:=by rw [hG1,Q3 (by omega),Z6]; rfl
     have hp1:Args G1 pv ps:=by rw [hG1]; exact hp.app
     have partF:HPart (LtN G1.length) G1 (.slice (some ⟨H.length + 3,0,none⟩) 32 32) front:=by
      have:=HPart.whole (n:=G1.length) (c:=32) (by omega) gf xf (by rw [lf]; decide)
      rwa [lf] at this
     have partP:HPart (LtN G1.length) G1 (.slice (some ⟨H.length,0,none⟩) 32 32) pub:=by
      have:=HPart.whole (n:=G1.length) (c:=32) (by omega) gp xp (by rw [lp]; decide)
      rwa [lp] at this
     obtain ⟨v1,k1,ha1,hA1⟩:=Qbl (n:=2) ga rfl (.cons partF (.cons partP .nil)) hp1 (by decide) hn
     obtain ⟨k2,hk⟩:=Ry hA1 (by rw [Yn,Xn,Xn,Ye,Xj,Zc,Zc,lf,lp]; omega)
     rw [Yn,Xn,Xn,Ye,Xj,Z1,show Qhm (front ++ (pub ++ ps.flatten)) = chL front pub ps.flatten from rfl,Z1] at hk
     have lk:(chL front pub ps.flatten).length = 32:=Qdo
     obtain ⟨G2,hG2⟩:∃ X,X = G1 ++ (k1 ++ k2):=⟨_,rfl⟩
     have lG2:G1.length ≤ G2.length:=by rw [hG2]; simp
     have up:∀ i,i < G1.length → ∀ l:List Ob,(G2 ++ l)[i]? = G1[i]? := fun i hi l => by rw [Qc (by omega),hG2,Qc hi]
     obtain ⟨B,hB,rB⟩:=Qqu
     obtain ⟨X,hX,rX⟩:=Mp rB lb xb
     obtain ⟨NA,hNA,rNA⟩:=Q6v rA
     obtain ⟨Y,hY,rY⟩:=Mp rNA lk Qgp
     obtain ⟨S,dS,hS,ES⟩:=Q22 (H:=G2 ++ [(⟨u8s (chL front pub ps.flatten),true,true,true,1⟩:Ob),⟨ns .u64 [X,Y].flatten,true,true,true,1⟩]) (id:=G2.length + 1) (n:=2) (xs:=[X,Y]) rfl (by decide) (.cons rX (.cons rY .nil)) (by rw [Q3 (by omega),Z6]; rfl)
     simp only [Wf,Ub,Zb,Z1,Q6] at hS
     rw [fold2] at ES
     have hE:=Qdy ES
     have lE:=Qdz (Wy (Y2 (num 256 back) Uj) (Y2 (num 256 (chL front pub ps.flatten)) a.neg))
     have g1:=Q7e rX rY
     have q1:=rX.len
     have q2:=rY.len
     have q3:=ES.len
     have hq:=Qax lE lf
     have hd:(enc (Wy (Y2 (num 256 back) Uj) (Y2 (num 256 (chL front pub ps.flatten)) a.neg)) == front) = decide (Wy (Y2 (num 256 back) Uj) (Y2 (num 256 (chL front pub ps.flatten)) a.neg) = r):=by rw [← eR,Qr1]
     rw [hd] at hq
     have uA:=fun l => (up _ (by omega) l).trans gA
     have uf:=fun l => (up _ (by omega) l).trans gf
     have ub:=fun l => (up _ (by omega) l).trans gb
     have f2:fillL [Value.slice none 0 0,.slice none 0 0] [(0,1,.slice (some ⟨H.length + 3,0,none⟩) 32 32),(1,1,.slice (some ⟨H.length,0,none⟩) 32 32)] = some [.slice (some ⟨H.length + 3,0,none⟩) 32 32,.slice (some ⟨H.length,0,none⟩) 32 32]:=rfl
     have F1:H ++ [(⟨u8s pub,true,true,true,1⟩:Ob),⟨u8s (front ++ back),true,true,true,1⟩,⟨ns .u64 A,true,true,true,1⟩,⟨u8s front,true,true,true,1⟩,⟨u8s back,true,true,true,1⟩,⟨ns .u64 R,true,true,true,1⟩,⟨[.slice (some ⟨H.length + 3,0,none⟩) 32 32,.slice (some ⟨H.length,0,none⟩) 32 32],true,true,true,1⟩] = G1:=hG1.symm
     have F2:G1 ++ (k1 ++ k2) = G2:=hG2.symm
     have im1:Jj H.length [] [G2.length] = []:=K9 (by simp; omega)
     have hfr:∀ l:List Ob,∃ l',G2 ++ l = H ++ l':=fun l => ⟨_,by rw [hG2,hG1,Z1,Z1]⟩
     by_cases hfin:Wy (Y2 (num 256 back) Uj) (Y2 (num 256 (chL front pub ps.flatten)) a.neg) = r
     ·rw [decide_eq_true hfin] at hq
      have hx:∃ l,Vx T 22 [.agg (u8s pub).toArray,.agg (u8s (front ++ back)).toArray,pv] H = some (.int .i64 0,G2 ++ l,[]):=by
       clear hG1 hG2 hd up hfr
       generalize front ++ back = SG at *
       generalize dig 256 32 0 = Z at *
       generalize chL front pub ps.flatten = Ck at *
       generalize enc (Wy (Y2 (num 256 back) Uj) (Y2 (num 256 Ck) a.neg)) = E at *
       apply Jl
       rw [Jg (fn:=Qej) rfl]
       simp only [Qej,↓Zv,Jh,quiet,cF,↓pF,reduceCtorEq,Qd,Qp,Zo,Zj,Zq,Zi,Zg,Qk,Za,Qj,Q5,Ze,Zd,↓Zx,↓Zu,↓Z7,↓Jb,↓Z9,↓Ja,cL,Qo,Qn,Q2,Q1,Qy,Qr,Qq,Q0,Qe,Q8,Q9,Qz,Qi,Qh,Qg,Qx,Qw,Qv,Qm,Qf,cJ,hz,hz20,hA,t1,t2,ht,hcv,hR,f2,F1,ha1,hk,F2,im1,hB,hX,hNA,hY,g1,hS,hE,hq,uA,uf,ub,Xv,Ko,Yg,Kp,Kr,Zt,lp,lf,lb,lS,lz,lO,lk,lE,p1,p2,q1,q2,q3,X9,Q7,rft,V9]
       rfl
      obtain ⟨l,hx⟩:=hx
      obtain ⟨l',hl'⟩:=hfr l
      rw [hl'] at hx
      exact ⟨l',0,hx,.inr ⟨a,eA,.inr ⟨htiny,hc,.inr ⟨r,eR,by rw [if_pos hfin]⟩⟩⟩⟩
     ·rw [decide_eq_false hfin] at hq
      have hx:∃ l,Vx T 22 [.agg (u8s pub).toArray,.agg (u8s (front ++ back)).toArray,pv] H = some (.int .i64 70,G2 ++ l,[]):=by
       clear hG1 hG2 hd up hfr
       generalize front ++ back = SG at *
       generalize dig 256 32 0 = Z at *
       generalize chL front pub ps.flatten = Ck at *
       generalize enc (Wy (Y2 (num 256 back) Uj) (Y2 (num 256 Ck) a.neg)) = E at *
       apply Jl
       rw [Jg (fn:=Qej) rfl]
       simp only [Qej,↓Zv,Jh,quiet,cF,↓pF,reduceCtorEq,Qd,Qp,Zo,Zj,Zq,Zi,Zg,Qk,Za,Qj,Q5,Ze,Zd,↓Zx,↓Zu,↓Z7,↓Jb,↓Z9,↓Ja,cL,Qo,Qn,Q2,Q1,Qy,Qr,Qq,Q0,Qe,Q8,Q9,Qz,Qi,Qh,Qg,Qx,Qw,Qv,Qm,Qf,cJ,hz,hz20,hA,t1,t2,ht,hcv,hR,f2,F1,ha1,hk,F2,im1,hB,hX,hNA,hY,g1,hS,hE,hq,uA,uf,ub,Xv,Ko,Yg,Kp,Kr,Zt,lp,lf,lb,lS,lz,lO,lk,lE,p1,p2,q1,q2,q3,X9,Q7,rft,V9]
       rfl
      obtain ⟨l,hx⟩:=hx
      obtain ⟨l',hl'⟩:=hfr l
      rw [hl'] at hx
      exact ⟨l',70,hx,.inr ⟨a,eA,.inr ⟨htiny,hc,.inr ⟨r,eR,by rw [if_neg hfin]⟩⟩⟩⟩
    ·unfold Quh at hR
     have hx:∃ l,Vx T 22 [.agg (u8s pub).toArray,.agg (u8s (front ++ back)).toArray,pv] H = some (.int .i64 70,H ++ l,[]):=by
      generalize front ++ back = S at *
      generalize dig 256 32 0 = Z at *
      apply Jl
      rw [Jg (fn:=Qej) rfl]
      simp only [Qej,↓Zv,Jh,quiet,cF,↓pF,reduceCtorEq,Qd,Qp,Zo,Zj,Zq,Zi,Zg,Qk,Za,Qj,Q5,Ze,Zd,↓Zx,↓Zu,↓Z7,↓Jb,↓Z9,↓Ja,cL,Qo,Qn,Q2,Q1,Qy,Qr,Qq,Q0,Qe,Q8,Q9,Qz,Qi,Qh,Qg,Qx,Qw,Qv,Qm,Qf,cJ,hz,hz20,hA,t1,t2,ht,hcv,hR,lR,Xv,Ko,Yg,Kp,Kr,Zt,lp,lf,lb,lS,lz,lO,p1,X9,Q7,rft,V9]
      rfl
     obtain ⟨l,hx⟩:=hx
     exact ⟨l,70,hx,.inr ⟨a,eA,.inr ⟨htiny,hc,.inl ⟨hnR,rfl⟩⟩⟩⟩
   ·rw [decide_eq_false hc] at hcv
    have hx:∃ l,Vx T 22 [.agg (u8s pub).toArray,.agg (u8s (front ++ back)).toArray,pv] H = some (.int .i64 70,H ++ l,[]):=by
     generalize front ++ back = S at *
     generalize dig 256 32 0 = Z at *
     apply Jl
     rw [Jg (fn:=Qej) rfl]
     simp only [Qej,↓Zv,Jh,quiet,cF,↓pF,reduceCtorEq,Qd,Qp,Zo,Zj,Zq,Zi,Zg,Qk,Za,Qj,Q5,Ze,Zd,↓Zx,↓Zu,↓Z7,↓Jb,↓Z9,↓Ja,cL,Qo,Qn,Q2,Q1,Qy,Qr,Qq,Q0,Qe,Q8,Q9,Qz,Qi,Qh,Qg,Qx,Qw,Qv,Qm,Qf,cJ,hz,hz20,hA,t1,t2,ht,hcv,Xv,Ko,Yg,Kp,Kr,Zt,lp,lf,lb,lS,lz,lO,p1,X9,Q7,rft,V9]
     rfl
    obtain ⟨l,hx⟩:=hx
    exact ⟨l,70,hx,.inr ⟨a,eA,.inl ⟨.inr hc,rfl⟩⟩⟩
 ·unfold Quh at hA
  have hx:Vx T 22 [.agg (u8s pub).toArray,.agg (u8s (front ++ back)).toArray,pv] H = some (.int .i64 60,H ++ [⟨u8s pub,true,true,true,1⟩,⟨u8s (front ++ back),true,true,true,1⟩,⟨ns .u64 A,true,true,true,1⟩],[]):=by
   generalize front ++ back = S at *
   generalize dig 256 32 0 = Z at *
   rw [Jg (fn:=Qej) rfl]
   simp only [Qej,↓Zv,Jh,quiet,cF,↓pF,reduceCtorEq,Qd,Qp,Zo,Zj,Zq,Zi,Zg,Qk,Za,Qj,Q5,Ze,Zd,↓Zx,↓Zu,↓Z7,↓Jb,↓Z9,↓Ja,cL,Qo,Qn,Q2,Q1,Qy,Qr,Qq,Q0,Qe,Q8,Q9,Qz,Qi,Qh,Qg,Qx,Qw,Qv,Qm,Qf,cJ,hz,hz20,hA,t1,t2,Xv,Ko,Yg,Kp,Kr,Zt,lp,lS,lz,lO,lA,X9,Q7,rft,V9]
  exact ⟨_,60,hx,.inl ⟨hno,rfl⟩⟩
end Go.Ev.Ytpgphpkjlpkcbaa
set_option linter.unusedSimpArgs false
set_option linter.unusedVariables false
namespace Go.Ev.Ytpgphpkjlpkcbaa
open Go Go.Ev
open Go.NT (Pr)
set_option maxRecDepth 100000
theorem lp1:Pr 531581:=Go.NT.B3 (f:=729) (by decide) (by decide) (by decide +kernel)
theorem lp2:Pr 1224481:=Go.NT.B3 (f:=1106) (by decide) (by decide) (by decide +kernel)
theorem lp3:Pr 1257559732178653:=Go.NT.Tq (q:=531581) (k:=2365697292) (a:=2) (q2:=1224481) (k2:=1027014492) (a2:=2) (f:=51) lp1 lp2 (by decide +kernel)
theorem lp4:Pr 4434155615661930479:=Go.NT.Dx (q:=1257559732178653) (k:=3526) (a:=2) (f:=62) lp3 (by decide +kernel)
theorem lp5:Pr 172054593956031949258510691:=Go.NT.Dx (q:=4434155615661930479) (k:=38802110) (a:=2) (f:=88) lp4 (by decide +kernel)
theorem lp6:Pr 19757330305831588566944191468367130476339:=Go.NT.Dx (q:=172054593956031949258510691) (k:=114831751082918) (a:=2) (f:=134) lp5 (by decide +kernel)
theorem lp7:Pr 276602624281642239937218680557139826668747:=Go.NT.Dx (q:=19757330305831588566944191468367130476339) (k:=14) (a:=2) (f:=138) lp6 (by decide +kernel)
theorem Qfl:Pr ell:=Go.NT.Dx (q:=276602624281642239937218680557139826668747) (k:=26163907866482859529727157400808004) (a:=2) (f:=253) lp7 (by decide +kernel)
theorem Q2y:Uj ≠ Bx:=fun h => Qqk (by rw [h,Qj3])
theorem Qby (p:Go.Cv.Pt Go.Fp.P Go.Fp.d):Y2 1 p = p:=Go.Cv.mul_one Go.Fp.fld p
theorem Qe5 {n:Nat} (h:Y2 n Uj = Bx):ell ∣ n:=by
 refine Classical.byContradiction fun hn => ?_
 have hf:=Go.NT.Qfj Qfl hn
 apply Q2y
 have e1:ell - 1 = (ell - 2) + 1:=by decide +kernel
 have h2:n ^ (ell - 1) = n ^ (ell - 2) * n:=by rw [e1,Vt]
 have h3:Y2 (n ^ (ell - 1)) Uj = Bx:=by rw [h2,Qdq,h,Qj3]
 rw [← Qm3 Qoi,hf,Qby] at h3
 exact h3
theorem Qr2 (n:Nat) (h:ell ∣ 8 * n):ell ∣ n:=by
 have hc:Q7w ell 8:=Go.NT.Pr.coprime Qfl (by decide +kernel)
 exact hc.dvd_of_dvd_mul_left h
theorem Qkt {a:List Nat} {x y:Nat} (la:a.length = 32) (xa:∀ z ∈ a,z < 256) (hx:a[0]? = some x) (hy:a[31]? = some y):num 256 (Bw a x y) % 8 = 0 ∧ 2 ^ 254 ≤ num 256 (Bw a x y) ∧ num 256 (Bw a x y) < 2 ^ 255:=by
 have hx':=xa x (Zs hx)
 have hy':=xa y (Zs hy)
 obtain ⟨t,ht⟩:∃ t,a = x :: t:=by
  cases a with
  | nil => simp at hx
  | cons z t => simp at hx; subst hx; exact ⟨t,rfl⟩
 have e8:x &&& 248 = x / 8 * 8:=(by decide +kernel:∀ v,v < 256 → v &&& 248 = v / 8 * 8) x hx'
 have e64:(y &&& 127) ||| 64 = y % 64 + 64:=(by decide +kernel:∀ v,v < 256 → (v &&& 127) ||| 64 = v % 64 + 64) y hy'
 have h1:=Ro (B:=256) (x &&& 248) hx
 have hy2:(a.set 0 (x &&& 248))[31]? = some y:=by rw [Z3 (by decide)]; exact hy
 have h2:=Ro (B:=256) ((y &&& 127) ||| 64) hy2
 have hV:=num_lt xa
 rw [la] at hV
 have hg:=Dn (by decide:0 < 256) xa hy
 have hm:num 256 a % 256 = x:=by
  have:=Dn (by decide:0 < 256) xa hx
  rwa [W0,Ux] at this
 unfold Bw
 rw [e8] at h1 h2 ⊢
 rw [e64] at h2 ⊢
 have e31:(256:Nat) ^ 31 = 452312848583266388373324160190187140051835877600158453279131187530910662656:=by decide
 have e32:(256:Nat) ^ 32 = 115792089237316195423570985008687907853269984665640564039457584007913129639936:=by decide
 have e254:(2:Nat) ^ 254 = 28948022309329048855892746252171976963317496166410141009864396001978282409984:=by decide
 have e255:(2:Nat) ^ 255 = 57896044618658097711785492504343953926634992332820282019728792003956564819968:=by decide
 rw [W0,X6,X6] at h1
 rw [e31] at h2 hg
 rw [e32] at hV
 rw [e254,e255]
 generalize num 256 ((a.set 0 (x / 8 * 8)).set 31 (y % 64 + 64)) = N2 at *
 generalize num 256 (a.set 0 (x / 8 * 8)) = N1 at *
 generalize num 256 a = N at *
 have hyq:N / 452312848583266388373324160190187140051835877600158453279131187530910662656 = y:=by omega
 have hdm:=Yb N 452312848583266388373324160190187140051835877600158453279131187530910662656
 rw [hyq] at hdm
 have hmlt:=Js N (by decide:0 < 452312848583266388373324160190187140051835877600158453279131187530910662656)
 have hlow:N % 452312848583266388373324160190187140051835877600158453279131187530910662656 % 256 = x:=by omega
 generalize N % 452312848583266388373324160190187140051835877600158453279131187530910662656 = M at *
 refine ⟨?_,?_,?_⟩ <;> omega
theorem Qz0 (s:List Nat):num 256 (scL s) % 8 = 0 ∧ 2 ^ 254 ≤ num 256 (scL s) ∧ num 256 (scL s) < 2 ^ 255:=by
 obtain ⟨x,g0,d0,lx⟩:=Qey s (i:=0) (by decide)
 obtain ⟨z,g31,d31,lz⟩:=Qey s (i:=31) (by decide)
 unfold scL
 rw [d0,d31]
 exact Qkt (by rw [Km,D8]; rfl) (fun y hy => Qhh s y (Vk hy)) (by rw [Vi,if_pos (by decide)]; exact g0) (by rw [Vi,if_pos (by decide)]; exact g31)
theorem Qv4 (s:List Nat):¬ ell ∣ num 256 (scL s):=by
 obtain ⟨h1,h2,h3⟩:=Qz0 s
 generalize num 256 (scL s) = a at *
 intro hd
 obtain ⟨k,rfl⟩:=hd
 have h7:k < 8:=Nat.lt_of_mul_lt_mul_left (a:=ell) (W9 h3 (by decide +kernel))
 have h0:0 < k:=by
  rcases W5 k with h | h
  ·rw [h,Qek] at h2
   exact absurd h2 (by decide)
  ·exact h
 have hm:ell * k % 8 = (ell % 8) * k % 8:=by rw [Tu]
 have he:ell % 8 = 5:=by decide +kernel
 rw [hm,he] at h1
 clear h2 h3 hm he
 omega
end Go.Ev.Ytpgphpkjlpkcbaa
set_option linter.unusedSimpArgs false
set_option linter.unusedVariables false
namespace Go.Ev.Ytpgphpkjlpkcbaa
open Go Go.Ev
set_option maxRecDepth 100000
theorem Qoh {p q:Go.Cv.Pt Go.Fp.P Go.Fp.d} (h:enc p = enc q):p = q:=by
 have:=Qr1 p q
 rw [h] at this
 simp at this
 exact this
theorem Qwp (k:Nat) (p:Go.Cv.Pt Go.Fp.P Go.Fp.d):Y2 k p.neg = (Y2 k p).neg:=Go.Cv.mul_neg Go.Fp.fld k p
theorem Qzx {s m:List Nat} {c:Int} (h:Ql9 (Dt s) (frL s m) (bkL s m) m c):c = 0:=by
 have hA:enc (Y2 (num 256 (scL s)) Uj) = Dt s:=rfl
 have hR:enc (Y2 (num 256 (rL s m)) Uj) = frL s m:=rfl
 have hb:num 256 (bkL s m) = (num 256 (chL (frL s m) (Dt s) m) * num 256 (scL s) + num 256 (rL s m)) % ell:=Q6t _ _ _
 have hnt:Y2 8 (Y2 (num 256 (scL s)) Uj) ≠ Bx:=fun h => Qv4 s (Qr2 _ (Qe5 (by rw [Qdq]; exact h)))
 have hblt:num 256 (bkL s m) < ell:=by rw [hb]; exact Js _ Ql1
 rcases h with ⟨h,-⟩ | ⟨A,eA,h⟩
 ·exact absurd hA (h _)
 ·have e1:=Qoh (eA.trans hA.symm)
  rw [e1] at h
  rcases h with h | h
  ·obtain ⟨h,-⟩:=h
   cases h with
   | inl h => exact absurd h hnt
   | inr h => exact absurd hblt h
  ·have h:=h.2.2
   rcases h with ⟨h,-⟩ | ⟨R,eR,h⟩
   ·exact absurd hR (h _)
   ·have e2:=Qoh (eR.trans hR.symm)
    rw [e2] at h
    rw [h,if_pos]
    rw [hb,Qm3 Qoi,Qm4,Qdq,Qwp]
    generalize num 256 (chL (frL s m) (Dt s) m) = k
    generalize Y2 k (Y2 (num 256 (scL s)) Uj) = X
    rw [Qb1 X,Qc3,Qm6,Qpq]
end Go.Ev.Ytpgphpkjlpkcbaa
set_option linter.unusedSimpArgs false
set_option linter.unusedVariables false
namespace Go.Ev.Ytpgphpkjlpkcbaa
open Go Go.Ev Go.Fp
abbrev PtE:=Go.Cv.Pt Go.Fp.P Go.Fp.d
theorem Qc7 {a b:Fe} (h:a * b = 0):a = 0 ∨ b = 0:=Go.Cv.Fld.dom fld h
theorem G9 {a b:Fe} (ha:a ≠ 0) (hb:b ≠ 0):a * b ≠ 0:=Go.Cv.Fld.mul_ne fld ha hb
theorem Gv {a b c:Fe} (ha:a ≠ 0) (h:a * b = a * c):b = c:=Go.Cv.Fld.cancel fld ha h
theorem Q4h:(121666:Fe) * d = -121665:=by decide +kernel
theorem Q05:(121666:Fe) ≠ 0:=by decide +kernel
theorem Qfk:(2:Fe) ≠ 0:=Qvl
theorem Qyu:(1:Fe) + d ≠ 0:=by decide +kernel
theorem Qw4 {x y:Fe} (h:Go.Cv.On d x y):1 + d * y * y ≠ 0:=fun h0 => by
 have h1:y * y = 1:=by
  unfold Go.Cv.On at h
  have:x * x * (1 + d * y * y) = y * y - 1:=by grobner
  rw [h0] at this
  grobner
 exact Qyu (by grobner)
def dbX (X Z:Fe):Fe:=(X + Z) * (X + Z) * ((X - Z) * (X - Z))
def dbZ (X Z:Fe):Fe:=((X + Z) * (X + Z) - (X - Z) * (X - Z)) * ((X + Z) * (X + Z) + 121665 * ((X + Z) * (X + Z) - (X - Z) * (X - Z)))
def adL (X Z X' Z':Fe):Fe:=(X' - Z') * (X + Z)
def adR (X Z X' Z':Fe):Fe:=(X' + Z') * (X - Z)
def adX (X Z X' Z':Fe):Fe:=(adL X Z X' Z' + adR X Z X' Z') * (adL X Z X' Z' + adR X Z X' Z')
def adZ (u X Z X' Z':Fe):Fe:=u * ((adL X Z X' Z' - adR X Z X' Z') * (adL X Z X' Z' - adR X Z X' Z'))
def Fr (X Z:Fe) (p:PtE):Prop:=∃ l:Fe,l ≠ 0 ∧ X = l * (1 + p.y) ∧ Z = l * (1 - p.y)
theorem Q0b {l:Fe} (h:l ≠ 0):l * l * (l * l) ≠ 0:=G9 (G9 h h) (G9 h h)
theorem fe_n8:(8:Fe) ≠ 0:=by decide +kernel
theorem dbl1 {x y D E y3:Fe} (hxE:x * x * E = y * y - 1) (hE:E = 1 + d * y * y) (hD:D = 1 - d * x * x * y * y) (hy:y3 * D = y * y + x * x) (hde:(121666:Fe) * d = -121665):121666 * ((1 + y3) * D * E) = 2 * (y * y):=by
 have e1:(1 + y3) * D * E = (D + (y * y + x * x)) * E:=by clear hxE hE hD hde; grobner
 have e2:(1 - d * x * x * y * y + (y * y + x * x)) * E = (1 + y * y) * E + (x * x * E) * (1 - d * y * y):=by clear hxE hE hD hde hy e1; grobner
 rw [e1,hD,e2,hxE,hE]
 clear e1 e2 hxE hE hD hy
 grobner
theorem dbl2 {x y D E y3:Fe} (hxE:x * x * E = y * y - 1) (hE:E = 1 + d * y * y) (hD:D = 1 - d * x * x * y * y) (hy:y3 * D = y * y + x * x):(1 - y3) * D * E = 2 * ((1 - y * y) * E):=by
 have e1:(1 - y3) * D * E = (D - (y * y + x * x)) * E:=by clear hxE hE hD; grobner
 have e2:(1 - d * x * x * y * y - (y * y + x * x)) * E = (1 - y * y) * E - (x * x * E) * (1 + d * y * y):=by clear hxE hE hD hy e1; grobner
 rw [e1,hD,e2,hxE,← hE]
 clear e1 e2 hxE hE hD hy
 grobner
theorem dbl3 (l y w:Fe) (D E y3:Fe) (h:w * ((1 + y3) * D * E) = 2 * (y * y)):dbX (l * (1 + y)) (l * (1 - y)) = 8 * (l * l * (l * l)) * (w * (D * E)) * (1 + y3):=by
 have:8 * (l * l * (l * l)) * (w * (D * E)) * (1 + y3) = 8 * (l * l * (l * l)) * (w * ((1 + y3) * D * E)):=by clear h; grobner
 rw [this,h]
 unfold dbX
 clear this h
 grobner
theorem dbl4 (l y:Fe) (D E y3:Fe) (h:(1 - y3) * D * E = 2 * ((1 - y * y) * E)) (hE:E = 1 + d * y * y) (hde:(121666:Fe) * d = -121665):dbZ (l * (1 + y)) (l * (1 - y)) = 8 * (l * l * (l * l)) * (121666 * (D * E)) * (1 - y3):=by
 have:8 * (l * l * (l * l)) * (121666 * (D * E)) * (1 - y3) = 8 * (l * l * (l * l)) * 121666 * ((1 - y3) * D * E):=by clear h hE hde; grobner
 rw [this,h,hE]
 unfold dbZ
 clear this h hE
 grobner
theorem Qko {X Z:Fe} {p:PtE} (h:Fr X Z p):Fr (dbX X Z) (dbZ X Z) (Wy p p):=by
 obtain ⟨l,hl,rfl,rfl⟩:=h
 have hon:=p.on
 have hy:=Go.Cv.Qal fld p p
 have hD:=Go.Cv.Fld.denM fld hon hon
 have hD2:=Qw4 hon
 have hxE:p.x * p.x * (1 + d * p.y * p.y) = p.y * p.y - 1:=by
  unfold Go.Cv.On at hon
  clear hy hD hD2
  grobner
 have h1:=dbl1 hxE rfl rfl (y3:=(Wy p p).y) hy Q4h
 have h2:=dbl2 hxE rfl rfl (y3:=(Wy p p).y) hy
 exact ⟨8 * (l * l * (l * l)) * (121666 * ((1 - d * p.x * p.x * p.y * p.y) * (1 + d * p.y * p.y))),G9 (G9 fe_n8 (Q0b hl)) (G9 Q05 (G9 hD hD2)),dbl3 l p.y _ _ _ _ h1,dbl4 l p.y _ _ _ h2 rfl Q4h⟩
theorem fr_of {X Z:Fe} {y3:Fe} (hc:X * (1 - y3) = Z * (1 + y3)) (hn:X ≠ 0 ∨ Z ≠ 0):∃ l:Fe,l ≠ 0 ∧ X = l * (1 + y3) ∧ Z = l * (1 - y3):=by
 by_cases h1:1 + y3 = 0
 ·have h2:1 - y3 ≠ 0:=fun h => Qfk (by
   have e:(2:Fe) = (1 + y3) + (1 - y3):=by clear h h1 hc hn; grobner
   rw [e,h1,h]; rfl)
  have hX:X = 0:=by
   rcases Qc7 (a:=X) (b:=1 - y3) (by rw [hc,h1]; grobner) with h | h
   ·exact h
   ·exact absurd h h2
  have hZ:Z ≠ 0:=by
   rcases hn with h | h
   ·exact absurd hX h
   ·exact h
  have hi:=D4 h2
  refine ⟨Z * iv (1 - y3),G9 hZ (fun h => Dh (by grobner)),?_,?_⟩
  ·rw [hX,h1]; grobner
  ·grobner
 ·have hi:=D4 h1
  have hZ:Z = X * iv (1 + y3) * (1 - y3):=by
   apply Gv h1
   grobner
  have hX:X ≠ 0:=fun h => by
   rcases hn with h' | h'
   ·exact h' h
   ·exact h' (by rw [hZ,h]; grobner)
  exact ⟨X * iv (1 + y3),G9 hX (fun h => Dh (by grobner)),by grobner,hZ⟩
theorem add1 {y1 y2 a b E:Fe} (ha:a = y1 * y2) (hE:E = (1 + d * y1 * y1) * (1 + d * y2 * y2)) (hbE:b * b * E = (y1 * y1 - 1) * (y2 * y2 - 1)) (hEn:E ≠ 0) :
  (y1 + y2) * (y1 + y2) * ((1 - a) * (1 - a) - b * b * ((1 + d * a) * (1 + d * a))) = (y2 - y1) * (y2 - y1) * ((1 + a) * (1 + a) - b * b * ((1 - d * a) * (1 - d * a))):=by
 apply Gv hEn
 have e1:E * ((y1 + y2) * (y1 + y2) * ((1 - a) * (1 - a) - b * b * ((1 + d * a) * (1 + d * a)))) = (y1 + y2) * (y1 + y2) * (E * ((1 - a) * (1 - a)) - b * b * E * ((1 + d * a) * (1 + d * a))):=by clear ha hE hbE hEn; grobner
 have e2:E * ((y2 - y1) * (y2 - y1) * ((1 + a) * (1 + a) - b * b * ((1 - d * a) * (1 - d * a)))) = (y2 - y1) * (y2 - y1) * (E * ((1 + a) * (1 + a)) - b * b * E * ((1 - d * a) * (1 - d * a))):=by clear ha hE hbE hEn e1; grobner
 rw [e1,e2,hbE,hE,ha]
 clear e1 e2 ha hE hbE hEn
 grobner
theorem add2 {y3 y4 a b e u s t:Fe} (g3:y3 * (1 - e) = a + b) (g4:y4 * (1 + e) = a - b) (n3:1 - e ≠ 0) (n4:1 + e ≠ 0) (n5:1 - y4 ≠ 0) (hu:u * (1 - y4) = 1 + y4)
  (key:s * ((1 - a) * (1 - a) - (b + e) * (b + e)) = t * ((1 + a) * (1 + a) - (b - e) * (b - e))):s * (1 - y3) = u * t * (1 + y3):=by
 have f1:(1 - y4) * (1 + e) = 1 + e - a + b:=by clear g3 n3 n4 n5 hu key; grobner
 have f2:(1 + y4) * (1 + e) = 1 + e + a - b:=by clear g3 n3 n4 n5 hu key f1; grobner
 have f3:(1 - y3) * (1 - e) = 1 - e - a - b:=by clear g4 n3 n4 n5 hu key f1 f2; grobner
 have f4:(1 + y3) * (1 - e) = 1 - e + a + b:=by clear g4 n3 n4 n5 hu key f1 f2 f3; grobner
 apply Gv n5
 apply Gv n3
 apply Gv n4
 have e1:(1 + e) * ((1 - e) * ((1 - y4) * (s * (1 - y3)))) = s * (((1 - y4) * (1 + e)) * ((1 - y3) * (1 - e))):=by clear g3 g4 n3 n4 n5 hu key f1 f2 f3 f4; grobner
 have e2:(1 + e) * ((1 - e) * ((1 - y4) * (u * t * (1 + y3)))) = t * ((u * (1 - y4)) * (1 + e) * ((1 + y3) * (1 - e))):=by clear g3 g4 n3 n4 n5 hu key f1 f2 f3 f4 e1; grobner
 rw [e1,e2,hu,f1,f2,f3,f4]
 clear e1 e2 f1 f2 f3 f4 g3 g4 hu n3 n4 n5
 grobner
theorem Qye {X Z X' Z' u:Fe} {p q:PtE} (h1:Fr X Z p) (h2:Fr X' Z' q) (hu:u * (1 - (Wy q p.neg).y) = 1 + (Wy q p.neg).y) (hu0:u ≠ 0) (hf:(Wy q p.neg).y ≠ 1) :
  Fr (adX X Z X' Z') (adZ u X Z X' Z') (Wy p q):=by
 obtain ⟨l,hl,rfl,rfl⟩:=h1
 obtain ⟨m,hm,rfl,rfl⟩:=h2
 have on1:=p.on
 have on2:=q.on
 have hy3:=Go.Cv.Qal fld p q
 have hy4:=Go.Cv.Qal fld q p.neg
 have hD3:=Go.Cv.Fld.denM fld on1 on2
 have hD4:=Go.Cv.Fld.denP fld on1 on2
 have hE1:=Qw4 on1
 have hE2:=Qw4 on2
 unfold Go.Cv.On at on1 on2
 generalize hg3:(Wy p q).y = y3
 generalize hg4:(Wy q p.neg).y = y4 at hu hf
 rw [show (Go.Cv.Pt.add fld p q).y = y3 from hg3] at hy3
 rw [show (Go.Cv.Pt.add fld q p.neg).y = y4 from hg4] at hy4
 have hnx:p.neg.x = -p.x:=rfl
 have hny:p.neg.y = p.y:=rfl
 rw [hnx,hny] at hy4
 rw [Fr,hg3]
 clear hg3 hg4 hnx hny
 generalize p.x = x1 at *
 generalize p.y = y1 at *
 generalize q.x = x2 at *
 generalize q.y = y2 at *
 have k1:x1 * x1 * (1 + d * y1 * y1) = y1 * y1 - 1:=by clear on2 hy3 hy4 hD3 hD4 hE1 hE2 hu hu0 hf hl hm; grobner
 have k2:x2 * x2 * (1 + d * y2 * y2) = y2 * y2 - 1:=by clear on1 hy3 hy4 hD3 hD4 hE1 hE2 hu hu0 hf hl hm k1; grobner
 have g3:y3 * (1 - d * (y1 * y2) * (x1 * x2)) = y1 * y2 + x1 * x2:=by clear on1 on2 hy4 hD3 hD4 hE1 hE2 hu hu0 hf hl hm k1 k2; grobner
 have g4:y4 * (1 + d * (y1 * y2) * (x1 * x2)) = y1 * y2 - x1 * x2:=by clear on1 on2 hy3 hD3 hD4 hE1 hE2 hu hu0 hf hl hm k1 k2 g3; grobner
 have n3:1 - d * (y1 * y2) * (x1 * x2) ≠ 0:=fun h => hD3 (by rw [← h]; clear on1 on2 hy3 hy4 hD3 hD4 hE1 hE2 hu hu0 hf hl hm k1 k2 g3 g4 h; grobner)
 have n4:1 + d * (y1 * y2) * (x1 * x2) ≠ 0:=fun h => hD4 (by rw [← h]; clear on1 on2 hy3 hy4 hD3 hD4 hE1 hE2 hu hu0 hf hl hm k1 k2 g3 g4 n3 h; grobner)
 have hbE:(x1 * x2) * (x1 * x2) * ((1 + d * y1 * y1) * (1 + d * y2 * y2)) = (y1 * y1 - 1) * (y2 * y2 - 1):=by
  rw [← k1,← k2]
  clear on1 on2 hy3 hy4 hD3 hD4 hE1 hE2 hu hu0 hf hl hm k1 k2 g3 g4 n3 n4
  grobner
 have key:=add1 (a:=y1 * y2) rfl rfl hbE (G9 hE1 hE2)
 have n5:1 - y4 ≠ 0:=fun h => hf (by clear on1 on2 hy3 hy4 hD3 hD4 hE1 hE2 hu hu0 hf hl hm k1 k2 g3 g4 n3 n4 hbE key; grobner)
 have cross:(y1 + y2) * (y1 + y2) * (1 - y3) = u * ((y2 - y1) * (y2 - y1)) * (1 + y3):=by
  refine add2 g3 g4 n3 n4 n5 hu ?_
  have e1:(1 - y1 * y2) * (1 - y1 * y2) - (x1 * x2 + d * (y1 * y2) * (x1 * x2)) * (x1 * x2 + d * (y1 * y2) * (x1 * x2)) = (1 - y1 * y2) * (1 - y1 * y2) - x1 * x2 * (x1 * x2) * ((1 + d * (y1 * y2)) * (1 + d * (y1 * y2))):=by
   clear on1 on2 hy3 hy4 hD3 hD4 hE1 hE2 hu hu0 hf hl hm k1 k2 g3 g4 n3 n4 hbE key n5; grobner
  have e2:(1 + y1 * y2) * (1 + y1 * y2) - (x1 * x2 - d * (y1 * y2) * (x1 * x2)) * (x1 * x2 - d * (y1 * y2) * (x1 * x2)) = (1 + y1 * y2) * (1 + y1 * y2) - x1 * x2 * (x1 * x2) * ((1 - d * (y1 * y2)) * (1 - d * (y1 * y2))):=by
   clear on1 on2 hy3 hy4 hD3 hD4 hE1 hE2 hu hu0 hf hl hm k1 k2 g3 g4 n3 n4 hbE key n5 e1; grobner
  rw [e1,e2]
  exact key
 have hnz:(y1 + y2) * (y1 + y2) ≠ 0 ∨ u * ((y2 - y1) * (y2 - y1)) ≠ 0:=by
  clear hbE key cross n3 n4 hD3 hD4 hE1 hE2 hy3 hy4 k1 k2 hl hm g3
  by_cases hs:y1 + y2 = 0
  ·right
   have:y2 - y1 ≠ 0:=fun h => by
    have z1:y1 = 0:=by
     apply Gv Qfk
     clear on1 on2 hu hu0 hf g4 n5
     grobner
    have z2:y2 = 0:=by
     apply Gv Qfk
     clear on1 on2 hu hu0 hf g4 n5
     grobner
    have q1:x1 * x1 = -1:=by clear on2 hu hu0 hf g4 n5 hs h z2; grobner
    have q2:x2 * x2 = -1:=by clear on1 hu hu0 hf g4 n5 q1 hs h z1; grobner
    clear hs h on1 on2
    have hbb:(x1 * x2 - 1) * (x1 * x2 + 1) = 0:=by clear hu hu0 hf g4 n5 z1 z2; grobner
    have hy4b:y4 = -(x1 * x2):=by clear hu hu0 hf n5 q1 q2 hbb; grobner
    clear g4 q1 q2 z1 z2
    rcases Qc7 hbb with h' | h'
    ·have:u * 2 = 0:=by clear n5 hf hu0 hbb; grobner
     rcases Qc7 this with h | h
     ·exact hu0 h
     ·exact Qfk h
    ·exact n5 (by clear hu hu0 hf hbb; grobner)
   exact G9 hu0 (G9 this this)
  ·exact .inl (G9 hs hs)
 have n16:(16:Fe) * (l * l * (m * m)) ≠ 0:=G9 (by decide +kernel) (G9 (G9 hl hl) (G9 hm hm))
 have eX:adX (l * (1 + y1)) (l * (1 - y1)) (m * (1 + y2)) (m * (1 - y2)) = 16 * (l * l * (m * m)) * ((y1 + y2) * (y1 + y2)):=by unfold adX adL adR; clear on1 on2 hy3 hy4 hD3 hD4 hE1 hE2 hu hu0 hf hl hm k1 k2 g3 g4 n3 n4 hbE key n5 cross hnz n16; grobner
 have eZ:adZ u (l * (1 + y1)) (l * (1 - y1)) (m * (1 + y2)) (m * (1 - y2)) = 16 * (l * l * (m * m)) * (u * ((y2 - y1) * (y2 - y1))):=by unfold adZ adL adR; clear on1 on2 hy3 hy4 hD3 hD4 hE1 hE2 hu hu0 hf hl hm k1 k2 g3 g4 n3 n4 hbE key n5 cross hnz n16 eX; grobner
 rw [eX,eZ]
 refine fr_of ?_ ?_
 ·have e1:16 * (l * l * (m * m)) * ((y1 + y2) * (y1 + y2)) * (1 - y3) = 16 * (l * l * (m * m)) * ((y1 + y2) * (y1 + y2) * (1 - y3)):=by clear on1 on2 hy3 hy4 hD3 hD4 hE1 hE2 hu hu0 hf hl hm k1 k2 g3 g4 n3 n4 hbE key n5 cross hnz n16 eX eZ; grobner
  rw [e1,cross]
  clear on1 on2 hy3 hy4 hD3 hD4 hE1 hE2 hu hu0 hf hl hm k1 k2 g3 g4 n3 n4 hbE key n5 cross hnz n16 eX eZ e1
  grobner
 ·rcases hnz with h | h
  ·exact .inl (G9 n16 h)
  ·exact .inr (G9 n16 h)
end Go.Ev.Ytpgphpkjlpkcbaa

/- What the law leans on, part 3. -/
import Derived.Test.YtpgphpkjlpkcbaaAM2
import Derived.Test.YtpgphpkjlpkcbaaChecked
import Derived.KernelRfl
import Derived.Laws.Externs
set_option linter.unusedSimpArgs false
set_option linter.unusedVariables false
open And renaming intro → Q4
open Array renaming ext_getElem? → G8, getElem?_toList → Yr
open Bool renaming and_eq_true → Yf, and_self → Xi, and_true → Xp, false_and → Qgj, false_eq_true → Zp, not_false → Jv, not_true → Xm, true_and → Xh
open Exists renaming intro → Jl
open Int renaming cast_ofNat_Int → Qau, fdiv → Qat, fdiv_eq_ediv_of_nonneg → Wb, le_of_lt → Q33, le_refl → Kb, natCast_add → Hd, natCast_mul → B7, natCast_nonneg → Z0, natCast_one → Qqy, natCast_zero → Vm, pow_pos → Q7x, reduceAdd → Q2, reduceBEq → Ze, reduceBNe → Zd, reduceEq → Qp, reduceGE → Q9, reduceGT → Q8, reduceLE → Qo, reduceLT → Qn, reduceMul → Q1, reduceNeg → Q0, reducePow → Qz, reduceSub → Qy, reduceTDiv → Qr, reduceTMod → Qq, reduceToNat → Qe, toNat_natCast → Z4
open List renaming all_cons → J5, all_nil → Ka, append_assoc → Z1, append_nil → Xj, cons_append → Zb, drop → Wk, drop_append_of_le_length → Yd, drop_drop → Bc, drop_eq_getElem_cons → Uc, drop_of_length_le → Yx, drop_zero → Q5, ext_getElem? → Wn, flatten_append → Yn, flatten_cons → Xn, flatten_nil → Ye, getD_eq_getElem?_getD → Jf, getElem?_append_left → Qc, getElem?_append_right → Q3, getElem?_cons_succ → Zl, getElem?_cons_zero → Zk, getElem?_drop → V4, getElem?_eq_getElem → Qt, getElem?_eq_none → Kn, getElem?_eq_some_iff → Qu, getElem?_map → Bn, getElem?_set_ne → Z3, getElem?_set_self → Jq, getElem?_take → Vi, getElem?_toArray → Ra, length_append → Zc, length_cons → Zr, length_nil → Zw, length_set → Jt, length_take → Km, map_append → Ha, map_cons → Wf, map_map → Ql8, mem_append → Xg, mem_cons → Y6, mem_map → Us, mem_of_getElem? → Zs, mem_of_mem_take → Vk, mem_range'_1 → Ql7, mem_singleton → U5, nil_append → Q6, not_mem_nil → Y7, range' → Gs, replicate → Qa, replicate_succ → Dg, take → Vw, take_add_one → Y9, take_append_drop → Wd, take_append_of_le_length → V2, take_length → Dd, take_of_length_le → Zh, take_zero → Za
open Nat renaming Coprime → Q7w, add_assoc → Vl, add_comm → Br, add_mod → Q7v, add_mul → Vo, add_mul_div_right → M8, add_mul_mod_self_right → Hw, add_zero → Ji, and_lt_two_pow → U4, and_two_pow_sub_one_eq_mod → Re, div_add_mod → Yb, div_div_eq_div_mul → Ym, div_eq_of_lt → Ua, div_le_self → B6, div_lt_iff_lt_mul → Qft, div_one → Ux, dvd_mul_left → Qo4, dvd_of_mod_eq_zero → Mb, dvd_trans → Qze, eq_zero_or_pos → W5, gcd → Qgy, le_of_dvd → Gf, le_of_lt → Um, le_refl → Zf, le_trans → Ul, lt_irrefl → Xb, lt_of_le_of_lt → U3, lt_of_lt_of_le → Xl, lt_or_ge → Yc, lt_trans → W9, min_eq_left → Vz, mod_eq_of_lt → Z2, mod_eq_zero_of_dvd → Qel, mod_lt → Js, mod_mod → Qcj, mod_mod_of_dvd → D0, mod_mul_mod → Tu, mod_mul_right_div_self → Qaq, mod_one → Q7u, mul_add → Qci, mul_assoc → Yw, mul_comm → Vp, mul_le_mul → Wm, mul_le_mul_left → Df, mul_le_mul_right → Uo, mul_left_comm → Y8, mul_mod → R5, mul_one → X6, mul_zero → Qek, not_lt_zero → Jr, one_mul → Uw, or_lt_two_pow → Hm, pow_add → Wl, pow_add_one' → Qo3, pow_le_pow_right → Ve, pow_mod → Q7t, pow_mul → Ys, pow_pos → Wx, pow_succ → Vt, pow_zero → W0, reduceAdd → Qi, reduceDiv → Qx, reduceEqDiff → Qd, reduceLT → Qm, reduceLeDiff → Qf, reduceMod → Qw, reduceMul → Qh, reducePow → Qv, reduceSub → Qg, sub_mod_eq_zero_of_mod_eq → R4, sub_self → Xa, sub_zero → Xy, two_pow_add_eq_or_of_lt → Hl, zero_add → Zm, zero_mul → Xo
open Option renaming bind_eq_some_iff → Qb, bind_some → Ql, getD_some → W8, isNone_none → Zy, isSome_none → Zz
open Option.some renaming inj → B5, injEq → Qs
set_option linter.unusedSimpArgs false
set_option linter.unusedVariables false
namespace Go.Ev.Ytpgphpkjlpkcbaa
open Go Go.Ev
attribute [local congr] Dy
set_option maxRecDepth 100000
def Qp2 (ws:List Nat) (j x:Nat):List Nat:=ws.set (j / 4) (ws.getD (j / 4) 0 ||| x * 2 ^ (8 * (j % 4)))
def ofI (H:List Ob) (id off n c m:Nat) (log:List Nat) (W:Nat → List Nat) (j:Nat):St :=
 ⟨[(3,.slice (some ⟨H.length,0,none⟩) m m),(11,.slice (some ⟨id,off,none⟩) n c),(12,.int .i64 n),(13,.int .i64 j)],H ++ [Ob.fresh (Xq (W j))],log⟩
theorem Q01 {H:List Ob} {id off n c m:Nat} {bs:List Nat} (hr:Row .u8 H id off bs) (hn:bs.length = n) (hm:m = (n + 3) / 4) (hN:n < 2 ^ 40) (hb:∀ x ∈ bs,x < 256)
  (W:Nat → List Nat) (hW:∀ j,(W j).length = m ∧ ∀ x ∈ W j,x < 4294967296) (hstep:∀ j x,bs[j]? = some x → W (j + 1) = Qp2 (W j) j x) {j:Nat} (hj:j < n) :
  J9 T H.length Qdd (ofI H id off n c m [] W j) = some (.normal,ofI H id off n c m [] W (j + 1)):=by
 obtain ⟨x,hx⟩:∃ x,bs[j]? = some x:=⟨_,Qt (by omega)⟩
 have h1:((j:Int) < (n:Int)):=by omega
 have hq:j / 4 < m:=by omega
 obtain ⟨y,hy⟩:∃ y,(W j)[j / 4]? = some y:=⟨_,Qt (by rw [(hW j).1]; exact hq)⟩
 obtain ⟨o,ho,hc⟩:=hr
 have ho':=Ga (l:=[⟨Xq (W j),true,true,true,1⟩]) ho
 have hxc:=hc j x hx
 have hyc:=Be hy
 have hx256:x < 256:=hb x (Zs hx)
 have e1:IntKind.i64.wrap ((j:Int).tdiv 4) = ((j / 4:Nat):Int):=Yp (n:=j / 4) (by omega)
 have e2:((j:Int).tmod 4) = ((j % 4:Nat):Int):=rfl
 have e3:IntKind.i64.wrap (8 * ((j % 4:Nat):Int)) = ((8 * (j % 4):Nat):Int):=Yp (n:=8 * (j % 4)) (by omega)
 have e4:min (8 * (j % 4)) IntKind.u32.bits = 8 * (j % 4):=Vz (by show _ ≤ 32; omega)
 have e5:IntKind.u32.wrap (x:Int) = (x:Nat):=Ww rfl (by show x < 2 ^ 32; omega)
 have h3:((j / 4:Nat):Int) < (m:Int):=by omega
 have h4:¬ (((8 * (j % 4):Nat):Int) < 0):=by omega
 have hp:x * 2 ^ (8 * (j % 4)) < 4294967296:=by
  have h5:(2:Nat) ^ (8 * (j % 4)) ≤ 2 ^ 24:=Ve (by decide) (by omega)
  have h6:x * 2 ^ (8 * (j % 4)) ≤ 255 * 2 ^ 24:=Wm (by omega) h5
  omega
 have hy32:y < 4294967296:=(hW j).2 y (Zs hy)
 have e6:Vf .or .u32 (y:Nat) (IntKind.u32.wrap ((x:Int) * 2 ^ (8 * (j % 4)))) = ((y ||| x * 2 ^ (8 * (j % 4)):Nat):Int):=by
  have:((x:Int) * 2 ^ (8 * (j % 4))) = ((x * 2 ^ (8 * (j % 4)):Nat):Int):=by simp
  rw [this,Ww rfl hp,Gy rfl hy32 hp]
 have e7:IntKind.i64.wrap ((j:Int) + 1) = ((j + 1:Nat):Int):=Yp (n:=j + 1) (by omega)
 have h5:j / 4 + 1 ≤ (Xq (W j)).length:=by rw [Bd,(hW j).1]; omega
 have hs:W (j + 1) = (W j).set (j / 4) (y ||| x * 2 ^ (8 * (j % 4))):=by rw [hstep j x hx,Qp2,Jf,hy]; rfl
 simp only [ofI,Qdd,Jh,Kc,Kk,Ky,Jy,Kl,Ju,Kz,Kd,K7,guardOf,Zn,opd,Wh,Vu,Va,Env.get,Env.put,Yh,Ql,Q6,Zb,Jj,Vv,Ka,J5,St.after,Env.keep,if_true,if_false,ite_true,ite_false,Wa,Ya,unV,V7,Vb,packed,reduceCtorEq,Zy,Zz,Zp,Qi,Qd,Qh,Zm,Zr,Zw,beq_self_eq_true,Xm,Jv,Kg,Kf,Xx,Kv,X8,Xk,Kw,Ku,Xz,Vg,Ki,J3,Ks,Kx,X5,X0,Jp,Xw,Z5,Je,Jd,J1,Jn,Jz,Jm,Jc,J2,J0,Xd,Jo,Ke,Xf,Kh,Kt,Xe,Kj,Jw,Ob.fresh,Wi,Wt,Ws,Z0,and_self,true_and,and_true,Z4,X6,Vn,Yl,Vh,J4,Vy,J8,Xb,false_and,decide_true,decide_false,Ji,Qp,Qn,Qo,Qe,Qm,Qg,Y3,Xc,Yi,Xp,Xh,Xi,Zk,Zl,Bj,Bi,Bh,Bg,Zf,Kb,Jr,Xy,Xo,Vd,Jx,h1,ho',hxc,hyc,e1,e2,e3,e4,e5,h3,h4,e6,e7,h5,B0,hs,Hz]
theorem To (v:Value):∀ n,(Qa n [v]).flatten = Qa n v
 | 0 => rfl
 | n + 1 => by rw [Dg,Xn,To v n]; rfl
theorem Qol (B n:Nat):dig B n 0 = Qa n 0:=by
 symm
 exact Qb9 (by simp) fun i hi => by simp [hi]
theorem Qeu (n:Nat):Qa n (Value.int .u32 0) = Xq (dig 4294967296 n 0):=by simp [Qol,Xq]
theorem Qkc {H:List Ob} {id off n c:Nat} {bs:List Nat} (hr:Row .u8 H id off bs) (hn:bs.length = n) (hN:n < 2 ^ 40) (hb:∀ x ∈ bs,x < 256) :
  Vx T 57 [.slice (some ⟨id,off,none⟩) n c] H = some (.slice (some ⟨H.length,0,none⟩) ((n + 3) / 4) ((n + 3) / 4),H ++ [Ob.fresh (Xq (dig 4294967296 ((n + 3) / 4) (num 256 bs)))],[]):=by
 have hbody:=Uk (T:=T) (base:=H.length) (id:=0) (body:=Qdd) (ofI H id off n c ((n + 3) / 4) [] fun j => dig 4294967296 ((n + 3) / 4) (num 256 (bs.take j))) n
  (s':=⟨[(3,.slice (some ⟨H.length,0,none⟩) ((n + 3) / 4) ((n + 3) / 4)),(11,.slice (some ⟨id,off,none⟩) n c),(12,.int .i64 n),(13,.int .i64 n),(14,.bool false)],H ++ [Ob.fresh (Xq (dig 4294967296 ((n + 3) / 4) (num 256 bs)))],[]⟩)
  (fun j hj => Q01 hr hn rfl hN hb _ (fun j => ⟨Vj _ _ _,fun x hx => Gr (by decide) hx⟩) (fun j x hx => by
   have hj:j < bs.length:=(Qu.1 hx).1
   have hlt:num 256 (bs.take j) < 256 ^ j:=by
    have:=num_lt (B:=256) (l:=bs.take j) fun y hy => hb y (Vk hy)
    rwa [Km,Vz (Um hj)] at this
   rw [Bf hx,Qp2,Qys (by omega) hlt (hb x (Zs hx))]) hj)
  (by
   have h1:¬ ((n:Int) < (n:Int)):=by omega
   have h2:bs.take n = bs:=by rw [← hn]; exact Dd
   simp only [ofI,Qdd,Jh,Kc,Kk,Ky,Jy,Kl,Ju,Kz,Kd,K7,guardOf,Zn,opd,Wh,Vu,Va,Env.get,Env.put,Yh,Ql,Q6,Zb,Jj,Vv,Ka,J5,St.after,Env.keep,if_true,if_false,ite_true,ite_false,Wa,Ya,unV,V7,Vb,packed,reduceCtorEq,Zy,Zz,Zp,Qi,Qd,Qh,Zm,Zr,Zw,beq_self_eq_true,Xm,Jv,Kg,Kf,Xx,Kv,X8,Xk,Kw,Ku,Xz,Vg,Ki,J3,Ks,Kx,X5,X0,Jp,Xw,Z5,Je,Jd,J1,Jn,Jz,Jm,Jc,J2,J0,Xd,Jo,Ke,Xf,Kh,Kt,Xe,Kj,Jw,Ob.fresh,Wi,Wt,Ws,Z0,and_self,true_and,and_true,Z4,X6,Vn,Yl,Vh,J4,Vy,J8,Xb,false_and,decide_true,decide_false,Ji,Qp,Qn,Qo,Qe,Qm,Qg,Y3,Xc,Yi,Xp,Xh,Xi,Zk,Zl,Bj,Bi,Bh,Bg,Zf,Kb,Jr,Xy,Xo,Vd,Jx,h1,h2])
 have e1:IntKind.i64.wrap ((n:Int) + 3) = ((n + 3:Nat):Int):=Yp (n:=n + 3) (by omega)
 have e2:IntKind.i64.wrap (((n + 3:Nat):Int).tdiv 4) = (((n + 3) / 4:Nat):Int):=Yp (n:=(n + 3) / 4) (by omega)
 have h1:((((n + 3) / 4:Nat):Int) * ((4:Nat):Int) ≤ 2 ^ 47):=by omega
 have h2:(0:Nat) < 4:=by decide
 rw [Jg (fn:=a40) rfl]
 have hz:ofI H id off n c ((n + 3) / 4) [] (fun j => dig 4294967296 ((n + 3) / 4) (num 256 (bs.take j))) 0 = ⟨[(3,.slice (some ⟨H.length,0,none⟩) ((n + 3) / 4) ((n + 3) / 4)),(11,.slice (some ⟨id,off,none⟩) n c),(12,.int .i64 n),(13,.int .i64 0)],H ++ [Ob.fresh (Xq (dig 4294967296 ((n + 3) / 4) 0))],[]⟩:=by simp [ofI,num]
 rw [hz] at hbody
 simp only [Ob.fresh] at hbody
 simp only [a40,Jh,Kc,Kk,Ky,Jy,Kl,Ju,Kz,Kd,K7,guardOf,Zn,opd,Wh,Vu,Va,Env.get,Env.put,Yh,Ql,Q6,Zb,Jj,Vv,Ka,J5,St.after,Env.keep,if_true,if_false,ite_true,ite_false,Wa,Ya,unV,V7,Vb,packed,reduceCtorEq,Zy,Zz,Zp,Qi,Qd,Qh,Zm,Zr,Zw,beq_self_eq_true,Xm,Jv,Kg,Kf,Xx,Kv,X8,Xk,Kw,Ku,Xz,Vg,Ki,J3,Ks,Kx,X5,X0,Jp,Xw,Z5,Je,Jd,J1,Jn,Jz,Jm,Jc,J2,J0,Xd,Jo,Ke,Xf,Kh,Kt,Xe,Kj,Jw,Ob.fresh,Wi,Wt,Ws,Z0,and_self,true_and,and_true,Z4,X6,Vn,Yl,Vh,J4,Vy,J8,Xb,false_and,decide_true,decide_false,Ji,Qp,Qn,Qo,Qe,Qm,Qg,Y3,Xc,Yi,Xp,Xh,Xi,Zk,Zl,Bj,Bi,Bh,Bg,Zf,Kb,Jr,Xy,Xo,Vd,Jx,e1,e2,h1,h2,Kb,To,Qeu,hbody]
structure MulInv (n m i k A a:Nat) (os out:List Nat) (c:Nat):Prop where
 len:out.length = n + m
 lt:∀ x ∈ out,x < 4294967296
 clt:c < 4294967296
 eq:num 4294967296 out + c * 4294967296 ^ (i + k) = A + a * 4294967296 ^ i * num 4294967296 (os.take k)
 top:∀ j,i + m ≤ j → j < n + m → out[j]? = some 0
theorem MulInv.step {n m i k A a b y c:Nat} {os out:List Nat} (h:MulInv n m i k A a os out c) (ha:a < 4294967296) (hb:os[k]? = some b) (hb':b < 4294967296) (hy:out[i + k]? = some y) (hk:k < m) :
  MulInv n m i (k + 1) A a os (out.set (i + k) ((c + (y + a * b)) % 4294967296)) ((c + (y + a * b)) / 4294967296):=by
 have hy':y < 4294967296:=h.lt y (Zs hy)
 have hc:=h.clt
 refine ⟨by rw [Jt]; exact h.len,Mi h.lt (Js _ (by decide)),?_,?_,?_⟩
 ·have:a * b ≤ 4294967295 * 4294967295:=Wm (by omega) (by omega)
  rw [Qft (by decide)]
  show _ < 4294967296 * 4294967296
  omega
 ·have h1:=Ro (B:=4294967296) ((c + (y + a * b)) % 4294967296) hy
  have h2:=h.eq
  rw [Bf hb]
  have h3:=Yb (c + (y + a * b)) 4294967296
  generalize (c + (y + a * b)) / 4294967296 = q at *
  generalize (c + (y + a * b)) % 4294967296 = r at *
  have e1:a * 4294967296 ^ i * (num 4294967296 (os.take k) + b * 4294967296 ^ k) = a * 4294967296 ^ i * num 4294967296 (os.take k) + a * b * 4294967296 ^ (i + k):=by
   rw [Qci,Wl]; congr 1; simp only [Yw,Y8,Vp]
  have e2:q * 4294967296 ^ (i + (k + 1)) = 4294967296 * q * 4294967296 ^ (i + k):=by
   rw [← Vl,Vt]; simp only [Yw,Y8,Vp]
  rw [e1,e2]
  have e3:(4294967296 * q + r) * 4294967296 ^ (i + k) = (c + (y + a * b)) * 4294967296 ^ (i + k):=by rw [h3]
  rw [Vo,Vo,Vo] at e3
  omega
 ·intro j h1 h2
  rw [Z3 (by omega)]
  exact h.top j h1 h2
def Qtk (H:List Ob) (s1 s2:Value) (n m i a k c:Nat) (out:List Nat):St :=
 ⟨[(1,s2),(5,.slice (some ⟨H.length,0,none⟩) (n + m) (n + m)),(6,.int .i64 i),(7,.int .u32 a),(8,.int .u64 c),(17,s1),(18,.int .i64 n),(19,.int .i64 i),(24,s2),(25,.int .i64 m),(26,.int .i64 k)],H ++ [Ob.fresh (Xq out)],[]⟩
theorem Qtj {H:List Ob} {s1:Value} {id2 off2 c2 n m i a k c b y:Nat} {os out:List Nat} (hr:Row .u32 H id2 off2 os) (hN:n + m < 2 ^ 40) (hi:i < n) (hk:k < m) (ha:a < 4294967296) (hb:os[k]? = some b) (hb':b < 4294967296) (hl:out.length = n + m) (hy:out[i + k]? = some y) (hy':y < 4294967296) (hc:c < 4294967296) :
  J9 T H.length Qi0 (Qtk H s1 (.slice (some ⟨id2,off2,none⟩) m c2) n m i a k c out) = some (.normal,Qtk H s1 (.slice (some ⟨id2,off2,none⟩) m c2) n m i a (k + 1) ((c + (y + a * b)) / 4294967296) (out.set (i + k) ((c + (y + a * b)) % 4294967296))):=by
 obtain ⟨o,ho,hcell⟩:=hr
 have ho':=Ga (l:=[⟨Xq out,true,true,true,1⟩]) ho
 have hxc:=hcell k b hb
 have hyc:=Be hy
 have hab:a * b ≤ 4294967295 * 4294967295:=Wm (by omega) (by omega)
 have h1:((k:Int) < (m:Int)):=by omega
 have h2:((i + k:Nat):Int) < ((n + m:Nat):Int):=by omega
 have e1:IntKind.i64.wrap ((i:Int) + (k:Int)) = ((i + k:Nat):Int):=Yp (n:=i + k) (by omega)
 have e2:IntKind.u64.wrap (y:Int) = (y:Nat):=Ww rfl (by show y < 2 ^ 64; omega)
 have e3:IntKind.u64.wrap (a:Int) = (a:Nat):=Ww rfl (by show a < 2 ^ 64; omega)
 have e4:IntKind.u64.wrap (b:Int) = (b:Nat):=Ww rfl (by show b < 2 ^ 64; omega)
 have e5:IntKind.u64.wrap ((a:Int) * (b:Int)) = ((a * b:Nat):Int):=Ww (n:=a * b) rfl (by show _ < 2 ^ 64; omega)
 have e6:IntKind.u64.wrap ((y:Int) + ((a * b:Nat):Int)) = ((y + a * b:Nat):Int):=Ww (n:=y + a * b) rfl (by show _ < 2 ^ 64; omega)
 have e7:IntKind.u64.wrap ((c:Int) + ((y + a * b:Nat):Int)) = ((c + (y + a * b):Nat):Int):=Ww (n:=c + (y + a * b)) rfl (by show _ < 2 ^ 64; omega)
 have e8:IntKind.u32.wrap ((c + (y + a * b):Nat):Int) = (((c + (y + a * b)) % 4294967296:Nat):Int):=by rw [wrap_u32]; rfl
 have e9:Qat ((c + (y + a * b):Nat):Int) (2 ^ min 32 IntKind.u64.bits) = (((c + (y + a * b)) / 4294967296:Nat):Int):=by
  rw [Wb _ (by decide)]; rfl
 have e10:IntKind.i64.wrap ((k:Int) + 1) = ((k + 1:Nat):Int):=Yp (n:=k + 1) (by omega)
 have h5:i + k + 1 ≤ (Xq out).length:=by rw [Bd,hl]; omega
 simp only [Qtk,Qi0,Jh,Kc,Kk,Ky,Jy,Kl,Ju,Kz,Kd,K7,guardOf,Zn,opd,Wh,Vu,Va,Env.get,Env.put,Yh,Ql,Q6,Zb,Jj,Vv,Ka,J5,St.after,Env.keep,if_true,if_false,ite_true,ite_false,Wa,Ya,unV,V7,Vb,packed,reduceCtorEq,Zy,Zz,Zp,Qi,Qd,Qh,Zm,Zr,Zw,beq_self_eq_true,Xm,Jv,Kg,Kf,Xx,Kv,X8,Xk,Kw,Ku,Xz,Vg,Ki,J3,Ks,Kx,X5,X0,Jp,Xw,Z5,Je,Jd,J1,Jn,Jz,Jm,Jc,J2,J0,Xd,Jo,Ke,Xf,Kh,Kt,Xe,Kj,Jw,Ob.fresh,Wi,Wt,Ws,Z0,and_self,true_and,and_true,Z4,X6,Vn,Yl,Vh,J4,Vy,J8,Xb,false_and,decide_true,decide_false,Ji,Qp,Qn,Qo,Qe,Qm,Qg,Y3,Xc,Yi,Xp,Xh,Xi,Zk,Zl,Bj,Bi,Bh,Bg,Zf,Kb,Jr,Xy,Xo,Vd,Jx,h1,h2,ho',hxc,hyc,e1,e2,e3,e4,e5,e6,e7,e8,e9,e10,h5,B0,Hz]
structure TimesInv (n m i:Nat) (ws os out:List Nat):Prop where
 len:out.length = n + m
 lt:∀ x ∈ out,x < 4294967296
 eq:num 4294967296 out = num 4294967296 (ws.take i) * num 4294967296 os
 top:∀ j,i + m ≤ j → j < n + m → out[j]? = some 0
def Qev (H:List Ob) (s1 s2:Value) (n m i:Nat) (out:List Nat):St :=
 ⟨[(1,s2),(5,.slice (some ⟨H.length,0,none⟩) (n + m) (n + m)),(17,s1),(18,.int .i64 n),(19,.int .i64 i)],H ++ [Ob.fresh (Xq out)],[]⟩
theorem Qmn {H:List Ob} {id1 off1 c1 id2 off2 c2 n m i a:Nat} {ws os out:List Nat} (hr1:Row .u32 H id1 off1 ws) (hr2:Row .u32 H id2 off2 os) (hm:os.length = m) (hN:n + m < 2 ^ 40) (hi:i < n) (ha:ws[i]? = some a) (ha':a < 4294967296) (hos:∀ x ∈ os,x < 4294967296) (h:TimesInv n m i ws os out) :
  ∃ out',J9 T H.length Qiz (Qev H (.slice (some ⟨id1,off1,none⟩) n c1) (.slice (some ⟨id2,off2,none⟩) m c2) n m i out) = some (.normal,Qev H (.slice (some ⟨id1,off1,none⟩) n c1) (.slice (some ⟨id2,off2,none⟩) m c2) n m (i + 1) out') ∧ TimesInv n m (i + 1) ws os out':=by
 have h0:MulInv n m i 0 (num 4294967296 out) a os out 0:=⟨h.len,h.lt,by decide,by simp [num],h.top⟩
 obtain ⟨s',hb,out1,c,rfl,hinv⟩:=Yv (T:=T) (base:=H.length) (id:=2) (body:=Qi0)
  (fun k s => ∃ out1 c,s = Qtk H (.slice (some ⟨id1,off1,none⟩) n c1) (.slice (some ⟨id2,off2,none⟩) m c2) n m i a k c out1 ∧ MulInv n m i k (num 4294967296 out) a os out1 c)
  (Q:=fun s => ∃ out1 c,s = ⟨[(1,.slice (some ⟨id2,off2,none⟩) m c2),(5,.slice (some ⟨H.length,0,none⟩) (n + m) (n + m)),(6,.int .i64 i),(7,.int .u32 a),(8,.int .u64 (c:Nat)),(17,.slice (some ⟨id1,off1,none⟩) n c1),(18,.int .i64 n),(19,.int .i64 i),(24,.slice (some ⟨id2,off2,none⟩) m c2),(25,.int .i64 m),(26,.int .i64 m),(27,.bool false)],H ++ [⟨Xq out1,true,true,true,1⟩],[]⟩ ∧ MulInv n m i m (num 4294967296 out) a os out1 c)
  m ⟨out,0,rfl,h0⟩
  (fun k s hk hs => by
   obtain ⟨out1,c,rfl,hI⟩:=hs
   obtain ⟨b,hbk⟩:∃ b,os[k]? = some b:=⟨_,Qt (by omega)⟩
   obtain ⟨y,hy⟩:∃ y,out1[i + k]? = some y:=⟨_,Qt (by rw [hI.len]; omega)⟩
   have hb':=hos b (Zs hbk)
   exact ⟨_,Qtj hr2 hN hi hk ha' hbk hb' hI.len hy (hI.lt y (Zs hy)) hI.clt,_,_,rfl,hI.step ha' hbk hb' hy hk⟩)
  (fun s hs => by
   obtain ⟨out1,c,rfl,hI⟩:=hs
   have h1:¬ ((m:Int) < (m:Int)):=by omega
   refine ⟨_,?_,out1,c,rfl,hI⟩
   simp only [Qtk,Qi0,Jh,Kc,Kk,Ky,Jy,Kl,Ju,Kz,Kd,K7,guardOf,Zn,opd,Wh,Vu,Va,Env.get,Env.put,Yh,Ql,Q6,Zb,Jj,Vv,Ka,J5,St.after,Env.keep,if_true,if_false,ite_true,ite_false,Wa,Ya,unV,V7,Vb,packed,reduceCtorEq,Zy,Zz,Zp,Qi,Qd,Qh,Zm,Zr,Zw,beq_self_eq_true,Xm,Jv,Kg,Kf,Xx,Kv,X8,Xk,Kw,Ku,Xz,Vg,Ki,J3,Ks,Kx,X5,X0,Jp,Xw,Z5,Je,Jd,J1,Jn,Jz,Jm,Jc,J2,J0,Xd,Jo,Ke,Xf,Kh,Kt,Xe,Kj,Jw,Ob.fresh,Wi,Wt,Ws,Z0,and_self,true_and,and_true,Z4,X6,Vn,Yl,Vh,J4,Vy,J8,Xb,false_and,decide_true,decide_false,Ji,Qp,Qn,Qo,Qe,Qm,Qg,Y3,Xc,Yi,Xp,Xh,Xi,Zk,Zl,Bj,Bi,Bh,Bg,Zf,Kb,Jr,Xy,Xo,Vd,Jx,h1])
 rw [show Qtk H (.slice (some ⟨id1,off1,none⟩) n c1) (.slice (some ⟨id2,off2,none⟩) m c2) n m i a 0 0 out = ⟨[(1,.slice (some ⟨id2,off2,none⟩) m c2),(5,.slice (some ⟨H.length,0,none⟩) (n + m) (n + m)),(6,.int .i64 i),(7,.int .u32 a),(8,.int .u64 0),(17,.slice (some ⟨id1,off1,none⟩) n c1),(18,.int .i64 n),(19,.int .i64 i),(24,.slice (some ⟨id2,off2,none⟩) m c2),(25,.int .i64 m),(26,.int .i64 0)],H ++ [⟨Xq out,true,true,true,1⟩],[]⟩ from rfl] at hb
 obtain ⟨o,ho,hcell⟩:=hr1
 have ho':=Ga (l:=[⟨Xq out,true,true,true,1⟩]) ho
 have hxc:=hcell i a ha
 have hz:out1[i + m]? = some 0:=hinv.top (i + m) (Zf _) (by omega)
 have h1:((i:Int) < (n:Int)):=by omega
 have h2:((i + m:Nat):Int) < ((n + m:Nat):Int):=by omega
 have e1:IntKind.i64.wrap ((i:Int) + (m:Int)) = ((i + m:Nat):Int):=Yp (n:=i + m) (by omega)
 have e2:IntKind.u32.wrap (c:Int) = (c:Nat):=Ww rfl hinv.clt
 have e10:IntKind.i64.wrap ((i:Int) + 1) = ((i + 1:Nat):Int):=Yp (n:=i + 1) (by omega)
 have h5:i + m + 1 ≤ (Xq out1).length:=by rw [Bd,hinv.len]; omega
 refine ⟨out1.set (i + m) c,?_,?_⟩
 ·simp only [Qev,Qiz,Jh,Kc,Kk,Ky,Jy,Kl,Ju,Kz,Kd,K7,guardOf,Zn,opd,Wh,Vu,Va,Env.get,Env.put,Yh,Ql,Q6,Zb,Jj,Vv,Ka,J5,St.after,Env.keep,if_true,if_false,ite_true,ite_false,Wa,Ya,unV,V7,Vb,packed,reduceCtorEq,Zy,Zz,Zp,Qi,Qd,Qh,Zm,Zr,Zw,beq_self_eq_true,Xm,Jv,Kg,Kf,Xx,Kv,X8,Xk,Kw,Ku,Xz,Vg,Ki,J3,Ks,Kx,X5,X0,Jp,Xw,Z5,Je,Jd,J1,Jn,Jz,Jm,Jc,J2,J0,Xd,Jo,Ke,Xf,Kh,Kt,Xe,Kj,Jw,Ob.fresh,Wi,Wt,Ws,Z0,and_self,true_and,and_true,Z4,X6,Vn,Yl,Vh,J4,Vy,J8,Xb,false_and,decide_true,decide_false,Ji,Qp,Qn,Qo,Qe,Qm,Qg,Y3,Xc,Yi,Xp,Xh,Xi,Zk,Zl,Bj,Bi,Bh,Bg,Zf,Kb,Jr,Xy,Xo,Vd,Jx,h1,h2,ho',hxc,hb,e1,e2,e10,h5,B0,Hz]
 ·refine ⟨by rw [Jt]; exact hinv.len,Mi hinv.lt hinv.clt,?_,?_⟩
  ·have h6:=Ro (B:=4294967296) c hz
   have h7:=hinv.eq
   rw [show os.take m = os by rw [← hm]; exact Dd,h.eq] at h7
   rw [Bf ha,Vo]
   omega
  ·intro j h6 h7
   rw [Z3 (by omega)]
   exact hinv.top j (by omega) h7
theorem Qvp {H:List Ob} {id1 off1 c1 id2 off2 c2 n m:Nat} {ws os:List Nat} (hr1:Row .u32 H id1 off1 ws) (hr2:Row .u32 H id2 off2 os) (hn:ws.length = n) (hm:os.length = m) (hN:n + m < 2 ^ 40) (hws:∀ x ∈ ws,x < 4294967296) (hos:∀ x ∈ os,x < 4294967296) :
  Vx T 58 [.slice (some ⟨id1,off1,none⟩) n c1,.slice (some ⟨id2,off2,none⟩) m c2] H = some (.slice (some ⟨H.length,0,none⟩) (n + m) (n + m),H ++ [Ob.fresh (Xq (dig 4294967296 (n + m) (num 4294967296 ws * num 4294967296 os)))],[]):=by
 have h0:TimesInv n m 0 ws os (dig 4294967296 (n + m) 0):=⟨Vj _ _ _,fun x hx => Gr (by decide) hx,by rw [Uz (by decide)]; simp [num],fun j _ h => by rw [Dc h]; simp⟩
 obtain ⟨s',hb,out,rfl,hinv⟩:=Yv (T:=T) (base:=H.length) (id:=0) (body:=Qiz)
  (fun i s => ∃ out,s = Qev H (.slice (some ⟨id1,off1,none⟩) n c1) (.slice (some ⟨id2,off2,none⟩) m c2) n m i out ∧ TimesInv n m i ws os out)
  (Q:=fun s => ∃ out,s = ⟨[(1,.slice (some ⟨id2,off2,none⟩) m c2),(5,.slice (some ⟨H.length,0,none⟩) (n + m) (n + m)),(17,.slice (some ⟨id1,off1,none⟩) n c1),(18,.int .i64 n),(19,.int .i64 n),(20,.bool false)],H ++ [⟨Xq out,true,true,true,1⟩],[]⟩ ∧ TimesInv n m n ws os out)
  n ⟨_,rfl,h0⟩
  (fun i s hi hs => by
   obtain ⟨out,rfl,hI⟩:=hs
   obtain ⟨a,ha⟩:∃ a,ws[i]? = some a:=⟨_,Qt (by omega)⟩
   obtain ⟨out',g1,g2⟩:=Qmn (c1:=c1) (c2:=c2) hr1 hr2 hm hN hi ha (hws a (Zs ha)) hos hI
   exact ⟨_,g1,_,rfl,g2⟩)
  (fun s hs => by
   obtain ⟨out,rfl,hI⟩:=hs
   have h1:¬ ((n:Int) < (n:Int)):=by omega
   refine ⟨_,?_,out,rfl,hI⟩
   simp only [Qev,Qiz,Jh,Kc,Kk,Ky,Jy,Kl,Ju,Kz,Kd,K7,guardOf,Zn,opd,Wh,Vu,Va,Env.get,Env.put,Yh,Ql,Q6,Zb,Jj,Vv,Ka,J5,St.after,Env.keep,if_true,if_false,ite_true,ite_false,Wa,Ya,unV,V7,Vb,packed,reduceCtorEq,Zy,Zz,Zp,Qi,Qd,Qh,Zm,Zr,Zw,beq_self_eq_true,Xm,Jv,Kg,Kf,Xx,Kv,X8,Xk,Kw,Ku,Xz,Vg,Ki,J3,Ks,Kx,X5,X0,Jp,Xw,Z5,Je,Jd,J1,Jn,Jz,Jm,Jc,J2,J0,Xd,Jo,Ke,Xf,Kh,Kt,Xe,Kj,Jw,Ob.fresh,Wi,Wt,Ws,Z0,and_self,true_and,and_true,Z4,X6,Vn,Yl,Vh,J4,Vy,J8,Xb,false_and,decide_true,decide_false,Ji,Qp,Qn,Qo,Qe,Qm,Qg,Y3,Xc,Yi,Xp,Xh,Xi,Zk,Zl,Bj,Bi,Bh,Bg,Zf,Kb,Jr,Xy,Xo,Vd,Jx,h1])
 rw [show Qev H (.slice (some ⟨id1,off1,none⟩) n c1) (.slice (some ⟨id2,off2,none⟩) m c2) n m 0 (dig 4294967296 (n + m) 0) = ⟨[(1,.slice (some ⟨id2,off2,none⟩) m c2),(5,.slice (some ⟨H.length,0,none⟩) (n + m) (n + m)),(17,.slice (some ⟨id1,off1,none⟩) n c1),(18,.int .i64 n),(19,.int .i64 0)],H ++ [⟨Xq (dig 4294967296 (n + m) 0),true,true,true,1⟩],[]⟩ from rfl] at hb
 have hout:dig 4294967296 (n + m) (num 4294967296 ws * num 4294967296 os) = out:=by
  have h1:=hinv.eq
  rw [show ws.take n = ws by rw [← hn]; exact Dd] at h1
  rw [← h1,← hinv.len,Qad (by decide) hinv.lt]
 have e1:IntKind.i64.wrap ((n:Int) + (m:Int)) = ((n + m:Nat):Int):=Yp (n:=n + m) (by omega)
 have h1:(((n + m:Nat):Int) * ((4:Nat):Int) ≤ 2 ^ 47):=by omega
 have h2:(0:Nat) < 4:=by decide
 rw [Jg (fn:=a44) rfl,hout]
 simp only [a44,Jh,Kc,Kk,Ky,Jy,Kl,Ju,Kz,Kd,K7,guardOf,Zn,opd,Wh,Vu,Va,Env.get,Env.put,Yh,Ql,Q6,Zb,Jj,Vv,Ka,J5,St.after,Env.keep,if_true,if_false,ite_true,ite_false,Wa,Ya,unV,V7,Vb,packed,reduceCtorEq,Zy,Zz,Zp,Qi,Qd,Qh,Zm,Zr,Zw,beq_self_eq_true,Xm,Jv,Kg,Kf,Xx,Kv,X8,Xk,Kw,Ku,Xz,Vg,Ki,J3,Ks,Kx,X5,X0,Jp,Xw,Z5,Je,Jd,J1,Jn,Jz,Jm,Jc,J2,J0,Xd,Jo,Ke,Xf,Kh,Kt,Xe,Kj,Jw,Ob.fresh,Wi,Wt,Ws,Z0,and_self,true_and,and_true,Z4,X6,Vn,Yl,Vh,J4,Vy,J8,Xb,false_and,decide_true,decide_false,Ji,Qp,Qn,Qo,Qe,Qm,Qg,Y3,Xc,Yi,Xp,Xh,Xi,Zk,Zl,Bj,Bi,Bh,Bg,Zf,Kb,Jr,Xy,Xo,Vd,Jx,e1,h1,h2,Kb,To,Qeu,hb]
structure PlusInv (n i A:Nat) (os out:List Nat) (c:Nat):Prop where
 len:out.length = n + 1
 lt:∀ x ∈ out,x < 4294967296
 cle:c ≤ 1
 eq:num 4294967296 out + c * 4294967296 ^ i = A + num 4294967296 (os.take i)
theorem Qjd {B:Nat} (l:List Nat) (i:Nat):num B (l.take (i + 1)) = num B (l.take i) + l.getD i 0 * B ^ i:=by
 cases h:l[i]? with
 | some x => rw [Bf h,Jf,h]; rfl
 | none =>
  have:=List.getElem?_eq_none_iff.1 h
  rw [Jf,h,Zh this,Zh (by omega)]
  simp
theorem PlusInv.step {n i A c y:Nat} {os out:List Nat} (h:PlusInv n i A os out c) (hos:∀ x ∈ os,x < 4294967296) (hy:out[i]? = some y):PlusInv n (i + 1) A os (out.set i (Qoz y (os.getD i 0) c)) (Qo0 y (os.getD i 0) c):=by
 have hy':y < 4294967296:=h.lt y (Zs hy)
 have hc:=h.cle
 have hx:os.getD i 0 < 4294967296:=by
  rw [Jf]
  cases hh:os[i]? with
  | some x => exact hos x (Zs hh)
  | none => decide
 refine ⟨by rw [Jt]; exact h.len,Mi h.lt (Js _ (by decide)),?_,?_⟩
 ·unfold Qo0; omega
 ·have h1:=Ro (B:=4294967296) (Qoz y (os.getD i 0) c) hy
  have h2:=h.eq
  rw [Qjd]
  have h3:4294967296 * Qo0 y (os.getD i 0) c + Qoz y (os.getD i 0) c = y + os.getD i 0 + c:=Yb _ _
  generalize Qo0 y (os.getD i 0) c = q at *
  generalize Qoz y (os.getD i 0) c = r at *
  have e2:q * 4294967296 ^ (i + 1) = 4294967296 * q * 4294967296 ^ i:=by
   rw [Vt]; simp only [Yw,Y8,Vp]
  have e3:(4294967296 * q + r) * 4294967296 ^ i = (y + os.getD i 0 + c) * 4294967296 ^ i:=by rw [h3]
  rw [Vo,Vo,Vo] at e3
  rw [e2]
  omega
def Qhq (H:List Ob) (s2:Value) (n i c:Nat) (out:List Nat):St :=
 ⟨[(1,s2),(5,.slice (some ⟨H.length,0,none⟩) (n + 1) (n + 1)),(6,.int .u32 c),(19,.int .i64 ((n + 1:Nat):Int)),(20,.int .i64 i)],H ++ [⟨Xq out,true,true,true,1⟩,⟨[.int .u32 0],true,true,true,1⟩],[]⟩
theorem Qs1 {H:List Ob} {id2 off2 c2 n m i c y:Nat} {os out:List Nat} (hr:Row .u32 H id2 off2 os) (hm:os.length = m) (hN:n < 2 ^ 40) (hmn:m < 2 ^ 40) (hi:i < n + 1) (hos:∀ x ∈ os,x < 4294967296) (hl:out.length = n + 1) (hy:out[i]? = some y) (hy':y < 4294967296) (hc:c ≤ 1) :
  J9 T H.length Qbm (Qhq H (.slice (some ⟨id2,off2,none⟩) m c2) n i c out) = some (.normal,Qhq H (.slice (some ⟨id2,off2,none⟩) m c2) n (i + 1) (Qo0 y (os.getD i 0) c) (out.set i (Qoz y (os.getD i 0) c))):=by
 obtain ⟨o,ho,hcell⟩:=hr
 have ho':=Ga (l:=[⟨Xq out,true,true,true,1⟩,⟨[.int .u32 0],true,true,true,1⟩]) ho
 have hyc:=Be hy
 have h1:((i:Int) < ((n + 1:Nat):Int)):=by omega
 have e10:IntKind.i64.wrap ((i:Int) + 1) = ((i + 1:Nat):Int):=Yp (n:=i + 1) (by omega)
 have h5:i + 1 ≤ (Xq out).length:=by rw [Bd,hl]; omega
 by_cases him:i < m
 ·obtain ⟨b,hb⟩:∃ b,os[i]? = some b:=⟨_,Qt (by omega)⟩
  have hd:os.getD i 0 = b:=by rw [Jf,hb]; rfl
  have hxc:=hcell i b hb
  have h2:((i:Int) < (m:Int)):=by omega
  have hadd:=Qo1 hy' (hos b (Zs hb)) hc
  rw [hd]
  simp only [Qhq,Qbm,Jh,Kc,Kk,Ky,Jy,Kl,Ju,Kz,Kd,K7,guardOf,Zn,opd,Wh,Vu,Va,Env.get,Env.put,Yh,Ql,Q6,Zb,Jj,Vv,Ka,J5,St.after,Env.keep,if_true,if_false,ite_true,ite_false,Wa,Ya,unV,V7,Vb,packed,reduceCtorEq,Zy,Zz,Zp,Qi,Qd,Qh,Zm,Zr,Zw,beq_self_eq_true,Xm,Jv,Kg,Kf,Xx,Kv,X8,Xk,Kw,Ku,Xz,Vg,Ki,J3,Ks,Kx,X5,X0,Jp,Xw,Z5,Je,Jd,J1,Jn,Jz,Jm,Jc,J2,J0,Xd,Jo,Ke,Xf,Kh,Kt,Xe,Kj,Jw,Ob.fresh,Wi,Wt,Ws,Z0,and_self,true_and,and_true,Z4,X6,Vn,Yl,Vh,J4,Vy,J8,Xb,false_and,decide_true,decide_false,Ji,Qp,Qn,Qo,Qe,Qm,Qg,Y3,Xc,Yi,Xp,Xh,Xi,Zk,Zl,Bj,Bi,Bh,Bg,Zf,Kb,Jr,Xy,Xo,Vd,Jx,h1,h2,ho',hxc,hyc,e10,h5,B0,Hz,hadd]
 ·have hd:os.getD i 0 = 0:=by rw [Jf,Kn (by omega)]; rfl
  have h2:¬ ((i:Int) < (m:Int)):=by omega
  have hadd:Vx T 88 [.int .u32 (y:Nat),.int .u32 0,.int .u32 (c:Nat)] [] = _:=Qo1 hy' (by decide:0 < 4294967296) hc
  rw [hd]
  simp only [Qhq,Qbm,Jh,Kc,Kk,Ky,Jy,Kl,Ju,Kz,Kd,K7,guardOf,Zn,opd,Wh,Vu,Va,Env.get,Env.put,Yh,Ql,Q6,Zb,Jj,Vv,Ka,J5,St.after,Env.keep,if_true,if_false,ite_true,ite_false,Wa,Ya,unV,V7,Vb,packed,reduceCtorEq,Zy,Zz,Zp,Qi,Qd,Qh,Zm,Zr,Zw,beq_self_eq_true,Xm,Jv,Kg,Kf,Xx,Kv,X8,Xk,Kw,Ku,Xz,Vg,Ki,J3,Ks,Kx,X5,X0,Jp,Xw,Z5,Je,Jd,J1,Jn,Jz,Jm,Jc,J2,J0,Xd,Jo,Ke,Xf,Kh,Kt,Xe,Kj,Jw,Ob.fresh,Wi,Wt,Ws,Z0,and_self,true_and,and_true,Z4,X6,Vn,Yl,Vh,J4,Vy,J8,Xb,false_and,decide_true,decide_false,Ji,Qp,Qn,Qo,Qe,Qm,Qg,Y3,Xc,Yi,Xp,Xh,Xi,Zk,Zl,Bj,Bi,Bh,Bg,Zf,Kb,Jr,Xy,Xo,Vd,Jx,h1,h2,hyc,e10,h5,B0,Hz,hadd]
theorem Q0d {ws:List Nat} {n:Nat} (hn:ws.length = n):splice (Xq (dig 4294967296 (n + 1) 0)) 0 (Xq ws) = Xq (ws ++ [0]):=by
 rw [B8 _ _ _ (by rw [Bd,Bd,Vj]; omega),Bd,hn,Qol]
 simp only [Za,Q6,Zm,Xq,Ha,List.map_replicate,List.drop_replicate]
 rw [show n + 1 - n = 1 by omega]; rfl
theorem Q0c {ws:List Nat} {n:Nat} (hn:ws.length = n):splice (Xq (ws ++ [0])) n [.int .u32 0] = Xq (ws ++ [0]):=by
 rw [J8]
 apply Wn
 intro i
 by_cases hi:i = n
 ·subst hi
  rw [Jq (by rw [Bd,Zc,hn]; simp),Be (x:=0) (by rw [Q3 (by omega),hn]; simp)]; rfl
 ·rw [Z3 (Ne.symm hi)]
theorem Q0g {H:List Ob} {id1 off1 c1 n:Nat} {ws:List Nat} (hr1:Row .u32 H id1 off1 ws) (hn:ws.length = n) (hn0:0 < n) (hN:n < 2 ^ 40) :
  Y4 1 4 (H ++ [⟨Xq (dig 4294967296 (n + 1) 0),true,true,true,1⟩]) (.slice (some ⟨H.length,0,none⟩) 0 (n + 1)) (.slice (some ⟨id1,off1,none⟩) n c1) = some (.slice (some ⟨H.length,0,none⟩) n (n + 1),H ++ [⟨Xq (ws ++ [0]),true,true,true,1⟩],none,[H.length]):=by
 have h:=Qf5 (H:=H) (r:=[]) (es:=1) (bytes:=4) (len:=0) (cap:=n + 1) (cs:=Xq (dig 4294967296 (n + 1) 0)) (x := .slice (some ⟨id1,off1,none⟩) n c1) (n:=n) (new:=Xq ws) rfl (by rw [← hn]; exact (hr1.app).elems (by omega)) hn0 (by omega) (by omega) (by decide) (by decide) (by rw [Bd,Bd,Vj]; omega)
 rw [Xo,Q0d hn,Zm] at h
 exact h
theorem Q0f {H:List Ob} {n:Nat} {ws:List Nat} (hn:ws.length = n) (hN:n < 2 ^ 40) :
  Y4 1 4 (H ++ [⟨Xq (ws ++ [0]),true,true,true,1⟩,⟨[.int .u32 0],true,true,true,1⟩]) (.slice (some ⟨H.length,0,none⟩) n (n + 1)) (.slice (some ⟨H.length + 1,0,none⟩) 1 1) = some (.slice (some ⟨H.length,0,none⟩) (n + 1) (n + 1),H ++ [⟨Xq (ws ++ [0]),true,true,true,1⟩,⟨[.int .u32 0],true,true,true,1⟩],none,[H.length]):=by
 have h:=Qf5 (H:=H) (r:=[⟨[.int .u32 0],true,true,true,1⟩]) (es:=1) (bytes:=4) (len:=n) (cap:=n + 1) (cs:=Xq (ws ++ [0])) (x := .slice (some ⟨H.length + 1,0,none⟩) 1 1) (n:=1) (new:=[.int .u32 0]) rfl (by simp [elemsOf,Wt]) (by decide) (by omega) (by omega) (by decide) (by decide) (by rw [Bd,Zc,hn]; simp)
 rw [X6,Q0c hn] at h
 exact h
theorem Qwq {n m A:Nat} {os out:List Nat} {c:Nat} (hinv:PlusInv n (n + 1) A os out c) (hm:os.length = m) (hmn:m ≤ n) (hA:A < 4294967296 ^ n) (hos:∀ x ∈ os,x < 4294967296):dig 4294967296 (n + 1) (A + num 4294967296 os) = out:=by
  have h1:=hinv.eq
  rw [show os.take (n + 1) = os from Zh (by omega)] at h1
  have h3:=num_lt hos
  rw [hm] at h3
  have h4:4294967296 ^ m ≤ 4294967296 ^ n:=Ve (by decide) hmn
  have h5:c = 0:=by
   have hc:=hinv.cle
   rcases Yc 0 c with h | h
   ·have:c = 1:=by omega
    subst this
    rw [Vt] at h1
    omega
   ·omega
  subst h5
  rw [Xo,Ji] at h1
  rw [← h1,← hinv.len,Qad (by decide) hinv.lt]
theorem Qs0 {H:List Ob} {id1 off1 id2 off2 c2 n m:Nat} {ws os:List Nat} (hr1:Row .u32 H id1 off1 ws) (hr2:Row .u32 H id2 off2 os) (hn:ws.length = n) (hm:os.length = m) (hn0:0 < n) (hmn:m ≤ n) (hN:n < 2 ^ 40) (hws:∀ x ∈ ws,x < 4294967296) (hos:∀ x ∈ os,x < 4294967296) :
  ∃ out c,J9 T H.length (.block 0 (.loop Qbm)) ⟨[(1,.slice (some ⟨id2,off2,none⟩) m c2),(5,.slice (some ⟨H.length,0,none⟩) (n + 1) (n + 1)),(6,.int .u32 0),(19,.int .i64 ((n + 1:Nat):Int)),(20,.int .i64 0)],H ++ [⟨Xq (ws ++ [0]),true,true,true,1⟩,⟨[.int .u32 0],true,true,true,1⟩],[]⟩ = some (.normal,⟨[(1,.slice (some ⟨id2,off2,none⟩) m c2),(5,.slice (some ⟨H.length,0,none⟩) (n + 1) (n + 1)),(6,.int .u32 (c:Nat)),(19,.int .i64 ((n + 1:Nat):Int)),(20,.int .i64 ((n + 1:Nat):Int)),(21,.bool false)],H ++ [⟨Xq out,true,true,true,1⟩,⟨[.int .u32 0],true,true,true,1⟩],[]⟩) ∧ PlusInv n (n + 1) (num 4294967296 ws) os out c:=by
 have h0:PlusInv n 0 (num 4294967296 ws) os (ws ++ [0]) 0:=⟨by simp [hn],fun x hx => by
  rcases Xg.1 hx with h | h
  ·exact hws x h
  ·simp at h; omega,by decide,by rw [T7]; simp [num]⟩
 obtain ⟨s',hb,out,c,rfl,hinv⟩:=Yv (T:=T) (base:=H.length) (id:=0) (body:=Qbm)
  (fun i s => ∃ out c,s = Qhq H (.slice (some ⟨id2,off2,none⟩) m c2) n i c out ∧ PlusInv n i (num 4294967296 ws) os out c)
  (Q:=fun s => ∃ out c,s = ⟨[(1,.slice (some ⟨id2,off2,none⟩) m c2),(5,.slice (some ⟨H.length,0,none⟩) (n + 1) (n + 1)),(6,.int .u32 (c:Nat)),(19,.int .i64 ((n + 1:Nat):Int)),(20,.int .i64 ((n + 1:Nat):Int)),(21,.bool false)],H ++ [⟨Xq out,true,true,true,1⟩,⟨[.int .u32 0],true,true,true,1⟩],[]⟩ ∧ PlusInv n (n + 1) (num 4294967296 ws) os out c)
  (n + 1) ⟨_,_,rfl,h0⟩
  (fun i s hi hs => by
   obtain ⟨out,c,rfl,hI⟩:=hs
   obtain ⟨y,hy⟩:∃ y,out[i]? = some y:=⟨_,Qt (by rw [hI.len]; omega)⟩
   exact ⟨_,Qs1 hr2 hm hN (by omega) hi hos hI.len hy (hI.lt y (Zs hy)) hI.cle,_,_,rfl,hI.step hos hy⟩)
  (fun s hs => by
   obtain ⟨out,c,rfl,hI⟩:=hs
   have h1:¬ (((n + 1:Nat):Int) < ((n + 1:Nat):Int)):=by omega
   refine ⟨_,?_,out,c,rfl,hI⟩
   simp only [Qhq,Qbm,Jh,Kc,Kk,Ky,Jy,Kl,Ju,Kz,Kd,K7,guardOf,Zn,opd,Wh,Vu,Va,Env.get,Env.put,Yh,Ql,Q6,Zb,Jj,Vv,Ka,J5,St.after,Env.keep,if_true,if_false,ite_true,ite_false,Wa,Ya,unV,V7,Vb,packed,reduceCtorEq,Zy,Zz,Zp,Qi,Qd,Qh,Zm,Zr,Zw,beq_self_eq_true,Xm,Jv,Kg,Kf,Xx,Kv,X8,Xk,Kw,Ku,Xz,Vg,Ki,J3,Ks,Kx,X5,X0,Jp,Xw,Z5,Je,Jd,J1,Jn,Jz,Jm,Jc,J2,J0,Xd,Jo,Ke,Xf,Kh,Kt,Xe,Kj,Jw,Ob.fresh,Wi,Wt,Ws,Z0,and_self,true_and,and_true,Z4,X6,Vn,Yl,Vh,J4,Vy,J8,Xb,false_and,decide_true,decide_false,Ji,Qp,Qn,Qo,Qe,Qm,Qg,Y3,Xc,Yi,Xp,Xh,Xi,Zk,Zl,Bj,Bi,Bh,Bg,Zf,Kb,Jr,Xy,Xo,Vd,Jx,h1])
 rw [show Qhq H (.slice (some ⟨id2,off2,none⟩) m c2) n 0 0 (ws ++ [0]) = ⟨[(1,.slice (some ⟨id2,off2,none⟩) m c2),(5,.slice (some ⟨H.length,0,none⟩) (n + 1) (n + 1)),(6,.int .u32 0),(19,.int .i64 ((n + 1:Nat):Int)),(20,.int .i64 0)],H ++ [⟨Xq (ws ++ [0]),true,true,true,1⟩,⟨[.int .u32 0],true,true,true,1⟩],[]⟩ from rfl] at hb
 exact ⟨out,c,hb,hinv⟩
theorem Q7j {k:Nat} (h:k < 2 ^ 41):((k:Nat):Int) * ((4:Nat):Int) ≤ 2 ^ 47:=by omega
theorem Qwr {H:List Ob} {k n m c:Nat} {id1 off1 c1 id2 off2 c2:Nat} {ws out:List Nat} (e1:IntKind.i64.wrap ((n:Int) + 1) = ((k:Nat):Int)) (h1:((k:Nat):Int) * ((4:Nat):Int) ≤ 2 ^ 47)
  (ha1:Y4 1 4 (H ++ [⟨Xq (dig 4294967296 k 0),true,true,true,1⟩]) (.slice (some ⟨H.length,0,none⟩) 0 k) (.slice (some ⟨id1,off1,none⟩) n c1) = some (.slice (some ⟨H.length,0,none⟩) n k,H ++ [⟨Xq (ws ++ [0]),true,true,true,1⟩],none,[H.length]))
  (ha2:Y4 1 4 (H ++ [⟨Xq (ws ++ [0]),true,true,true,1⟩,⟨[.int .u32 0],true,true,true,1⟩]) (.slice (some ⟨H.length,0,none⟩) n k) (.slice (some ⟨H.length + 1,0,none⟩) 1 1) = some (.slice (some ⟨H.length,0,none⟩) k k,H ++ [⟨Xq (ws ++ [0]),true,true,true,1⟩,⟨[.int .u32 0],true,true,true,1⟩],none,[H.length]))
  (hb:J9 T H.length (.block 0 (.loop Qbm)) ⟨[(1,.slice (some ⟨id2,off2,none⟩) m c2),(5,.slice (some ⟨H.length,0,none⟩) (k) (k)),(6,.int .u32 0),(19,.int .i64 ((k:Nat):Int)),(20,.int .i64 0)],H ++ [⟨Xq (ws ++ [0]),true,true,true,1⟩,⟨[.int .u32 0],true,true,true,1⟩],[]⟩ = some (.normal,⟨[(1,.slice (some ⟨id2,off2,none⟩) m c2),(5,.slice (some ⟨H.length,0,none⟩) (k) (k)),(6,.int .u32 (c:Nat)),(19,.int .i64 ((k:Nat):Int)),(20,.int .i64 ((k:Nat):Int)),(21,.bool false)],H ++ [⟨Xq out,true,true,true,1⟩,⟨[.int .u32 0],true,true,true,1⟩],[]⟩)) :
  Vx T 59 [.slice (some ⟨id1,off1,none⟩) n c1,.slice (some ⟨id2,off2,none⟩) m c2] H = some (.slice (some ⟨H.length,0,none⟩) k k,H ++ [⟨Xq out,true,true,true,1⟩,⟨[.int .u32 0],true,true,true,1⟩],[]):=by
 have h2:(0:Nat) < 4:=by decide
 have hfill:fillL [Value.int .u32 0] [(0,1,.int .u32 0)] = some [.int .u32 0]:=rfl
 rw [Jg (fn:=a45) rfl]
 simp only [a45,Jh,Kc,Kk,Ky,Jy,Kl,Ju,Kz,Kd,K7,guardOf,Zn,opd,Wh,Vu,Va,Env.get,Env.put,Yh,Ql,Q6,Zb,Jj,Vv,Ka,J5,St.after,Env.keep,if_true,if_false,ite_true,ite_false,Wa,Ya,unV,V7,Vb,packed,reduceCtorEq,Zy,Zz,Zp,Qi,Qd,Qh,Zm,Zr,Zw,beq_self_eq_true,Xm,Jv,Kg,Kf,Xx,Kv,X8,Xk,Kw,Ku,Xz,Vg,Ki,J3,Ks,Kx,X5,X0,Jp,Xw,Z5,Je,Jd,J1,Jn,Jz,Jm,Jc,J2,J0,Xd,Jo,Ke,Xf,Kh,Kt,Xe,Kj,Jw,Ob.fresh,Wi,Wt,Ws,Z0,and_self,true_and,and_true,Z4,X6,Vn,Yl,Vh,J4,Vy,J8,Xb,false_and,decide_true,decide_false,Ji,Qp,Qn,Qo,Qe,Qm,Qg,Y3,Xc,Yi,Xp,Xh,Xi,Zk,Zl,Bj,Bi,Bh,Bg,Zf,Kb,Jr,Xy,Xo,Vd,Jx,e1,h1,h2,Kb,To,Qeu,hfill,Zc,Z1,ha1,ha2,hb]
theorem Q0e {H:List Ob} {id1 off1 c1 id2 off2 c2 n m:Nat} {ws os:List Nat} (hr1:Row .u32 H id1 off1 ws) (hr2:Row .u32 H id2 off2 os) (hn:ws.length = n) (hm:os.length = m) (hn0:0 < n) (hmn:m ≤ n) (hN:n < 2 ^ 40) (hws:∀ x ∈ ws,x < 4294967296) (hos:∀ x ∈ os,x < 4294967296) :
  Vx T 59 [.slice (some ⟨id1,off1,none⟩) n c1,.slice (some ⟨id2,off2,none⟩) m c2] H = some (.slice (some ⟨H.length,0,none⟩) (n + 1) (n + 1),H ++ [⟨Xq (dig 4294967296 (n + 1) (num 4294967296 ws + num 4294967296 os)),true,true,true,1⟩,⟨[.int .u32 0],true,true,true,1⟩],[]):=by
 obtain ⟨out,c,hb,hinv⟩:=Qs0 (c2:=c2) hr1 hr2 hn hm hn0 hmn hN hws hos
 have hout:=Qwq hinv hm hmn (by rw [← hn]; exact num_lt hws) hos
 rw [hout]
 exact Qwr (Yp (n:=n + 1) (by omega)) (Q7j (by omega)) (Q0g hr1 hn hn0 hN) (Q0f hn hN) hb
def ell:Nat:=7237005577332262213973186563042994240857116359379907606001950938285454250989
theorem Qr3:num 4294967296 orderW = ell:=by decide
theorem Qdr:∀ x ∈ orderW,x < 4294967296:=by decide
structure ShInv (k c0:Nat) (r0 r:List Nat) (c:Nat):Prop where
 len:r.length = 8
 lt:∀ x ∈ r,x < 4294967296
 cle:c ≤ 1
 eq:num 4294967296 r + c * 4294967296 ^ k = num 4294967296 r0 + num 4294967296 (r0.take k) + c0
 rest:∀ j,k ≤ j → r[j]? = r0[j]?
theorem ShInv.step {k c0 c x:Nat} {r0 r:List Nat} (h:ShInv k c0 r0 r c) (hx:r[k]? = some x):ShInv (k + 1) c0 r0 (r.set k ((2 * x + c) % 4294967296)) (x / 2147483648):=by
 have hx':x < 4294967296:=h.lt x (Zs hx)
 have hc:=h.cle
 refine ⟨by rw [Jt]; exact h.len,Mi h.lt (Js _ (by decide)),by omega,?_,?_⟩
 ·have h1:=Ro (B:=4294967296) ((2 * x + c) % 4294967296) hx
  have h2:=h.eq
  rw [Bf (by rw [← h.rest k (Zf _)]; exact hx)]
  have h3:4294967296 * (x / 2147483648) + (2 * x + c) % 4294967296 = 2 * x + c:=by omega
  generalize (2 * x + c) % 4294967296 = y at *
  generalize x / 2147483648 = q at *
  have e2:q * 4294967296 ^ (k + 1) = 4294967296 * q * 4294967296 ^ k:=by
   rw [Vt]; simp only [Yw,Y8,Vp]
  have e3:(4294967296 * q + y) * 4294967296 ^ k = (2 * x + c) * 4294967296 ^ k:=by rw [h3]
  rw [Vo,Vo,Yw 2] at e3
  rw [e2]
  omega
 ·intro j hj
  rw [Z3 (by omega)]
  exact h.rest j (by omega)
structure SbInv (k:Nat) (r nx:List Nat) (b:Nat):Prop where
 len:nx.length = 8
 lt:∀ x ∈ nx,x < 4294967296
 ble:b ≤ 1
 eq:num 4294967296 (r.take k) + b * 4294967296 ^ k = num 4294967296 (orderW.take k) + num 4294967296 (nx.take k)
theorem Qi7 {l:List Nat} {k y:Nat}:(l.set k y).take k = l.take k:=by
 apply Wn
 intro i
 rw [Vi,Vi]
 by_cases h:i < k
 ·rw [if_pos h,if_pos h,Z3 (by omega)]
 ·rw [if_neg h,if_neg h]
theorem SbInv.step {k b x l:Nat} {r nx:List Nat} (h:SbInv k r nx b) (hr:∀ x ∈ r,x < 4294967296) (hk:k < 8) (hx:r[k]? = some x) (hl:orderW[k]? = some l):SbInv (k + 1) r (nx.set k (Qcm x l b)) (Qcn x l b):=by
 have hx':x < 4294967296:=hr x (Zs hx)
 have hl':l < 4294967296:=Qdr l (Zs hl)
 have hb:=h.ble
 have hd:Qcm x l b < 4294967296 ∧ x + 4294967296 * Qcn x l b = l + b + Qcm x l b ∧ Qcn x l b ≤ 1:=by
  unfold Qcm Qcn; split <;> omega
 refine ⟨by rw [Jt]; exact h.len,Mi h.lt hd.1,hd.2.2,?_⟩
 have h2:=h.eq
 have hy:(nx.set k (Qcm x l b))[k]? = some (Qcm x l b):=Jq (by rw [h.len]; exact hk)
 rw [Bf hx,Bf hl,Bf hy,Qi7]
 have h3:=hd.2.1
 generalize Qcm x l b = d at *
 generalize Qcn x l b = q at *
 have e2:q * 4294967296 ^ (k + 1) = 4294967296 * q * 4294967296 ^ k:=by
  rw [Vt]; simp only [Yw,Y8,Vp]
 have e3:(x + 4294967296 * q) * 4294967296 ^ k = (l + b + d) * 4294967296 ^ k:=by rw [h3]
 rw [Vo,Vo,Vo] at e3
 rw [e2]
 omega
theorem Qv2 {H:List Ob} {s v:Value} {k c x:Nat} {r nx:List Nat} (hk:k < 8) (hl:r.length = 8) (hx:r[k]? = some x) (hx':x < 4294967296) (hc:c ≤ 1) :
  J9 T H.length Mz (⟨[(0,s),(3,(.slice (some ⟨H.length,0,none⟩) 8 8)),(4,(.slice (some ⟨H.length + 1,0,none⟩) 8 8)),(5,(.slice (some ⟨(H.length + 2),0,none⟩) 8 8)),(6,v),(7,.int .u32 ((c:Nat))),(32,.int .i64 8),(33,.int .i64 ((k:Nat)))],H ++ [⟨Xq (r),true,true,true,1⟩,⟨Xq orderW,true,true,true,1⟩,⟨Xq (nx),true,true,true,1⟩],[]⟩:St) = some (.normal,(⟨[(0,s),(3,(.slice (some ⟨H.length,0,none⟩) 8 8)),(4,(.slice (some ⟨H.length + 1,0,none⟩) 8 8)),(5,(.slice (some ⟨(H.length + 2),0,none⟩) 8 8)),(6,v),(7,.int .u32 (((x / 2147483648:Nat):Int))),(32,.int .i64 8),(33,.int .i64 (((k + 1:Nat):Int)))],H ++ [⟨Xq (r.set k ((2 * x + c) % 4294967296)),true,true,true,1⟩,⟨Xq orderW,true,true,true,1⟩,⟨Xq (nx),true,true,true,1⟩],[]⟩:St)):=by
 have hxc:=Be hx
 have h1:((k:Int) < (8:Int)):=by omega
 have h1':((k:Int) < ((8:Nat):Int)):=by omega
 have e1:IntKind.u32.wrap ((x:Int) * 2 ^ min 1 IntKind.u32.bits) = ((2 * x % 4294967296:Nat):Int):=by
  rw [wrap_u32,show min 1 IntKind.u32.bits = 1 from rfl]; omega
 have e2:Vf .or .u32 ((2 * x % 4294967296:Nat):Int) (c:Int) = (((2 * x + c) % 4294967296:Nat):Int):=by
  rw [Gy (k := .u32) (a:=2 * x % 4294967296) (b:=c) rfl (Js _ (by decide)) (by show c < 2 ^ 32; omega)]
  congr 1
  have h2:2 * x % 4294967296 = 2 ^ 1 * (x % 2147483648):=by omega
  rw [h2,← Hl (by omega:c < 2 ^ 1)]
  omega
 have e3:Qat (x:Int) (2 ^ min 31 IntKind.u32.bits) = ((x / 2147483648:Nat):Int):=by
  rw [Wb _ (by decide)]; rfl
 have e10:IntKind.i64.wrap ((k:Int) + 1) = ((k + 1:Nat):Int):=Yp (n:=k + 1) (by omega)
 have h5:k + 1 ≤ (Xq r).length:=by rw [Bd,hl]; omega
 simp only [Mz,Jh,Kc,Kk,Ky,Jy,Kl,Ju,Kz,Kd,K7,guardOf,Zn,opd,Wh,Vu,Va,Env.get,Env.put,Yh,Ql,Q6,Zb,Jj,Vv,Ka,J5,St.after,Env.keep,if_true,if_false,ite_true,ite_false,Wa,Ya,unV,V7,Vb,packed,reduceCtorEq,Zy,Zz,Zp,Qi,Qd,Qh,Zm,Zr,Zw,beq_self_eq_true,Xm,Jv,Kg,Kf,Xx,Kv,X8,Xk,Kw,Ku,Xz,Vg,Ki,J3,Ks,Kx,X5,X0,Jp,Xw,Z5,Je,Jd,J1,Jn,Jz,Jm,Jc,J2,J0,Xd,Jo,Ke,Xf,Kh,Kt,Xe,Kj,Jw,Ob.fresh,Wi,Wt,Ws,Z0,and_self,true_and,and_true,Z4,X6,Vn,Yl,Vh,J4,Vy,J8,Xb,false_and,decide_true,decide_false,Ji,Qp,Qn,Qo,Qe,Qm,Qg,Y3,Xc,Yi,Xp,Xh,Xi,Zk,Zl,Bj,Bi,Bh,Bg,Zf,Kb,Jr,Xy,Xo,Vd,Jx,h1,h1',hxc,e1,e2,e3,e10,h5,B0,Hz]
theorem Qv8 {H:List Ob} {s v:Value} {k b x l:Nat} {r nx:List Nat} (hk:k < 8) (hl:nx.length = 8) (hx:r[k]? = some x) (hx':x < 4294967296) (ho:orderW[k]? = some l) (hb:b ≤ 1) :
  J9 T H.length M0 (⟨[(0,s),(3,(.slice (some ⟨H.length,0,none⟩) 8 8)),(4,(.slice (some ⟨H.length + 1,0,none⟩) 8 8)),(5,(.slice (some ⟨(H.length + 2),0,none⟩) 8 8)),(6,v),(9,.int .u32 ((b:Nat))),(53,.int .i64 8),(54,.int .i64 ((k:Nat)))],H ++ [⟨Xq (r),true,true,true,1⟩,⟨Xq orderW,true,true,true,1⟩,⟨Xq (nx),true,true,true,1⟩],[]⟩:St) = some (.normal,(⟨[(0,s),(3,(.slice (some ⟨H.length,0,none⟩) 8 8)),(4,(.slice (some ⟨H.length + 1,0,none⟩) 8 8)),(5,(.slice (some ⟨(H.length + 2),0,none⟩) 8 8)),(6,v),(9,.int .u32 (((Qcn x l b:Nat):Int))),(53,.int .i64 8),(54,.int .i64 (((k + 1:Nat):Int)))],H ++ [⟨Xq (r),true,true,true,1⟩,⟨Xq orderW,true,true,true,1⟩,⟨Xq (nx.set k (Qcm x l b)),true,true,true,1⟩],[]⟩:St)):=by
 have hxc:=Be hx
 have hlc:=Be ho
 have h1:((k:Int) < (8:Int)):=by omega
 have h1':((k:Int) < ((8:Nat):Int)):=by omega
 have hsub:=Qhc hx' (Qdr l (Zs ho)) hb
 have e10:IntKind.i64.wrap ((k:Int) + 1) = ((k + 1:Nat):Int):=Yp (n:=k + 1) (by omega)
 have h5:k + 1 ≤ (Xq nx).length:=by rw [Bd,hl]; omega
 simp only [M0,Jh,Kc,Kk,Ky,Jy,Kl,Ju,Kz,Kd,K7,guardOf,Zn,opd,Wh,Vu,Va,Env.get,Env.put,Yh,Ql,Q6,Zb,Jj,Vv,Ka,J5,St.after,Env.keep,if_true,if_false,ite_true,ite_false,Wa,Ya,unV,V7,Vb,packed,reduceCtorEq,Zy,Zz,Zp,Qi,Qd,Qh,Zm,Zr,Zw,beq_self_eq_true,Xm,Jv,Kg,Kf,Xx,Kv,X8,Xk,Kw,Ku,Xz,Vg,Ki,J3,Ks,Kx,X5,X0,Jp,Xw,Z5,Je,Jd,J1,Jn,Jz,Jm,Jc,J2,J0,Xd,Jo,Ke,Xf,Kh,Kt,Xe,Kj,Jw,Ob.fresh,Wi,Wt,Ws,Z0,and_self,true_and,and_true,Z4,X6,Vn,Yl,Vh,J4,Vy,J8,Xb,false_and,decide_true,decide_false,Ji,Qp,Qn,Qo,Qe,Qm,Qg,Y3,Xc,Yi,Xp,Xh,Xi,Zk,Zl,Bj,Bi,Bh,Bg,Zf,Kb,Jr,Xy,Xo,Vd,Jx,h1,h1',hxc,hlc,hsub,e10,h5,Qmp,Hz]
theorem Qv0 {H:List Ob} {s v:Value} {c:Nat} {r nx:List Nat} (hl:r.length = 8) (hr:∀ x ∈ r,x < 4294967296) (hc:c ≤ 1) :
  ∃ r' c',J9 T H.length (.block 2 (.loop Mz)) (⟨[(0,s),(3,(.slice (some ⟨H.length,0,none⟩) 8 8)),(4,(.slice (some ⟨H.length + 1,0,none⟩) 8 8)),(5,(.slice (some ⟨(H.length + 2),0,none⟩) 8 8)),(6,v),(7,.int .u32 ((c:Nat))),(32,.int .i64 8),(33,.int .i64 (0))],H ++ [⟨Xq (r),true,true,true,1⟩,⟨Xq orderW,true,true,true,1⟩,⟨Xq (nx),true,true,true,1⟩],[]⟩:St) = some (.normal,(⟨[(0,s),(3,(.slice (some ⟨H.length,0,none⟩) 8 8)),(4,(.slice (some ⟨H.length + 1,0,none⟩) 8 8)),(5,(.slice (some ⟨(H.length + 2),0,none⟩) 8 8)),(6,v),(7,.int .u32 ((c':Nat))),(32,.int .i64 8),(33,.int .i64 (8)),(34,.bool false)],H ++ [⟨Xq (r'),true,true,true,1⟩,⟨Xq orderW,true,true,true,1⟩,⟨Xq (nx),true,true,true,1⟩],[]⟩:St)) ∧ ShInv 8 c r r' c':=by
 obtain ⟨s',hb,r',c',rfl,hinv⟩:=Yv (T:=T) (base:=H.length) (id:=2) (body:=Mz)
  (fun k s1 => ∃ r' c',s1 = (⟨[(0,s),(3,(.slice (some ⟨H.length,0,none⟩) 8 8)),(4,(.slice (some ⟨H.length + 1,0,none⟩) 8 8)),(5,(.slice (some ⟨(H.length + 2),0,none⟩) 8 8)),(6,v),(7,.int .u32 ((c':Nat))),(32,.int .i64 8),(33,.int .i64 ((k:Nat)))],H ++ [⟨Xq (r'),true,true,true,1⟩,⟨Xq orderW,true,true,true,1⟩,⟨Xq (nx),true,true,true,1⟩],[]⟩:St) ∧ ShInv k c r r' c')
  (Q:=fun s1 => ∃ r' c',s1 = (⟨[(0,s),(3,(.slice (some ⟨H.length,0,none⟩) 8 8)),(4,(.slice (some ⟨H.length + 1,0,none⟩) 8 8)),(5,(.slice (some ⟨(H.length + 2),0,none⟩) 8 8)),(6,v),(7,.int .u32 ((c':Nat))),(32,.int .i64 8),(33,.int .i64 (8)),(34,.bool false)],H ++ [⟨Xq (r'),true,true,true,1⟩,⟨Xq orderW,true,true,true,1⟩,⟨Xq (nx),true,true,true,1⟩],[]⟩:St) ∧ ShInv 8 c r r' c')
  8 (s:=(⟨[(0,s),(3,(.slice (some ⟨H.length,0,none⟩) 8 8)),(4,(.slice (some ⟨H.length + 1,0,none⟩) 8 8)),(5,(.slice (some ⟨(H.length + 2),0,none⟩) 8 8)),(6,v),(7,.int .u32 ((c:Nat))),(32,.int .i64 8),(33,.int .i64 (((0:Nat):Int)))],H ++ [⟨Xq (r),true,true,true,1⟩,⟨Xq orderW,true,true,true,1⟩,⟨Xq (nx),true,true,true,1⟩],[]⟩:St)) ⟨_,_,rfl,⟨hl,hr,hc,by simp [num],fun _ _ => rfl⟩⟩
  (fun k s1 hk hs => by
   obtain ⟨r',c',rfl,hI⟩:=hs
   obtain ⟨x,hx⟩:∃ x,r'[k]? = some x:=⟨_,Qt (by rw [hI.len]; omega)⟩
   exact ⟨_,Qv2 hk hI.len hx (hI.lt x (Zs hx)) hI.cle,_,_,rfl,hI.step hx⟩)
  (fun s1 hs => by
   obtain ⟨r',c',rfl,hI⟩:=hs
   have h1:¬ (((8:Nat):Int) < (8:Int)):=by omega
   refine ⟨_,?_,r',c',rfl,hI⟩
   simp only [Mz,Jh,Kc,Kk,Ky,Jy,Kl,Ju,Kz,Kd,K7,guardOf,Zn,opd,Wh,Vu,Va,Env.get,Env.put,Yh,Ql,Q6,Zb,Jj,Vv,Ka,J5,St.after,Env.keep,if_true,if_false,ite_true,ite_false,Wa,Ya,unV,V7,Vb,packed,reduceCtorEq,Zy,Zz,Zp,Qi,Qd,Qh,Zm,Zr,Zw,beq_self_eq_true,Xm,Jv,Kg,Kf,Xx,Kv,X8,Xk,Kw,Ku,Xz,Vg,Ki,J3,Ks,Kx,X5,X0,Jp,Xw,Z5,Je,Jd,J1,Jn,Jz,Jm,Jc,J2,J0,Xd,Jo,Ke,Xf,Kh,Kt,Xe,Kj,Jw,Ob.fresh,Wi,Wt,Ws,Z0,and_self,true_and,and_true,Z4,X6,Vn,Yl,Vh,J4,Vy,J8,Xb,false_and,decide_true,decide_false,Ji,Qp,Qn,Qo,Qe,Qm,Qg,Y3,Xc,Yi,Xp,Xh,Xi,Zk,Zl,Bj,Bi,Bh,Bg,Zf,Kb,Jr,Xy,Xo,Vd,Jx,h1]
   rfl)
 exact ⟨r',c',hb,hinv⟩
theorem Qv6 {H:List Ob} {s v:Value} {r nx:List Nat} (hl:r.length = 8) (hr:∀ x ∈ r,x < 4294967296) (hl2:nx.length = 8) (hr2:∀ x ∈ nx,x < 4294967296) :
  ∃ nx' b,J9 T H.length (.block 4 (.loop M0)) (⟨[(0,s),(3,(.slice (some ⟨H.length,0,none⟩) 8 8)),(4,(.slice (some ⟨H.length + 1,0,none⟩) 8 8)),(5,(.slice (some ⟨(H.length + 2),0,none⟩) 8 8)),(6,v),(9,.int .u32 (0)),(53,.int .i64 8),(54,.int .i64 (0))],H ++ [⟨Xq (r),true,true,true,1⟩,⟨Xq orderW,true,true,true,1⟩,⟨Xq (nx),true,true,true,1⟩],[]⟩:St) = some (.normal,(⟨[(0,s),(3,(.slice (some ⟨H.length,0,none⟩) 8 8)),(4,(.slice (some ⟨H.length + 1,0,none⟩) 8 8)),(5,(.slice (some ⟨(H.length + 2),0,none⟩) 8 8)),(6,v),(9,.int .u32 ((b:Nat))),(53,.int .i64 8),(54,.int .i64 (8)),(55,.bool false)],H ++ [⟨Xq (r),true,true,true,1⟩,⟨Xq orderW,true,true,true,1⟩,⟨Xq (nx'),true,true,true,1⟩],[]⟩:St)) ∧ SbInv 8 r nx' b:=by
 obtain ⟨s',hb,nx',b,rfl,hinv⟩:=Yv (T:=T) (base:=H.length) (id:=4) (body:=M0)
  (fun k s1 => ∃ nx' b,s1 = (⟨[(0,s),(3,(.slice (some ⟨H.length,0,none⟩) 8 8)),(4,(.slice (some ⟨H.length + 1,0,none⟩) 8 8)),(5,(.slice (some ⟨(H.length + 2),0,none⟩) 8 8)),(6,v),(9,.int .u32 ((b:Nat))),(53,.int .i64 8),(54,.int .i64 ((k:Nat)))],H ++ [⟨Xq (r),true,true,true,1⟩,⟨Xq orderW,true,true,true,1⟩,⟨Xq (nx'),true,true,true,1⟩],[]⟩:St) ∧ SbInv k r nx' b)
  (Q:=fun s1 => ∃ nx' b,s1 = (⟨[(0,s),(3,(.slice (some ⟨H.length,0,none⟩) 8 8)),(4,(.slice (some ⟨H.length + 1,0,none⟩) 8 8)),(5,(.slice (some ⟨(H.length + 2),0,none⟩) 8 8)),(6,v),(9,.int .u32 ((b:Nat))),(53,.int .i64 8),(54,.int .i64 (8)),(55,.bool false)],H ++ [⟨Xq (r),true,true,true,1⟩,⟨Xq orderW,true,true,true,1⟩,⟨Xq (nx'),true,true,true,1⟩],[]⟩:St) ∧ SbInv 8 r nx' b)
  8 (s:=(⟨[(0,s),(3,(.slice (some ⟨H.length,0,none⟩) 8 8)),(4,(.slice (some ⟨H.length + 1,0,none⟩) 8 8)),(5,(.slice (some ⟨(H.length + 2),0,none⟩) 8 8)),(6,v),(9,.int .u32 (((0:Nat):Int))),(53,.int .i64 8),(54,.int .i64 (((0:Nat):Int)))],H ++ [⟨Xq (r),true,true,true,1⟩,⟨Xq orderW,true,true,true,1⟩,⟨Xq (nx),true,true,true,1⟩],[]⟩:St)) ⟨_,_,rfl,⟨hl2,hr2,by decide,by simp [num]⟩⟩
  (fun k s1 hk hs => by
   obtain ⟨nx',b,rfl,hI⟩:=hs
   obtain ⟨x,hx⟩:∃ x,r[k]? = some x:=⟨_,Qt (by omega)⟩
   obtain ⟨l,hlk⟩:∃ l,orderW[k]? = some l:=⟨_,Qt (show k < orderW.length from hk)⟩
   exact ⟨_,Qv8 hk hI.len hx (hr x (Zs hx)) hlk hI.ble,_,_,rfl,hI.step hr hk hx hlk⟩)
  (fun s1 hs => by
   obtain ⟨nx',b,rfl,hI⟩:=hs
   have h1:¬ (((8:Nat):Int) < (8:Int)):=by omega
   refine ⟨_,?_,nx',b,rfl,hI⟩
   simp only [M0,Jh,Kc,Kk,Ky,Jy,Kl,Ju,Kz,Kd,K7,guardOf,Zn,opd,Wh,Vu,Va,Env.get,Env.put,Yh,Ql,Q6,Zb,Jj,Vv,Ka,J5,St.after,Env.keep,if_true,if_false,ite_true,ite_false,Wa,Ya,unV,V7,Vb,packed,reduceCtorEq,Zy,Zz,Zp,Qi,Qd,Qh,Zm,Zr,Zw,beq_self_eq_true,Xm,Jv,Kg,Kf,Xx,Kv,X8,Xk,Kw,Ku,Xz,Vg,Ki,J3,Ks,Kx,X5,X0,Jp,Xw,Z5,Je,Jd,J1,Jn,Jz,Jm,Jc,J2,J0,Xd,Jo,Ke,Xf,Kh,Kt,Xe,Kj,Jw,Ob.fresh,Wi,Wt,Ws,Z0,and_self,true_and,and_true,Z4,X6,Vn,Yl,Vh,J4,Vy,J8,Xb,false_and,decide_true,decide_false,Ji,Qp,Qn,Qo,Qe,Qm,Qg,Y3,Xc,Yi,Xp,Xh,Xi,Zk,Zl,Bj,Bi,Bh,Bg,Zf,Kb,Jr,Xy,Xo,Vd,Jx,h1]
   rfl)
 exact ⟨nx',b,hb,hinv⟩
theorem Qv1 {H:List Ob} {s v:Value} {k c x:Nat} {r nx:List Nat} (hk:k < 8) (hl:r.length = 8) (hx:r[k]? = some x) (hx':x < 4294967296) (hc:c ≤ 1) :
  J9 T H.length Mz (⟨[(0,s),(3,(.slice (some ⟨(H.length + 2),0,none⟩) 8 8)),(4,(.slice (some ⟨H.length + 1,0,none⟩) 8 8)),(5,(.slice (some ⟨H.length,0,none⟩) 8 8)),(6,v),(7,.int .u32 ((c:Nat))),(32,.int .i64 8),(33,.int .i64 ((k:Nat)))],H ++ [⟨Xq (nx),true,true,true,1⟩,⟨Xq orderW,true,true,true,1⟩,⟨Xq (r),true,true,true,1⟩],[]⟩:St) = some (.normal,(⟨[(0,s),(3,(.slice (some ⟨(H.length + 2),0,none⟩) 8 8)),(4,(.slice (some ⟨H.length + 1,0,none⟩) 8 8)),(5,(.slice (some ⟨H.length,0,none⟩) 8 8)),(6,v),(7,.int .u32 (((x / 2147483648:Nat):Int))),(32,.int .i64 8),(33,.int .i64 (((k + 1:Nat):Int)))],H ++ [⟨Xq (nx),true,true,true,1⟩,⟨Xq orderW,true,true,true,1⟩,⟨Xq (r.set k ((2 * x + c) % 4294967296)),true,true,true,1⟩],[]⟩:St)):=by
 have hxc:=Be hx
 have h1:((k:Int) < (8:Int)):=by omega
 have h1':((k:Int) < ((8:Nat):Int)):=by omega
 have e1:IntKind.u32.wrap ((x:Int) * 2 ^ min 1 IntKind.u32.bits) = ((2 * x % 4294967296:Nat):Int):=by
  rw [wrap_u32,show min 1 IntKind.u32.bits = 1 from rfl]; omega
 have e2:Vf .or .u32 ((2 * x % 4294967296:Nat):Int) (c:Int) = (((2 * x + c) % 4294967296:Nat):Int):=by
  rw [Gy (k := .u32) (a:=2 * x % 4294967296) (b:=c) rfl (Js _ (by decide)) (by show c < 2 ^ 32; omega)]
  congr 1
  have h2:2 * x % 4294967296 = 2 ^ 1 * (x % 2147483648):=by omega
  rw [h2,← Hl (by omega:c < 2 ^ 1)]
  omega
 have e3:Qat (x:Int) (2 ^ min 31 IntKind.u32.bits) = ((x / 2147483648:Nat):Int):=by
  rw [Wb _ (by decide)]; rfl
 have e10:IntKind.i64.wrap ((k:Int) + 1) = ((k + 1:Nat):Int):=Yp (n:=k + 1) (by omega)
 have h5:k + 1 ≤ (Xq r).length:=by rw [Bd,hl]; omega
 simp only [Mz,Jh,Kc,Kk,Ky,Jy,Kl,Ju,Kz,Kd,K7,guardOf,Zn,opd,Wh,Vu,Va,Env.get,Env.put,Yh,Ql,Q6,Zb,Jj,Vv,Ka,J5,St.after,Env.keep,if_true,if_false,ite_true,ite_false,Wa,Ya,unV,V7,Vb,packed,reduceCtorEq,Zy,Zz,Zp,Qi,Qd,Qh,Zm,Zr,Zw,beq_self_eq_true,Xm,Jv,Kg,Kf,Xx,Kv,X8,Xk,Kw,Ku,Xz,Vg,Ki,J3,Ks,Kx,X5,X0,Jp,Xw,Z5,Je,Jd,J1,Jn,Jz,Jm,Jc,J2,J0,Xd,Jo,Ke,Xf,Kh,Kt,Xe,Kj,Jw,Ob.fresh,Wi,Wt,Ws,Z0,and_self,true_and,and_true,Z4,X6,Vn,Yl,Vh,J4,Vy,J8,Xb,false_and,decide_true,decide_false,Ji,Qp,Qn,Qo,Qe,Qm,Qg,Y3,Xc,Yi,Xp,Xh,Xi,Zk,Zl,Bj,Bi,Bh,Bg,Zf,Kb,Jr,Xy,Xo,Vd,Jx,h1,h1',hxc,e1,e2,e3,e10,h5,Qmp,Hz]
theorem Qv7 {H:List Ob} {s v:Value} {k b x l:Nat} {r nx:List Nat} (hk:k < 8) (hl:nx.length = 8) (hx:r[k]? = some x) (hx':x < 4294967296) (ho:orderW[k]? = some l) (hb:b ≤ 1) :
  J9 T H.length M0 (⟨[(0,s),(3,(.slice (some ⟨(H.length + 2),0,none⟩) 8 8)),(4,(.slice (some ⟨H.length + 1,0,none⟩) 8 8)),(5,(.slice (some ⟨H.length,0,none⟩) 8 8)),(6,v),(9,.int .u32 ((b:Nat))),(53,.int .i64 8),(54,.int .i64 ((k:Nat)))],H ++ [⟨Xq (nx),true,true,true,1⟩,⟨Xq orderW,true,true,true,1⟩,⟨Xq (r),true,true,true,1⟩],[]⟩:St) = some (.normal,(⟨[(0,s),(3,(.slice (some ⟨(H.length + 2),0,none⟩) 8 8)),(4,(.slice (some ⟨H.length + 1,0,none⟩) 8 8)),(5,(.slice (some ⟨H.length,0,none⟩) 8 8)),(6,v),(9,.int .u32 (((Qcn x l b:Nat):Int))),(53,.int .i64 8),(54,.int .i64 (((k + 1:Nat):Int)))],H ++ [⟨Xq (nx.set k (Qcm x l b)),true,true,true,1⟩,⟨Xq orderW,true,true,true,1⟩,⟨Xq (r),true,true,true,1⟩],[]⟩:St)):=by
 have hxc:=Be hx
 have hlc:=Be ho
 have h1:((k:Int) < (8:Int)):=by omega
 have h1':((k:Int) < ((8:Nat):Int)):=by omega
 have hsub:=Qhc hx' (Qdr l (Zs ho)) hb
 have e10:IntKind.i64.wrap ((k:Int) + 1) = ((k + 1:Nat):Int):=Yp (n:=k + 1) (by omega)
 have h5:k + 1 ≤ (Xq nx).length:=by rw [Bd,hl]; omega
 simp only [M0,Jh,Kc,Kk,Ky,Jy,Kl,Ju,Kz,Kd,K7,guardOf,Zn,opd,Wh,Vu,Va,Env.get,Env.put,Yh,Ql,Q6,Zb,Jj,Vv,Ka,J5,St.after,Env.keep,if_true,if_false,ite_true,ite_false,Wa,Ya,unV,V7,Vb,packed,reduceCtorEq,Zy,Zz,Zp,Qi,Qd,Qh,Zm,Zr,Zw,beq_self_eq_true,Xm,Jv,Kg,Kf,Xx,Kv,X8,Xk,Kw,Ku,Xz,Vg,Ki,J3,Ks,Kx,X5,X0,Jp,Xw,Z5,Je,Jd,J1,Jn,Jz,Jm,Jc,J2,J0,Xd,Jo,Ke,Xf,Kh,Kt,Xe,Kj,Jw,Ob.fresh,Wi,Wt,Ws,Z0,and_self,true_and,and_true,Z4,X6,Vn,Yl,Vh,J4,Vy,J8,Xb,false_and,decide_true,decide_false,Ji,Qp,Qn,Qo,Qe,Qm,Qg,Y3,Xc,Yi,Xp,Xh,Xi,Zk,Zl,Bj,Bi,Bh,Bg,Zf,Kb,Jr,Xy,Xo,Vd,Jx,h1,h1',hxc,hlc,hsub,e10,h5,B0,Hz]
theorem Qvz {H:List Ob} {s v:Value} {c:Nat} {r nx:List Nat} (hl:r.length = 8) (hr:∀ x ∈ r,x < 4294967296) (hc:c ≤ 1) :
  ∃ r' c',J9 T H.length (.block 2 (.loop Mz)) (⟨[(0,s),(3,(.slice (some ⟨(H.length + 2),0,none⟩) 8 8)),(4,(.slice (some ⟨H.length + 1,0,none⟩) 8 8)),(5,(.slice (some ⟨H.length,0,none⟩) 8 8)),(6,v),(7,.int .u32 ((c:Nat))),(32,.int .i64 8),(33,.int .i64 (0))],H ++ [⟨Xq (nx),true,true,true,1⟩,⟨Xq orderW,true,true,true,1⟩,⟨Xq (r),true,true,true,1⟩],[]⟩:St) = some (.normal,(⟨[(0,s),(3,(.slice (some ⟨(H.length + 2),0,none⟩) 8 8)),(4,(.slice (some ⟨H.length + 1,0,none⟩) 8 8)),(5,(.slice (some ⟨H.length,0,none⟩) 8 8)),(6,v),(7,.int .u32 ((c':Nat))),(32,.int .i64 8),(33,.int .i64 (8)),(34,.bool false)],H ++ [⟨Xq (nx),true,true,true,1⟩,⟨Xq orderW,true,true,true,1⟩,⟨Xq (r'),true,true,true,1⟩],[]⟩:St)) ∧ ShInv 8 c r r' c':=by
 obtain ⟨s',hb,r',c',rfl,hinv⟩:=Yv (T:=T) (base:=H.length) (id:=2) (body:=Mz)
  (fun k s1 => ∃ r' c',s1 = (⟨[(0,s),(3,(.slice (some ⟨(H.length + 2),0,none⟩) 8 8)),(4,(.slice (some ⟨H.length + 1,0,none⟩) 8 8)),(5,(.slice (some ⟨H.length,0,none⟩) 8 8)),(6,v),(7,.int .u32 ((c':Nat))),(32,.int .i64 8),(33,.int .i64 ((k:Nat)))],H ++ [⟨Xq (nx),true,true,true,1⟩,⟨Xq orderW,true,true,true,1⟩,⟨Xq (r'),true,true,true,1⟩],[]⟩:St) ∧ ShInv k c r r' c')
  (Q:=fun s1 => ∃ r' c',s1 = (⟨[(0,s),(3,(.slice (some ⟨(H.length + 2),0,none⟩) 8 8)),(4,(.slice (some ⟨H.length + 1,0,none⟩) 8 8)),(5,(.slice (some ⟨H.length,0,none⟩) 8 8)),(6,v),(7,.int .u32 ((c':Nat))),(32,.int .i64 8),(33,.int .i64 (8)),(34,.bool false)],H ++ [⟨Xq (nx),true,true,true,1⟩,⟨Xq orderW,true,true,true,1⟩,⟨Xq (r'),true,true,true,1⟩],[]⟩:St) ∧ ShInv 8 c r r' c')
  8 (s:=(⟨[(0,s),(3,(.slice (some ⟨(H.length + 2),0,none⟩) 8 8)),(4,(.slice (some ⟨H.length + 1,0,none⟩) 8 8)),(5,(.slice (some ⟨H.length,0,none⟩) 8 8)),(6,v),(7,.int .u32 ((c:Nat))),(32,.int .i64 8),(33,.int .i64 (((0:Nat):Int)))],H ++ [⟨Xq (nx),true,true,true,1⟩,⟨Xq orderW,true,true,true,1⟩,⟨Xq (r),true,true,true,1⟩],[]⟩:St)) ⟨_,_,rfl,⟨hl,hr,hc,by simp [num],fun _ _ => rfl⟩⟩
  (fun k s1 hk hs => by
   obtain ⟨r',c',rfl,hI⟩:=hs
   obtain ⟨x,hx⟩:∃ x,r'[k]? = some x:=⟨_,Qt (by rw [hI.len]; omega)⟩
   exact ⟨_,Qv1 hk hI.len hx (hI.lt x (Zs hx)) hI.cle,_,_,rfl,hI.step hx⟩)
  (fun s1 hs => by
   obtain ⟨r',c',rfl,hI⟩:=hs
   have h1:¬ (((8:Nat):Int) < (8:Int)):=by omega
   refine ⟨_,?_,r',c',rfl,hI⟩
   simp only [Mz,Jh,Kc,Kk,Ky,Jy,Kl,Ju,Kz,Kd,K7,guardOf,Zn,opd,Wh,Vu,Va,Env.get,Env.put,Yh,Ql,Q6,Zb,Jj,Vv,Ka,J5,St.after,Env.keep,if_true,if_false,ite_true,ite_false,Wa,Ya,unV,V7,Vb,packed,reduceCtorEq,Zy,Zz,Zp,Qi,Qd,Qh,Zm,Zr,Zw,beq_self_eq_true,Xm,Jv,Kg,Kf,Xx,Kv,X8,Xk,Kw,Ku,Xz,Vg,Ki,J3,Ks,Kx,X5,X0,Jp,Xw,Z5,Je,Jd,J1,Jn,Jz,Jm,Jc,J2,J0,Xd,Jo,Ke,Xf,Kh,Kt,Xe,Kj,Jw,Ob.fresh,Wi,Wt,Ws,Z0,and_self,true_and,and_true,Z4,X6,Vn,Yl,Vh,J4,Vy,J8,Xb,false_and,decide_true,decide_false,Ji,Qp,Qn,Qo,Qe,Qm,Qg,Y3,Xc,Yi,Xp,Xh,Xi,Zk,Zl,Bj,Bi,Bh,Bg,Zf,Kb,Jr,Xy,Xo,Vd,Jx,h1]
   rfl)
 exact ⟨r',c',hb,hinv⟩
theorem Qv5 {H:List Ob} {s v:Value} {r nx:List Nat} (hl:r.length = 8) (hr:∀ x ∈ r,x < 4294967296) (hl2:nx.length = 8) (hr2:∀ x ∈ nx,x < 4294967296) :
  ∃ nx' b,J9 T H.length (.block 4 (.loop M0)) (⟨[(0,s),(3,(.slice (some ⟨(H.length + 2),0,none⟩) 8 8)),(4,(.slice (some ⟨H.length + 1,0,none⟩) 8 8)),(5,(.slice (some ⟨H.length,0,none⟩) 8 8)),(6,v),(9,.int .u32 (0)),(53,.int .i64 8),(54,.int .i64 (0))],H ++ [⟨Xq (nx),true,true,true,1⟩,⟨Xq orderW,true,true,true,1⟩,⟨Xq (r),true,true,true,1⟩],[]⟩:St) = some (.normal,(⟨[(0,s),(3,(.slice (some ⟨(H.length + 2),0,none⟩) 8 8)),(4,(.slice (some ⟨H.length + 1,0,none⟩) 8 8)),(5,(.slice (some ⟨H.length,0,none⟩) 8 8)),(6,v),(9,.int .u32 ((b:Nat))),(53,.int .i64 8),(54,.int .i64 (8)),(55,.bool false)],H ++ [⟨Xq (nx'),true,true,true,1⟩,⟨Xq orderW,true,true,true,1⟩,⟨Xq (r),true,true,true,1⟩],[]⟩:St)) ∧ SbInv 8 r nx' b:=by
 obtain ⟨s',hb,nx',b,rfl,hinv⟩:=Yv (T:=T) (base:=H.length) (id:=4) (body:=M0)
  (fun k s1 => ∃ nx' b,s1 = (⟨[(0,s),(3,(.slice (some ⟨(H.length + 2),0,none⟩) 8 8)),(4,(.slice (some ⟨H.length + 1,0,none⟩) 8 8)),(5,(.slice (some ⟨H.length,0,none⟩) 8 8)),(6,v),(9,.int .u32 ((b:Nat))),(53,.int .i64 8),(54,.int .i64 ((k:Nat)))],H ++ [⟨Xq (nx'),true,true,true,1⟩,⟨Xq orderW,true,true,true,1⟩,⟨Xq (r),true,true,true,1⟩],[]⟩:St) ∧ SbInv k r nx' b)
  (Q:=fun s1 => ∃ nx' b,s1 = (⟨[(0,s),(3,(.slice (some ⟨(H.length + 2),0,none⟩) 8 8)),(4,(.slice (some ⟨H.length + 1,0,none⟩) 8 8)),(5,(.slice (some ⟨H.length,0,none⟩) 8 8)),(6,v),(9,.int .u32 ((b:Nat))),(53,.int .i64 8),(54,.int .i64 (8)),(55,.bool false)],H ++ [⟨Xq (nx'),true,true,true,1⟩,⟨Xq orderW,true,true,true,1⟩,⟨Xq (r),true,true,true,1⟩],[]⟩:St) ∧ SbInv 8 r nx' b)
  8 (s:=(⟨[(0,s),(3,(.slice (some ⟨(H.length + 2),0,none⟩) 8 8)),(4,(.slice (some ⟨H.length + 1,0,none⟩) 8 8)),(5,(.slice (some ⟨H.length,0,none⟩) 8 8)),(6,v),(9,.int .u32 (((0:Nat):Int))),(53,.int .i64 8),(54,.int .i64 (((0:Nat):Int)))],H ++ [⟨Xq (nx),true,true,true,1⟩,⟨Xq orderW,true,true,true,1⟩,⟨Xq (r),true,true,true,1⟩],[]⟩:St)) ⟨_,_,rfl,⟨hl2,hr2,by decide,by simp [num]⟩⟩
  (fun k s1 hk hs => by
   obtain ⟨nx',b,rfl,hI⟩:=hs
   obtain ⟨x,hx⟩:∃ x,r[k]? = some x:=⟨_,Qt (by omega)⟩
   obtain ⟨l,hlk⟩:∃ l,orderW[k]? = some l:=⟨_,Qt (show k < orderW.length from hk)⟩
   exact ⟨_,Qv7 hk hI.len hx (hr x (Zs hx)) hlk hI.ble,_,_,rfl,hI.step hr hk hx hlk⟩)
  (fun s1 hs => by
   obtain ⟨nx',b,rfl,hI⟩:=hs
   have h1:¬ (((8:Nat):Int) < (8:Int)):=by omega
   refine ⟨_,?_,nx',b,rfl,hI⟩
   simp only [M0,Jh,Kc,Kk,Ky,Jy,Kl,Ju,Kz,Kd,K7,guardOf,Zn,opd,Wh,Vu,Va,Env.get,Env.put,Yh,Ql,Q6,Zb,Jj,Vv,Ka,J5,St.after,Env.keep,if_true,if_false,ite_true,ite_false,Wa,Ya,unV,V7,Vb,packed,reduceCtorEq,Zy,Zz,Zp,Qi,Qd,Qh,Zm,Zr,Zw,beq_self_eq_true,Xm,Jv,Kg,Kf,Xx,Kv,X8,Xk,Kw,Ku,Xz,Vg,Ki,J3,Ks,Kx,X5,X0,Jp,Xw,Z5,Je,Jd,J1,Jn,Jz,Jm,Jc,J2,J0,Xd,Jo,Ke,Xf,Kh,Kt,Xe,Kj,Jw,Ob.fresh,Wi,Wt,Ws,Z0,and_self,true_and,and_true,Z4,X6,Vn,Yl,Vh,J4,Vy,J8,Xb,false_and,decide_true,decide_false,Ji,Qp,Qn,Qo,Qe,Qm,Qg,Y3,Xc,Yi,Xp,Xh,Xi,Zk,Zl,Bj,Bi,Bh,Bg,Zf,Kb,Jr,Xy,Xo,Vd,Jx,h1]
   rfl)
 exact ⟨nx',b,hb,hinv⟩
end Go.Ev.Ytpgphpkjlpkcbaa
set_option linter.unusedSimpArgs false
set_option linter.unusedVariables false
namespace Go.Ev.Ytpgphpkjlpkcbaa
open Go Go.Ev
attribute [local congr] Dy
set_option maxRecDepth 100000
structure RInv (V:Nat) (r nx:List Nat):Prop where
 len:r.length = 8
 lt:∀ x ∈ r,x < 4294967296
 len2:nx.length = 8
 lt2:∀ x ∈ nx,x < 4294967296
 eq:num 4294967296 r = V % ell
theorem Q17:2 * ell + 1 < 4294967296 ^ 8:=by decide
theorem Ql1:0 < ell:=by decide
theorem RInv.step {V c c' b:Nat} {r nx r' nx':List Nat} (h:RInv V r nx) (hc:c ≤ 1) (h1:ShInv 8 c r r' c') (h2:SbInv 8 r' nx' b):(b = 0 → RInv (2 * V + c) nx' r') ∧ (b ≠ 0 → RInv (2 * V + c) r' nx'):=by
 have e1:=h1.eq
 have e2:=h2.eq
 have l1:=h.len
 have l2:=h1.len
 have l3:=h2.len
 rw [Zh (by omega)] at e1
 rw [Zh (by omega),Zh (show orderW.length ≤ 8 from Zf _),Zh (by omega),Qr3] at e2
 have b1:=num_lt h1.lt
 have b2:=num_lt h2.lt
 rw [l2] at b1
 rw [l3] at b2
 have hp:=Q17
 have hr:num 4294967296 r < ell:=by rw [h.eq]; exact Js _ Ql1
 have hV:(2 * V + c) % ell = (2 * num 4294967296 r + c) % ell:=by
  rw [h.eq,Q7v,R5,Q7v (2 * (V % ell)),R5 2 (V % ell),Qcj]
 have hle:=h1.cle
 have hbe:=h2.ble
 generalize 4294967296 ^ 8 = W at *
 have hc0:c' = 0:=by
  rcases Yc 0 c' with hh | hh
  ·have:c' = 1:=by omega
   subst this
   omega
  ·omega
 subst hc0
 generalize num 4294967296 r = x at *
 generalize hyy:num 4294967296 r' = y at *
 generalize hz:num 4294967296 nx' = z at *
 have hy:y = 2 * x + c:=by omega
 subst hy
 refine ⟨fun h0 => ⟨l3,h2.lt,l2,h1.lt,?_⟩,fun h0 => ⟨l2,h1.lt,l3,h2.lt,?_⟩⟩
 ·subst h0
  rw [hV,show 2 * x + c = z + ell by omega,Nat.add_mod_right,Z2 (by omega)]
  exact hz
 ·have:b = 1:=by omega
  subst this
  have hlt:2 * x + c < ell:=by omega
  rw [hV,Z2 hlt]
  exact hyy
theorem Qp5 {H:List Ob} {id off n cap i w V:Nat} {ws r nx:List Nat} (hr:Row .u32 H id off ws) (hn:ws.length = n) (hN:n < 2 ^ 40) (hi:i < 32 * n) (hw:ws[i / 32]? = some w) (hw':w < 4294967296) (h:RInv V r nx) :
  ∃ r' nx',RInv (2 * V + w / 2 ^ (i % 32) % 2) r' nx' ∧ (J9 T H.length Hr (⟨[(0,(.slice (some ⟨id,off,none⟩) n cap)),(3,(.slice (some ⟨H.length,0,none⟩) 8 8)),(4,(.slice (some ⟨H.length + 1,0,none⟩) 8 8)),(5,(.slice (some ⟨(H.length + 2),0,none⟩) 8 8)),(6,.int .i64 ((i:Nat)))],H ++ [⟨Xq (r),true,true,true,1⟩,⟨Xq orderW,true,true,true,1⟩,⟨Xq (nx),true,true,true,1⟩],[]⟩:St) = some (.normal,(⟨[(0,(.slice (some ⟨id,off,none⟩) n cap)),(3,(.slice (some ⟨H.length,0,none⟩) 8 8)),(4,(.slice (some ⟨H.length + 1,0,none⟩) 8 8)),(5,(.slice (some ⟨(H.length + 2),0,none⟩) 8 8)),(6,.int .i64 ((i:Int) - 1))],H ++ [⟨Xq (r'),true,true,true,1⟩,⟨Xq orderW,true,true,true,1⟩,⟨Xq (nx'),true,true,true,1⟩],[]⟩:St)) ∨ J9 T H.length Hr (⟨[(0,(.slice (some ⟨id,off,none⟩) n cap)),(3,(.slice (some ⟨H.length,0,none⟩) 8 8)),(4,(.slice (some ⟨H.length + 1,0,none⟩) 8 8)),(5,(.slice (some ⟨(H.length + 2),0,none⟩) 8 8)),(6,.int .i64 ((i:Nat)))],H ++ [⟨Xq (r),true,true,true,1⟩,⟨Xq orderW,true,true,true,1⟩,⟨Xq (nx),true,true,true,1⟩],[]⟩:St) = some (.normal,(⟨[(0,(.slice (some ⟨id,off,none⟩) n cap)),(3,(.slice (some ⟨(H.length + 2),0,none⟩) 8 8)),(4,(.slice (some ⟨H.length + 1,0,none⟩) 8 8)),(5,(.slice (some ⟨H.length,0,none⟩) 8 8)),(6,.int .i64 ((i:Int) - 1))],H ++ [⟨Xq (nx'),true,true,true,1⟩,⟨Xq orderW,true,true,true,1⟩,⟨Xq (r'),true,true,true,1⟩],[]⟩:St))):=by
 have hc:w / 2 ^ (i % 32) % 2 ≤ 1:=by omega
 obtain ⟨r1,c1,hb1,i1⟩:=Qv0 (H:=H) (s:=(.slice (some ⟨id,off,none⟩) n cap)) (v := .int .i64 (i:Nat)) (nx:=nx) h.len h.lt hc
 obtain ⟨nx1,b,hb2,i2⟩:=Qv6 (H:=H) (s:=(.slice (some ⟨id,off,none⟩) n cap)) (v := .int .i64 (i:Nat)) (r:=r1) (nx:=nx) i1.len i1.lt h.len2 h.lt2
 obtain ⟨o,ho,hcell⟩:=hr
 have ho':=Ga (l:=[⟨Xq (r),true,true,true,1⟩,⟨Xq orderW,true,true,true,1⟩,⟨Xq (nx),true,true,true,1⟩]) ho
 have hwc:=hcell (i / 32) w hw
 have h1:((i:Int) ≥ 0):=by omega
 have h2:((i / 32:Nat):Int) < (n:Int):=by omega
 have h4:¬ (((i % 32:Nat):Int) < 0):=by omega
 have e1:IntKind.i64.wrap ((i:Int).tdiv 32) = ((i / 32:Nat):Int):=Yp (n:=i / 32) (by omega)
 have e2:((i:Int).tmod 32) = ((i % 32:Nat):Int):=rfl
 have e3:Qat (w:Int) (2 ^ min (i % 32) IntKind.u32.bits) = ((w / 2 ^ (i % 32):Nat):Int):=by
  rw [Vz (by show _ ≤ 32; omega),Wb _ (Q33 (Q7x (by decide)))]; simp
 have e4:Vf .and .u32 ((w / 2 ^ (i % 32):Nat):Int) 1 = ((w / 2 ^ (i % 32) % 2:Nat):Int):=by
  rw [show (1:Int) = ((1:Nat):Int) from rfl,Mx (k := .u32) (a:=w / 2 ^ (i % 32)) (b:=1) rfl (U3 (B6 _ _) hw') (by decide),Nat.and_one_is_mod]
 have e5:IntKind.i64.wrap ((i:Int) - 1) = (i:Int) - 1:=V6 (by omega) (by omega)
 have e8:((8:Nat):Int) = 8:=rfl
 have hst:=h.step hc i1 i2
 generalize w / 2 ^ (i % 32) % 2 = c at *
 by_cases hb0:b = 0
 ·subst hb0
  have e6:(((0:Nat):Int) == 0) = true:=rfl
  refine ⟨nx1,r1,hst.1 rfl,.inr ?_⟩
  simp only [Hr,Jh,Kc,Kk,Ky,Jy,Kl,Ju,Kz,Kd,K7,guardOf,Zn,opd,Wh,Vu,Va,Env.get,Env.put,Yh,Ql,Q6,Zb,Jj,Vv,Ka,J5,St.after,Env.keep,if_true,if_false,ite_true,ite_false,Wa,Ya,unV,V7,Vb,packed,reduceCtorEq,Zy,Zz,Zp,Qi,Qd,Qh,Zm,Zr,Zw,beq_self_eq_true,Xm,Jv,Kg,Kf,Xx,Kv,X8,Xk,Kw,Ku,Xz,Vg,Ki,J3,Ks,Kx,X5,X0,Jp,Xw,Z5,Je,Jd,J1,Jn,Jz,Jm,Jc,J2,J0,Xd,Jo,Ke,Xf,Kh,Kt,Xe,Kj,Jw,Ob.fresh,Wi,Wt,Ws,Z0,and_self,true_and,and_true,Z4,X6,Vn,Yl,Vh,J4,Vy,J8,Xb,false_and,decide_true,decide_false,Ji,Qp,Qn,Qo,Qe,Qm,Qg,Y3,Xc,Yi,Xp,Xh,Xi,Zk,Zl,Bj,Bi,Bh,Bg,Zf,Kb,Jr,Xy,Xo,Vd,Jx,h1,h2,h4,ho',hwc,e1,e2,e3,e4,e5,e6,e8,hb1,hb2]
 ·have hb1':b = 1:=by have:=i2.ble; omega
  subst hb1'
  have e6:(((1:Nat):Int) == 0) = false:=rfl
  refine ⟨r1,nx1,hst.2 (by decide),.inl ?_⟩
  simp only [Hr,Jh,Kc,Kk,Ky,Jy,Kl,Ju,Kz,Kd,K7,guardOf,Zn,opd,Wh,Vu,Va,Env.get,Env.put,Yh,Ql,Q6,Zb,Jj,Vv,Ka,J5,St.after,Env.keep,if_true,if_false,ite_true,ite_false,Wa,Ya,unV,V7,Vb,packed,reduceCtorEq,Zy,Zz,Zp,Qi,Qd,Qh,Zm,Zr,Zw,beq_self_eq_true,Xm,Jv,Kg,Kf,Xx,Kv,X8,Xk,Kw,Ku,Xz,Vg,Ki,J3,Ks,Kx,X5,X0,Jp,Xw,Z5,Je,Jd,J1,Jn,Jz,Jm,Jc,J2,J0,Xd,Jo,Ke,Xf,Kh,Kt,Xe,Kj,Jw,Ob.fresh,Wi,Wt,Ws,Z0,and_self,true_and,and_true,Z4,X6,Vn,Yl,Vh,J4,Vy,J8,Xb,false_and,decide_true,decide_false,Ji,Qp,Qn,Qo,Qe,Qm,Qg,Y3,Xc,Yi,Xp,Xh,Xi,Zk,Zl,Bj,Bi,Bh,Bg,Zf,Kb,Jr,Xy,Xo,Vd,Jx,h1,h2,h4,ho',hwc,e1,e2,e3,e4,e5,e6,e8,hb1,hb2]
theorem Qp4 {H:List Ob} {id off n cap i w V:Nat} {ws r nx:List Nat} (hr:Row .u32 H id off ws) (hn:ws.length = n) (hN:n < 2 ^ 40) (hi:i < 32 * n) (hw:ws[i / 32]? = some w) (hw':w < 4294967296) (h:RInv V r nx) :
  ∃ r' nx',RInv (2 * V + w / 2 ^ (i % 32) % 2) r' nx' ∧ (J9 T H.length Hr (⟨[(0,(.slice (some ⟨id,off,none⟩) n cap)),(3,(.slice (some ⟨(H.length + 2),0,none⟩) 8 8)),(4,(.slice (some ⟨H.length + 1,0,none⟩) 8 8)),(5,(.slice (some ⟨H.length,0,none⟩) 8 8)),(6,.int .i64 ((i:Nat)))],H ++ [⟨Xq (nx),true,true,true,1⟩,⟨Xq orderW,true,true,true,1⟩,⟨Xq (r),true,true,true,1⟩],[]⟩:St) = some (.normal,(⟨[(0,(.slice (some ⟨id,off,none⟩) n cap)),(3,(.slice (some ⟨(H.length + 2),0,none⟩) 8 8)),(4,(.slice (some ⟨H.length + 1,0,none⟩) 8 8)),(5,(.slice (some ⟨H.length,0,none⟩) 8 8)),(6,.int .i64 ((i:Int) - 1))],H ++ [⟨Xq (nx'),true,true,true,1⟩,⟨Xq orderW,true,true,true,1⟩,⟨Xq (r'),true,true,true,1⟩],[]⟩:St)) ∨ J9 T H.length Hr (⟨[(0,(.slice (some ⟨id,off,none⟩) n cap)),(3,(.slice (some ⟨(H.length + 2),0,none⟩) 8 8)),(4,(.slice (some ⟨H.length + 1,0,none⟩) 8 8)),(5,(.slice (some ⟨H.length,0,none⟩) 8 8)),(6,.int .i64 ((i:Nat)))],H ++ [⟨Xq (nx),true,true,true,1⟩,⟨Xq orderW,true,true,true,1⟩,⟨Xq (r),true,true,true,1⟩],[]⟩:St) = some (.normal,(⟨[(0,(.slice (some ⟨id,off,none⟩) n cap)),(3,(.slice (some ⟨H.length,0,none⟩) 8 8)),(4,(.slice (some ⟨H.length + 1,0,none⟩) 8 8)),(5,(.slice (some ⟨(H.length + 2),0,none⟩) 8 8)),(6,.int .i64 ((i:Int) - 1))],H ++ [⟨Xq (r'),true,true,true,1⟩,⟨Xq orderW,true,true,true,1⟩,⟨Xq (nx'),true,true,true,1⟩],[]⟩:St))):=by
 have hc:w / 2 ^ (i % 32) % 2 ≤ 1:=by omega
 obtain ⟨r1,c1,hb1,i1⟩:=Qvz (H:=H) (s:=(.slice (some ⟨id,off,none⟩) n cap)) (v := .int .i64 (i:Nat)) (nx:=nx) h.len h.lt hc
 obtain ⟨nx1,b,hb2,i2⟩:=Qv5 (H:=H) (s:=(.slice (some ⟨id,off,none⟩) n cap)) (v := .int .i64 (i:Nat)) (r:=r1) (nx:=nx) i1.len i1.lt h.len2 h.lt2
 obtain ⟨o,ho,hcell⟩:=hr
 have ho':=Ga (l:=[⟨Xq (nx),true,true,true,1⟩,⟨Xq orderW,true,true,true,1⟩,⟨Xq (r),true,true,true,1⟩]) ho
 have hwc:=hcell (i / 32) w hw
 have h1:((i:Int) ≥ 0):=by omega
 have h2:((i / 32:Nat):Int) < (n:Int):=by omega
 have h4:¬ (((i % 32:Nat):Int) < 0):=by omega
 have e1:IntKind.i64.wrap ((i:Int).tdiv 32) = ((i / 32:Nat):Int):=Yp (n:=i / 32) (by omega)
 have e2:((i:Int).tmod 32) = ((i % 32:Nat):Int):=rfl
 have e3:Qat (w:Int) (2 ^ min (i % 32) IntKind.u32.bits) = ((w / 2 ^ (i % 32):Nat):Int):=by
  rw [Vz (by show _ ≤ 32; omega),Wb _ (Q33 (Q7x (by decide)))]; simp
 have e4:Vf .and .u32 ((w / 2 ^ (i % 32):Nat):Int) 1 = ((w / 2 ^ (i % 32) % 2:Nat):Int):=by
  rw [show (1:Int) = ((1:Nat):Int) from rfl,Mx (k := .u32) (a:=w / 2 ^ (i % 32)) (b:=1) rfl (U3 (B6 _ _) hw') (by decide),Nat.and_one_is_mod]
 have e5:IntKind.i64.wrap ((i:Int) - 1) = (i:Int) - 1:=V6 (by omega) (by omega)
 have e8:((8:Nat):Int) = 8:=rfl
 have hst:=h.step hc i1 i2
 generalize w / 2 ^ (i % 32) % 2 = c at *
 by_cases hb0:b = 0
 ·subst hb0
  have e6:(((0:Nat):Int) == 0) = true:=rfl
  refine ⟨nx1,r1,hst.1 rfl,.inr ?_⟩
  simp only [Hr,Jh,Kc,Kk,Ky,Jy,Kl,Ju,Kz,Kd,K7,guardOf,Zn,opd,Wh,Vu,Va,Env.get,Env.put,Yh,Ql,Q6,Zb,Jj,Vv,Ka,J5,St.after,Env.keep,if_true,if_false,ite_true,ite_false,Wa,Ya,unV,V7,Vb,packed,reduceCtorEq,Zy,Zz,Zp,Qi,Qd,Qh,Zm,Zr,Zw,beq_self_eq_true,Xm,Jv,Kg,Kf,Xx,Kv,X8,Xk,Kw,Ku,Xz,Vg,Ki,J3,Ks,Kx,X5,X0,Jp,Xw,Z5,Je,Jd,J1,Jn,Jz,Jm,Jc,J2,J0,Xd,Jo,Ke,Xf,Kh,Kt,Xe,Kj,Jw,Ob.fresh,Wi,Wt,Ws,Z0,and_self,true_and,and_true,Z4,X6,Vn,Yl,Vh,J4,Vy,J8,Xb,false_and,decide_true,decide_false,Ji,Qp,Qn,Qo,Qe,Qm,Qg,Y3,Xc,Yi,Xp,Xh,Xi,Zk,Zl,Bj,Bi,Bh,Bg,Zf,Kb,Jr,Xy,Xo,Vd,Jx,h1,h2,h4,ho',hwc,e1,e2,e3,e4,e5,e6,e8,hb1,hb2]
 ·have hb1':b = 1:=by have:=i2.ble; omega
  subst hb1'
  have e6:(((1:Nat):Int) == 0) = false:=rfl
  refine ⟨r1,nx1,hst.2 (by decide),.inl ?_⟩
  simp only [Hr,Jh,Kc,Kk,Ky,Jy,Kl,Ju,Kz,Kd,K7,guardOf,Zn,opd,Wh,Vu,Va,Env.get,Env.put,Yh,Ql,Q6,Zb,Jj,Vv,Ka,J5,St.after,Env.keep,if_true,if_false,ite_true,ite_false,Wa,Ya,unV,V7,Vb,packed,reduceCtorEq,Zy,Zz,Zp,Qi,Qd,Qh,Zm,Zr,Zw,beq_self_eq_true,Xm,Jv,Kg,Kf,Xx,Kv,X8,Xk,Kw,Ku,Xz,Vg,Ki,J3,Ks,Kx,X5,X0,Jp,Xw,Z5,Je,Jd,J1,Jn,Jz,Jm,Jc,J2,J0,Xd,Jo,Ke,Xf,Kh,Kt,Xe,Kj,Jw,Ob.fresh,Wi,Wt,Ws,Z0,and_self,true_and,and_true,Z4,X6,Vn,Yl,Vh,J4,Vy,J8,Xb,false_and,decide_true,decide_false,Ji,Qp,Qn,Qo,Qe,Qm,Qg,Y3,Xc,Yi,Xp,Xh,Xi,Zk,Zl,Bj,Bi,Bh,Bg,Zf,Kb,Jr,Xy,Xo,Vd,Jx,h1,h2,h4,ho',hwc,e1,e2,e3,e4,e5,e6,e8,hb1,hb2]
def Qh5 (H:List Ob) (s:Value) (p:Bool) (v:Int) (r nx:List Nat):St:=match p with
 | false => (⟨[(0,s),(3,(.slice (some ⟨H.length,0,none⟩) 8 8)),(4,(.slice (some ⟨H.length + 1,0,none⟩) 8 8)),(5,(.slice (some ⟨(H.length + 2),0,none⟩) 8 8)),(6,.int .i64 (v))],H ++ [⟨Xq (r),true,true,true,1⟩,⟨Xq orderW,true,true,true,1⟩,⟨Xq (nx),true,true,true,1⟩],[]⟩:St)
 | true => (⟨[(0,s),(3,(.slice (some ⟨(H.length + 2),0,none⟩) 8 8)),(4,(.slice (some ⟨H.length + 1,0,none⟩) 8 8)),(5,(.slice (some ⟨H.length,0,none⟩) 8 8)),(6,.int .i64 (v))],H ++ [⟨Xq (nx),true,true,true,1⟩,⟨Xq orderW,true,true,true,1⟩,⟨Xq (r),true,true,true,1⟩],[]⟩:St)
def Qh6 (H:List Ob) (s:Value) (p:Bool) (r nx:List Nat):St:=match p with
 | false => (⟨[(0,s),(3,(.slice (some ⟨H.length,0,none⟩) 8 8)),(4,(.slice (some ⟨H.length + 1,0,none⟩) 8 8)),(5,(.slice (some ⟨(H.length + 2),0,none⟩) 8 8)),(6,.int .i64 (-1)),(19,.bool false)],H ++ [⟨Xq (r),true,true,true,1⟩,⟨Xq orderW,true,true,true,1⟩,⟨Xq (nx),true,true,true,1⟩],[]⟩:St)
 | true => (⟨[(0,s),(3,(.slice (some ⟨(H.length + 2),0,none⟩) 8 8)),(4,(.slice (some ⟨H.length + 1,0,none⟩) 8 8)),(5,(.slice (some ⟨H.length,0,none⟩) 8 8)),(6,.int .i64 (-1)),(19,.bool false)],H ++ [⟨Xq (nx),true,true,true,1⟩,⟨Xq orderW,true,true,true,1⟩,⟨Xq (r),true,true,true,1⟩],[]⟩:St)
theorem Qtn {H:List Ob} {id off n cap i w V:Nat} {ws r nx:List Nat} (p:Bool) (hr:Row .u32 H id off ws) (hn:ws.length = n) (hN:n < 2 ^ 40) (hi:i < 32 * n) (hw:ws[i / 32]? = some w) (hw':w < 4294967296) (h:RInv V r nx) :
  ∃ q r' nx',RInv (2 * V + w / 2 ^ (i % 32) % 2) r' nx' ∧ J9 T H.length Hr (Qh5 H (.slice (some ⟨id,off,none⟩) n cap) p (i:Nat) r nx) = some (.normal,Qh5 H (.slice (some ⟨id,off,none⟩) n cap) q ((i:Int) - 1) r' nx'):=by
 cases p with
 | false =>
  obtain ⟨r',nx',h1,h2⟩:=Qp5 (cap:=cap) hr hn hN hi hw hw' h
  rcases h2 with h2 | h2
  ·exact ⟨false,r',nx',h1,h2⟩
  ·exact ⟨true,r',nx',h1,h2⟩
 | true =>
  obtain ⟨r',nx',h1,h2⟩:=Qp4 (cap:=cap) hr hn hN hi hw hw' h
  rcases h2 with h2 | h2
  ·exact ⟨true,r',nx',h1,h2⟩
  ·exact ⟨false,r',nx',h1,h2⟩
theorem Q7n {ws:List Nat} {i w:Nat} (hws:∀ x ∈ ws,x < 4294967296) (hw:ws[i / 32]? = some w):2 * (num 4294967296 ws / 2 ^ (i + 1)) + w / 2 ^ (i % 32) % 2 = num 4294967296 ws / 2 ^ i:=by
 have h1:=Dn (B:=4294967296) (by decide) hws hw
 generalize num 4294967296 ws = v at *
 have h2:w / 2 ^ (i % 32) % 2 = v / 2 ^ i % 2:=by
  have e1:(4294967296:Nat) ^ (i / 32) = 2 ^ (32 * (i / 32)):=by rw [show (4294967296:Nat) = 2 ^ 32 from rfl,← Ys]
  rw [← h1,e1]
  have e2:(2:Nat) ^ i = 2 ^ (32 * (i / 32)) * 2 ^ (i % 32):=by rw [← Wl]; congr 1; omega
  rw [e2,← Ym]
  generalize v / 2 ^ (32 * (i / 32)) = u
  have e3:(4294967296:Nat) = 2 ^ (i % 32) * 2 ^ (32 - i % 32):=by rw [← Wl]; rw [show i % 32 + (32 - i % 32) = 32 by omega]
  rw [e3,Qaq,D0]
  exact ⟨2 ^ (31 - i % 32),by rw [← Qo3]; congr 1; omega⟩
 rw [h2,Vt,← Ym]
 omega
theorem Qp6 {H:List Ob} {id off n cap:Nat} {ws:List Nat} (hr:Row .u32 H id off ws) (hn:ws.length = n) (hn0:0 < n) (hN:n < 2 ^ 40) (hws:∀ x ∈ ws,x < 4294967296) :
  ∃ k l,Vx T 60 [.slice (some ⟨id,off,none⟩) n cap] H = some (.slice (some ⟨k,0,none⟩) 8 8,H ++ l,[]) ∧ Row .u32 (H ++ l) k 0 (dig 4294967296 8 (num 4294967296 ws % ell)):=by
 have h0:RInv (num 4294967296 ws / 2 ^ (32 * n)) (dig 4294967296 8 0) (dig 4294967296 8 0):=by
  refine ⟨Vj _ _ _,fun x hx => Gr (by decide) hx,Vj _ _ _,fun x hx => Gr (by decide) hx,?_⟩
  have h1:=num_lt hws
  rw [hn,show (4294967296:Nat) = 2 ^ 32 from rfl,← Ys] at h1
  rw [Uz (by decide),show (4294967296:Nat) = 2 ^ 32 from rfl,Ua h1]
  simp
 obtain ⟨s',hb,q,r,nx,rfl,hinv⟩:=Yv (T:=T) (base:=H.length) (id:=0) (body:=Hr)
  (fun j s => ∃ p r nx,s = Qh5 H (.slice (some ⟨id,off,none⟩) n cap) p (((32 * n - j:Nat):Int) - 1) r nx ∧ RInv (num 4294967296 ws / 2 ^ (32 * n - j)) r nx)
  (Q:=fun s => ∃ p r nx,s = Qh6 H (.slice (some ⟨id,off,none⟩) n cap) p r nx ∧ RInv (num 4294967296 ws) r nx)
  (32 * n) (s:=Qh5 H (.slice (some ⟨id,off,none⟩) n cap) false (((32 * n - 0:Nat):Int) - 1) (dig 4294967296 8 0) (dig 4294967296 8 0)) ⟨false,_,_,rfl,h0⟩
  (fun j s hj hs => by
   obtain ⟨p,r,nx,rfl,hI⟩:=hs
   obtain ⟨i,hi⟩:∃ i,32 * n - j = i + 1:=⟨32 * n - j - 1,by omega⟩
   obtain ⟨w,hw⟩:∃ w,ws[i / 32]? = some w:=⟨_,Qt (by omega)⟩
   rw [hi] at hI
   obtain ⟨q,r',nx',g1,g2⟩:=Qtn (cap:=cap) p hr hn hN (by omega) hw (hws w (Zs hw)) hI
   rw [Q7n hws hw] at g1
   refine ⟨_,?_,q,r',nx',rfl,by rw [show 32 * n - (j + 1) = i by omega]; exact g1⟩
   rw [hi,show 32 * n - (j + 1) = i by omega,show (((i + 1:Nat):Int) - 1) = (i:Nat) by omega]
   exact g2)
  (fun s hs => by
   obtain ⟨p,r,nx,rfl,hI⟩:=hs
   rw [Xa,W0,Ux] at hI
   refine ⟨_,?_,p,r,nx,rfl,hI⟩
   rw [Xa]
   have h1:¬ ((-1:Int) ≥ 0):=by decide
   cases p with
   | false =>
    rw [show Qh5 H (.slice (some ⟨id,off,none⟩) n cap) false (((0:Nat):Int) - 1) r nx = (⟨[(0,.slice (some ⟨id,off,none⟩) n cap),(3,(.slice (some ⟨H.length,0,none⟩) 8 8)),(4,(.slice (some ⟨H.length + 1,0,none⟩) 8 8)),(5,(.slice (some ⟨(H.length + 2),0,none⟩) 8 8)),(6,.int .i64 (-1))],H ++ [⟨Xq (r),true,true,true,1⟩,⟨Xq orderW,true,true,true,1⟩,⟨Xq (nx),true,true,true,1⟩],[]⟩:St) from rfl]
    simp only [Hr,Jh,Kc,Kk,Ky,Jy,Kl,Ju,Kz,Kd,K7,guardOf,Zn,opd,Wh,Vu,Va,Env.get,Env.put,Yh,Ql,Q6,Zb,Jj,Vv,Ka,J5,St.after,Env.keep,if_true,if_false,ite_true,ite_false,Wa,Ya,unV,V7,Vb,packed,reduceCtorEq,Zy,Zz,Zp,Qi,Qd,Qh,Zm,Zr,Zw,beq_self_eq_true,Xm,Jv,Kg,Kf,Xx,Kv,X8,Xk,Kw,Ku,Xz,Vg,Ki,J3,Ks,Kx,X5,X0,Jp,Xw,Z5,Je,Jd,J1,Jn,Jz,Jm,Jc,J2,J0,Xd,Jo,Ke,Xf,Kh,Kt,Xe,Kj,Jw,Ob.fresh,Wi,Wt,Ws,Z0,and_self,true_and,and_true,Z4,X6,Vn,Yl,Vh,J4,Vy,J8,Xb,false_and,decide_true,decide_false,Ji,Qp,Qn,Qo,Qe,Qm,Qg,Y3,Xc,Yi,Xp,Xh,Xi,Zk,Zl,Bj,Bi,Bh,Bg,Zf,Kb,Jr,Xy,Xo,Vd,Jx,h1,Qh6]
   | true =>
    rw [show Qh5 H (.slice (some ⟨id,off,none⟩) n cap) true (((0:Nat):Int) - 1) r nx = (⟨[(0,.slice (some ⟨id,off,none⟩) n cap),(3,(.slice (some ⟨(H.length + 2),0,none⟩) 8 8)),(4,(.slice (some ⟨H.length + 1,0,none⟩) 8 8)),(5,(.slice (some ⟨H.length,0,none⟩) 8 8)),(6,.int .i64 (-1))],H ++ [⟨Xq (nx),true,true,true,1⟩,⟨Xq orderW,true,true,true,1⟩,⟨Xq (r),true,true,true,1⟩],[]⟩:St) from rfl]
    simp only [Hr,Jh,Kc,Kk,Ky,Jy,Kl,Ju,Kz,Kd,K7,guardOf,Zn,opd,Wh,Vu,Va,Env.get,Env.put,Yh,Ql,Q6,Zb,Jj,Vv,Ka,J5,St.after,Env.keep,if_true,if_false,ite_true,ite_false,Wa,Ya,unV,V7,Vb,packed,reduceCtorEq,Zy,Zz,Zp,Qi,Qd,Qh,Zm,Zr,Zw,beq_self_eq_true,Xm,Jv,Kg,Kf,Xx,Kv,X8,Xk,Kw,Ku,Xz,Vg,Ki,J3,Ks,Kx,X5,X0,Jp,Xw,Z5,Je,Jd,J1,Jn,Jz,Jm,Jc,J2,J0,Xd,Jo,Ke,Xf,Kh,Kt,Xe,Kj,Jw,Ob.fresh,Wi,Wt,Ws,Z0,and_self,true_and,and_true,Z4,X6,Vn,Yl,Vh,J4,Vy,J8,Xb,false_and,decide_true,decide_false,Ji,Qp,Qn,Qo,Qe,Qm,Qg,Y3,Xc,Yi,Xp,Xh,Xi,Zk,Zl,Bj,Bi,Bh,Bg,Zf,Kb,Jr,Xy,Xo,Vd,Jx,h1,Qh6])
 obtain ⟨m,hm⟩:∃ m:Int,m = ((32 * n - 0:Nat):Int) - 1:=⟨_,rfl⟩
 rw [← hm,show Qh5 H (.slice (some ⟨id,off,none⟩) n cap) false m (dig 4294967296 8 0) (dig 4294967296 8 0) = (⟨[(0,.slice (some ⟨id,off,none⟩) n cap),(3,(.slice (some ⟨H.length,0,none⟩) 8 8)),(4,(.slice (some ⟨H.length + 1,0,none⟩) 8 8)),(5,(.slice (some ⟨(H.length + 2),0,none⟩) 8 8)),(6,.int .i64 (m))],H ++ [⟨Xq (dig 4294967296 8 0),true,true,true,1⟩,⟨Xq orderW,true,true,true,1⟩,⟨Xq (dig 4294967296 8 0),true,true,true,1⟩],[]⟩:St) from rfl] at hb
 have e1:IntKind.i64.wrap (IntKind.i64.wrap (32 * (n:Int)) - 1) = m:=by rw [V6 (x:=32 * (n:Int)) (by omega) (by omega),V6 (by omega) (by omega)]; omega
 have h1:((8:Int) * ((4:Nat):Int) ≤ 2 ^ 47):=by decide
 have h2:(0:Nat) < 4:=by decide
 have h3:((0:Int) ≤ 8):=by decide
 have hz:Qa 8 (Value.int .u32 0) = Xq (dig 4294967296 8 0):=rfl
 have horder:=Qhz (H ++ [⟨Xq (dig 4294967296 8 0),true,true,true,1⟩])
 simp only [Zc,Zr,Zw,Zm,Z1,Zb,Q6,Ob.fresh] at horder
 have hdig:r = dig 4294967296 8 (num 4294967296 ws % ell):=by rw [← hinv.eq,← hinv.len,Qad (by decide) hinv.lt]
 cases q with
 | false =>
  refine ⟨H.length,[⟨Xq r,true,true,true,1⟩,⟨Xq orderW,true,true,true,1⟩,⟨Xq nx,true,true,true,1⟩],?_,?_⟩
  ·rw [Jg (fn:=a41) rfl]
   simp only [a41,Jh,Kc,Kk,Ky,Jy,Kl,Ju,Kz,Kd,K7,guardOf,Zn,opd,Wh,Vu,Va,Env.get,Env.put,Yh,Ql,Q6,Zb,Jj,Vv,Ka,J5,St.after,Env.keep,if_true,if_false,ite_true,ite_false,Wa,Ya,unV,V7,Vb,packed,reduceCtorEq,Zy,Zz,Zp,Qi,Qd,Qh,Zm,Zr,Zw,beq_self_eq_true,Xm,Jv,Kg,Kf,Xx,Kv,X8,Xk,Kw,Ku,Xz,Vg,Ki,J3,Ks,Kx,X5,X0,Jp,Xw,Z5,Je,Jd,J1,Jn,Jz,Jm,Jc,J2,J0,Xd,Jo,Ke,Xf,Kh,Kt,Xe,Kj,Jw,Ob.fresh,Wi,Wt,Ws,Z0,and_self,true_and,and_true,Z4,X6,Vn,Yl,Vh,J4,Vy,J8,Xb,false_and,decide_true,decide_false,Ji,Qp,Qn,Qo,Qe,Qm,Qg,Y3,Xc,Yi,Xp,Xh,Xi,Zk,Zl,Bj,Bi,Bh,Bg,Zf,Kb,Jr,Xy,Xo,Vd,Jx,e1,h1,h2,h3,Kb,To,hz,horder,Zc,Z1,hb,Qh6]
  ·exact ⟨_,Wi,fun i x hx => by rw [Zm]; exact Be (by rw [hdig]; exact hx)⟩
 | true =>
  refine ⟨H.length + 2,[⟨Xq nx,true,true,true,1⟩,⟨Xq orderW,true,true,true,1⟩,⟨Xq r,true,true,true,1⟩],?_,?_⟩
  ·rw [Jg (fn:=a41) rfl]
   simp only [a41,Jh,Kc,Kk,Ky,Jy,Kl,Ju,Kz,Kd,K7,guardOf,Zn,opd,Wh,Vu,Va,Env.get,Env.put,Yh,Ql,Q6,Zb,Jj,Vv,Ka,J5,St.after,Env.keep,if_true,if_false,ite_true,ite_false,Wa,Ya,unV,V7,Vb,packed,reduceCtorEq,Zy,Zz,Zp,Qi,Qd,Qh,Zm,Zr,Zw,beq_self_eq_true,Xm,Jv,Kg,Kf,Xx,Kv,X8,Xk,Kw,Ku,Xz,Vg,Ki,J3,Ks,Kx,X5,X0,Jp,Xw,Z5,Je,Jd,J1,Jn,Jz,Jm,Jc,J2,J0,Xd,Jo,Ke,Xf,Kh,Kt,Xe,Kj,Jw,Ob.fresh,Wi,Wt,Ws,Z0,and_self,true_and,and_true,Z4,X6,Vn,Yl,Vh,J4,Vy,J8,Xb,false_and,decide_true,decide_false,Ji,Qp,Qn,Qo,Qe,Qm,Qg,Y3,Xc,Yi,Xp,Xh,Xi,Zk,Zl,Bj,Bi,Bh,Bg,Zf,Kb,Jr,Xy,Xo,Vd,Jx,e1,h1,h2,h3,Kb,To,hz,horder,Zc,Z1,hb,Qh6]
  ·exact ⟨_,Ws,fun i x hx => by rw [Zm]; exact Be (by rw [hdig]; exact hx)⟩
theorem T2 {cs v:List Value} (h:v.length = cs.length):splice cs 0 v = v:=by
 rw [B8 _ _ _ (by omega),Za,Q6,Zm,h,List.drop_length,Xj]
theorem Q2b {v w i:Nat} (hw:v / 4294967296 ^ (i / 4) % 4294967296 = w):w / 2 ^ (8 * (i % 4)) % 256 = v / 256 ^ i % 256:=by
 subst hw
 have e1:(4294967296:Nat) ^ (i / 4) = 2 ^ (32 * (i / 4)):=by rw [show (4294967296:Nat) = 2 ^ 32 from rfl,← Ys]
 have e2:(256:Nat) ^ i = 2 ^ (32 * (i / 4)) * 2 ^ (8 * (i % 4)):=by
  rw [show (256:Nat) = 2 ^ 8 from rfl,← Ys,← Wl]; congr 1; omega
 rw [e1,e2,← Ym]
 generalize v / 2 ^ (32 * (i / 4)) = u
 have e3:(4294967296:Nat) = 2 ^ (8 * (i % 4)) * 2 ^ (32 - 8 * (i % 4)):=by rw [← Wl]; rw [show 8 * (i % 4) + (32 - 8 * (i % 4)) = 32 by omega]
 rw [e3,Qaq,D0]
 exact ⟨2 ^ (24 - 8 * (i % 4)),by rw [show (256:Nat) = 2 ^ 8 from rfl,← Wl]; congr 1; omega⟩
def byI (H:List Ob) (s:Value) (i:Int) (k:List Nat) (ex:Env):St :=
 ⟨[(0,s),(2,.pointer (some ⟨H.length,0,none⟩)),(3,.pointer (some ⟨H.length + 1,0,none⟩)),(5,.int .i64 i)] ++ ex,H ++ [⟨u8s (dig 256 32 0),true,true,true,1⟩,⟨u8s k,true,true,true,1⟩],[]⟩
theorem Q2c {H:List Ob} {id off cap i w:Nat} {ws k:List Nat} (hr:Row .u32 H id off ws) (hn:ws.length = 8) (hi:i < 32) (hw:ws[i / 4]? = some w) (hl:k.length = 32) :
  J9 T H.length Qi1 (byI H (.slice (some ⟨id,off,none⟩) 8 cap) (i:Nat) k []) = some (.normal,byI H (.slice (some ⟨id,off,none⟩) 8 cap) ((i + 1:Nat):Int) (k.set i (w / 2 ^ (8 * (i % 4)) % 256)) []):=by
 obtain ⟨o,ho,hcell⟩:=hr
 have ho':=Ga (l:=[⟨u8s (dig 256 32 0),true,true,true,1⟩,⟨u8s k,true,true,true,1⟩]) ho
 have hwc:=hcell (i / 4) w hw
 have h1:((i:Int) < 32):=by omega
 have h1':((i:Int) < ((32:Nat):Int)):=by omega
 have h2:((i / 4:Nat):Int) < ((8:Nat):Int):=by omega
 have h2':((i / 4:Nat):Int) < (8:Int):=by omega
 have h4:¬ (((8 * (i % 4):Nat):Int) < 0):=by omega
 have e1:IntKind.i64.wrap ((i:Int).tdiv 4) = ((i / 4:Nat):Int):=Yp (n:=i / 4) (by omega)
 have e2:((i:Int).tmod 4) = ((i % 4:Nat):Int):=rfl
 have e3:IntKind.i64.wrap (8 * ((i % 4:Nat):Int)) = ((8 * (i % 4):Nat):Int):=Yp (n:=8 * (i % 4)) (by omega)
 have e4:Qat (w:Int) (2 ^ min (8 * (i % 4)) IntKind.u32.bits) = ((w / 2 ^ (8 * (i % 4)):Nat):Int):=by
  rw [Vz (by show _ ≤ 32; omega),Wb _ (Q33 (Q7x (by decide)))]; simp
 have e5:IntKind.u8.wrap ((w / 2 ^ (8 * (i % 4)):Nat):Int) = ((w / 2 ^ (8 * (i % 4)) % 256:Nat):Int):=by rw [wrap_u8]; rfl
 have e6:IntKind.i64.wrap ((i:Int) + 1) = ((i + 1:Nat):Int):=Yp (n:=i + 1) (by omega)
 have h5:i + 1 ≤ (u8s k).length:=by rw [Zt,hl]; omega
 simp only [byI,Qi1,Jh,Kc,Kk,Ky,Jy,Kl,Ju,Kz,Kd,K7,guardOf,Zn,opd,Wh,Vu,Va,Env.get,Env.put,Yh,Ql,Q6,Zb,Jj,Vv,Ka,J5,St.after,Env.keep,if_true,if_false,ite_true,ite_false,Wa,Ya,unV,V7,Vb,packed,reduceCtorEq,Zy,Zz,Zp,Qi,Qd,Qh,Zm,Zr,Zw,beq_self_eq_true,Xm,Jv,Kg,Kf,Xx,Kv,X8,Xk,Kw,Ku,Xz,Vg,Ki,J3,Ks,Kx,X5,X0,Jp,Xw,Z5,Je,Jd,J1,Jn,Jz,Jm,Jc,J2,J0,Xd,Jo,Ke,Xf,Kh,Kt,Xe,Kj,Jw,Ob.fresh,Wi,Wt,Ws,Z0,and_self,true_and,and_true,Z4,X6,Vn,Yl,Vh,J4,Vy,J8,Xb,false_and,decide_true,decide_false,Ji,Qp,Qn,Qo,Qe,Qm,Qg,Y3,Xc,Yi,Xp,Xh,Xi,Zk,Zl,Bj,Bi,Bh,Bg,Zf,Kb,Jr,Xy,Xo,Vd,Jx,h1,h1',h2,h2',h4,ho',hwc,e1,e2,e3,e4,e5,e6,h5,Qmq,Gt]
theorem Qd3 {H:List Ob} {id off cap v:Nat} (hr:Row .u32 H id off (dig 4294967296 8 v)) :
  ∃ l,Vx T 61 [.slice (some ⟨id,off,none⟩) 8 cap] H = some (.agg (u8s (dig 256 32 v)).toArray,H ++ l,[]):=by
 obtain ⟨s',hb,k,rfl,hlen,hk⟩:=Yv (T:=T) (base:=H.length) (id:=0) (body:=Qi1)
  (fun i s => ∃ k,s = byI H (.slice (some ⟨id,off,none⟩) 8 cap) (i:Nat) k [] ∧ k.length = 32 ∧ ∀ t,t < i → k[t]? = some (v / 256 ^ t % 256))
  (Q:=fun s => ∃ k,s = byI H (.slice (some ⟨id,off,none⟩) 8 cap) 32 k [(6,.bool false)] ∧ k.length = 32 ∧ ∀ t,t < 32 → k[t]? = some (v / 256 ^ t % 256))
  32 (s:=byI H (.slice (some ⟨id,off,none⟩) 8 cap) ((0:Nat):Int) (dig 256 32 0) []) ⟨_,rfl,Vj _ _ _,fun t ht => by omega⟩
  (fun i s hi hs => by
   obtain ⟨k,rfl,hl,hk⟩:=hs
   refine ⟨_,Q2c hr (Vj _ _ _) hi (Dc (by omega)) hl,_,rfl,by rw [Jt]; exact hl,fun t ht => ?_⟩
   by_cases h:t = i
   ·subst h
    rw [Jq (by omega),Q2b rfl]
   ·rw [Z3 (by omega)]
    exact hk t (by omega))
  (fun s hs => by
   obtain ⟨k,rfl,hl,hk⟩:=hs
   have h1:¬ (((32:Nat):Int) < (32:Int)):=by omega
   refine ⟨_,?_,k,rfl,hl,hk⟩
   simp only [byI,Qi1,Jh,Kc,Kk,Ky,Jy,Kl,Ju,Kz,Kd,K7,guardOf,Zn,opd,Wh,Vu,Va,Env.get,Env.put,Yh,Ql,Q6,Zb,Jj,Vv,Ka,J5,St.after,Env.keep,if_true,if_false,ite_true,ite_false,Wa,Ya,unV,V7,Vb,packed,reduceCtorEq,Zy,Zz,Zp,Qi,Qd,Qh,Zm,Zr,Zw,beq_self_eq_true,Xm,Jv,Kg,Kf,Xx,Kv,X8,Xk,Kw,Ku,Xz,Vg,Ki,J3,Ks,Kx,X5,X0,Jp,Xw,Z5,Je,Jd,J1,Jn,Jz,Jm,Jc,J2,J0,Xd,Jo,Ke,Xf,Kh,Kt,Xe,Kj,Jw,Ob.fresh,Wi,Wt,Ws,Z0,and_self,true_and,and_true,Z4,X6,Vn,Yl,Vh,J4,Vy,J8,Xb,false_and,decide_true,decide_false,Ji,Qp,Qn,Qo,Qe,Qm,Qg,Y3,Xc,Yi,Xp,Xh,Xi,Zk,Zl,Bj,Bi,Bh,Bg,Zf,Kb,Jr,Xy,Xo,Vd,Jx,h1]
   rfl)
 have hkk:k = dig 256 32 v:=Qb9 hlen fun i hi => hk i hi
 subst hkk
 have hz:Qa 32 (Value.int .u8 0) = u8s (dig 256 32 0):=rfl
 have h1:0 + 32 ≤ (u8s (dig 256 32 v)).length:=by rw [Zt,Vj]; omega
 have h1':32 ≤ (u8s (dig 256 32 v)).length:=by rw [Zt,Vj]; omega
 have h2:((u8s (dig 256 32 v)).drop 0).take 32 = u8s (dig 256 32 v):=by rw [Q5,Zh (by rw [Zt,Vj]; omega)]
 have h3:(u8s (dig 256 32 v)).length = 32:=by rw [Zt,Vj]
 have h4:0 + (u8s (dig 256 32 v)).length ≤ (u8s (dig 256 32 0)).length:=by rw [Zt,Zt,Vj,Vj]; omega
 have h5:splice (u8s (dig 256 32 0)) 0 (u8s (dig 256 32 v)) = u8s (dig 256 32 v):=T2 (by rw [Zt,Zt,Vj,Vj])
 have h6:=B0 (H:=H) (r:=[⟨u8s (dig 256 32 v),true,true,true,1⟩]) (e:=true) (s:=1) h4
 rw [h5] at h6
 refine ⟨[⟨u8s (dig 256 32 v),true,true,true,1⟩,⟨u8s (dig 256 32 v),true,true,true,1⟩],?_⟩
 rw [show byI H (.slice (some ⟨id,off,none⟩) 8 cap) ((0:Nat):Int) (dig 256 32 0) [] = ⟨[(0,.slice (some ⟨id,off,none⟩) 8 cap),(2,.pointer (some ⟨H.length,0,none⟩)),(3,.pointer (some ⟨H.length + 1,0,none⟩)),(5,.int .i64 0)],H ++ [⟨u8s (dig 256 32 0),true,true,true,1⟩,⟨u8s (dig 256 32 0),true,true,true,1⟩],[]⟩ from rfl] at hb
 rw [Jg (fn:=a42) rfl]
 simp only [a42,Jh,Kc,Kk,Ky,Jy,Kl,Ju,Kz,Kd,K7,guardOf,Zn,opd,Wh,Vu,Va,Env.get,Env.put,Yh,Ql,Q6,Zb,Jj,Vv,Ka,J5,St.after,Env.keep,if_true,if_false,ite_true,ite_false,Wa,Ya,unV,V7,Vb,packed,reduceCtorEq,Zy,Zz,Zp,Qi,Qd,Qh,Zm,Zr,Zw,beq_self_eq_true,Xm,Jv,Kg,Kf,Xx,Kv,X8,Xk,Kw,Ku,Xz,Vg,Ki,J3,Ks,Kx,X5,X0,Jp,Xw,Z5,Je,Jd,J1,Jn,Jz,Jm,Jc,J2,J0,Xd,Jo,Ke,Xf,Kh,Kt,Xe,Kj,Jw,Ob.fresh,Wi,Wt,Ws,Z0,and_self,true_and,and_true,Z4,X6,Vn,Yl,Vh,J4,Vy,J8,Xb,false_and,decide_true,decide_false,Ji,Qp,Qn,Qo,Qe,Qm,Qg,Y3,Xc,Yi,Xp,Xh,Xi,Zk,Zl,Bj,Bi,Bh,Bg,Zf,Kb,Jr,Xy,Xo,Vd,Jx,hz,hb,byI,h1,h1',h2,Vd,Jx,h3,h6,Zc,Z1]
theorem Ri {H:List Ob} {ws:List Nat}:Row .u32 (H ++ [Ob.fresh (Xq ws)]) H.length 0 ws:=⟨_,Wi,fun i x hx => by rw [Zm]; exact Be hx⟩
theorem Qwb {H:List Ob} {ws:List Nat} {o:Ob}:Row .u32 (H ++ [⟨Xq ws,true,true,true,1⟩,o]) H.length 0 ws:=⟨_,Wi,fun i x hx => by rw [Zm]; exact Be hx⟩
def Qtt (l:List Nat):Value := .agg (u8s l).toArray
theorem Q4i:Y5 32 32 none none none = some (0,32,32):=rfl
theorem Rt {n v:Nat}:∀ x ∈ dig 4294967296 n v,x < 4294967296:=fun x hx => Gr (by decide) hx
theorem Qgr {l:List Nat} (hl:l.length = 32) (h:∀ x ∈ l,x < 256):num 256 l < 4294967296 ^ 8:=by
 have:=num_lt h
 rw [hl] at this
 rw [show (4294967296:Nat) ^ 8 = 256 ^ 32 from by decide]; exact this
theorem Qp3 {H:List Ob} {a b c:List Nat} (ha:Row .u8 H 0 0 a) (hb:Row .u8 H 1 0 b) (hc:Row .u8 H 2 0 c) (la:a.length = 32) (lb:b.length = 32) (lc:c.length = 32)
    (xa:∀ x ∈ a,x < 256) (xb:∀ x ∈ b,x < 256) (xc:∀ x ∈ c,x < 256) :
    ∃ k l l2,Vx T 57 [.slice (some ⟨0,0,none⟩) 32 32] H = some (.slice (some ⟨H.length,0,none⟩) 8 8,H ++ [Ob.fresh (Xq (dig 4294967296 8 (num 256 a)))],[]) ∧
      (let H5:=H ++ [Ob.fresh (Xq (dig 4294967296 8 (num 256 a)))]
       let H6:=H5 ++ [Ob.fresh (Xq (dig 4294967296 8 (num 256 b)))]
       let H7:=H6 ++ [Ob.fresh (Xq (dig 4294967296 16 (num 256 a * num 256 b)))]
       let H8:=H7 ++ [Ob.fresh (Xq (dig 4294967296 8 (num 256 c)))]
       let H10:=H8 ++ [⟨Xq (dig 4294967296 17 (num 256 a * num 256 b + num 256 c)),true,true,true,1⟩,⟨[.int .u32 0],true,true,true,1⟩]
       Vx T 57 [.slice (some ⟨1,0,none⟩) 32 32] H5 = some (.slice (some ⟨H5.length,0,none⟩) 8 8,H6,[]) ∧
       Vx T 58 [.slice (some ⟨H.length,0,none⟩) 8 8,.slice (some ⟨H5.length,0,none⟩) 8 8] H6 = some (.slice (some ⟨H6.length,0,none⟩) 16 16,H7,[]) ∧
       Vx T 57 [.slice (some ⟨2,0,none⟩) 32 32] H7 = some (.slice (some ⟨H7.length,0,none⟩) 8 8,H8,[]) ∧
       Vx T 59 [.slice (some ⟨H6.length,0,none⟩) 16 16,.slice (some ⟨H7.length,0,none⟩) 8 8] H8 = some (.slice (some ⟨H8.length,0,none⟩) 17 17,H10,[]) ∧
       Vx T 60 [.slice (some ⟨H8.length,0,none⟩) 17 17] H10 = some (.slice (some ⟨k,0,none⟩) 8 8,H10 ++ l,[]) ∧
       Vx T 61 [.slice (some ⟨k,0,none⟩) 8 8] (H10 ++ l) = some (Qtt (dig 256 32 ((num 256 a * num 256 b + num 256 c) % ell)),H10 ++ l ++ l2,[])):=by
  have na:=Qgr la xa
  have nb:=Qgr lb xb
  have nc:=Qgr lc xc
  have h1:=Qkc (c:=32) ha la (by decide) xa
  have h2:=Qkc (c:=32) (hb.app (l:=[Ob.fresh (Xq (dig 4294967296 8 (num 256 a)))])) lb (by decide) xb
  have r1:=(Ri (H:=H) (ws:=dig 4294967296 8 (num 256 a))).app (l:=[Ob.fresh (Xq (dig 4294967296 8 (num 256 b)))])
  have r2:=Ri (H:=H ++ [Ob.fresh (Xq (dig 4294967296 8 (num 256 a)))]) (ws:=dig 4294967296 8 (num 256 b))
  have h3:=Qvp (c1:=8) (c2:=8) r1 r2 (Vj _ _ _) (Vj _ _ _) (by decide) Rt Rt
  rw [Uz (by decide),Uz (by decide),Z2 na,Z2 nb] at h3
  have h4:=Qkc (c:=32) (((hc.app (l:=[Ob.fresh (Xq (dig 4294967296 8 (num 256 a)))])).app (l:=[Ob.fresh (Xq (dig 4294967296 8 (num 256 b)))])).app (l:=[Ob.fresh (Xq (dig 4294967296 16 (num 256 a * num 256 b)))])) lc (by decide) xc
  have r3:=(Ri (H:=H ++ [Ob.fresh (Xq (dig 4294967296 8 (num 256 a)))] ++ [Ob.fresh (Xq (dig 4294967296 8 (num 256 b)))]) (ws:=dig 4294967296 16 (num 256 a * num 256 b))).app (l:=[Ob.fresh (Xq (dig 4294967296 8 (num 256 c)))])
  have r4:=Ri (H:=H ++ [Ob.fresh (Xq (dig 4294967296 8 (num 256 a)))] ++ [Ob.fresh (Xq (dig 4294967296 8 (num 256 b)))] ++ [Ob.fresh (Xq (dig 4294967296 16 (num 256 a * num 256 b)))]) (ws:=dig 4294967296 8 (num 256 c))
  have h5:=Q0e (c1:=16) (c2:=8) r3 r4 (Vj _ _ _) (Vj _ _ _) (by decide) (by decide) (by decide) Rt Rt
  have nab:num 256 a * num 256 b < 4294967296 ^ 16:=by
    rw [show (4294967296:Nat) ^ 16 = 4294967296 ^ 8 * 4294967296 ^ 8 from by decide]
    exact Nat.mul_lt_mul'' na nb
  rw [Uz (by decide),Uz (by decide),Z2 nab,Z2 nc] at h5
  have r5:=Qwb (H:=H ++ [Ob.fresh (Xq (dig 4294967296 8 (num 256 a)))] ++ [Ob.fresh (Xq (dig 4294967296 8 (num 256 b)))] ++ [Ob.fresh (Xq (dig 4294967296 16 (num 256 a * num 256 b)))] ++ [Ob.fresh (Xq (dig 4294967296 8 (num 256 c)))]) (ws:=dig 4294967296 17 (num 256 a * num 256 b + num 256 c)) (o:=⟨[.int .u32 0],true,true,true,1⟩)
  obtain ⟨k,l,h6,r6⟩:=Qp6 (cap:=17) r5 (Vj _ _ _) (by decide) (by decide) Rt
  have nabc:num 256 a * num 256 b + num 256 c < 4294967296 ^ 17:=by
    have:(4294967296:Nat) ^ 16 + 4294967296 ^ 8 ≤ 4294967296 ^ 17:=by decide
    omega
  rw [Uz (by decide),Z2 nabc] at r6
  obtain ⟨l2,h7⟩:=Qd3 (cap:=8) r6
  exact ⟨k,l,l2,h1,h2,h3,h4,h5,h6,h7⟩
theorem Qtm {a b c:List Nat} (la:a.length = 32) (lb:b.length = 32) (lc:c.length = 32) (xa:∀ x ∈ a,x < 256) (xb:∀ x ∈ b,x < 256) (xc:∀ x ∈ c,x < 256) :
  ∃ l,Vx T 31 [Qtt a,Qtt b,Qtt c] [] = some (Qtt (dig 256 32 ((num 256 a * num 256 b + num 256 c) % ell)),l,[]):=by
 have hz:Qa 32 (Value.int .u8 0) = u8s (dig 256 32 0):=rfl
 obtain ⟨H,hH⟩:∃ H:List Ob,H = [⟨u8s a,true,true,true,1⟩,⟨u8s b,true,true,true,1⟩,⟨u8s c,true,true,true,1⟩,⟨u8s (dig 256 32 0),true,true,true,1⟩]:=⟨_,rfl⟩
 have ra:Row .u8 H 0 0 a:=by subst hH; exact ⟨_,rfl,fun i x hx => by rw [Zm]; exact Uh hx⟩
 have rb:Row .u8 H 1 0 b:=by subst hH; exact ⟨_,rfl,fun i x hx => by rw [Zm]; exact Uh hx⟩
 have rc:Row .u8 H 2 0 c:=by subst hH; exact ⟨_,rfl,fun i x hx => by rw [Zm]; exact Uh hx⟩
 obtain ⟨k,l,l2,h1,h2,h3,h4,h5,h6,h7⟩:=Qp3 ra rb rc la lb lc xa xb xc
 generalize hR:dig 256 32 ((num 256 a * num 256 b + num 256 c) % ell) = R at *
 have lR:(u8s R).length = 32:=by rw [Zt,← hR,Vj]
 generalize hH5:H ++ [Ob.fresh (Xq (dig 4294967296 8 (num 256 a)))] = H5 at h1 h2 h3 h4 h5 h6 h7
 generalize hH6:H5 ++ [Ob.fresh (Xq (dig 4294967296 8 (num 256 b)))] = H6 at h2 h3 h4 h5 h6 h7
 generalize hH7:H6 ++ [Ob.fresh (Xq (dig 4294967296 16 (num 256 a * num 256 b)))] = H7 at h3 h4 h5 h6 h7
 generalize hH8:H7 ++ [Ob.fresh (Xq (dig 4294967296 8 (num 256 c)))] = H8 at h4 h5 h6 h7
 generalize hH10:H8 ++ [⟨Xq (dig 4294967296 17 (num 256 a * num 256 b + num 256 c)),true,true,true,1⟩,⟨[.int .u32 0],true,true,true,1⟩] = H10 at h5 h6 h7
 generalize hH11:H10 ++ l = H11 at h6 h7
 generalize hG:H11 ++ l2 = G at h7
 obtain ⟨t,hGt⟩:∃ t,G = ⟨u8s a,true,true,true,1⟩ :: ⟨u8s b,true,true,true,1⟩ :: ⟨u8s c,true,true,true,1⟩ :: ⟨u8s (dig 256 32 0),true,true,true,1⟩ :: t:=by
  rw [← hG,← hH11,← hH10,← hH8,← hH7,← hH6,← hH5,hH]; exact ⟨_,rfl⟩
 have hst:storeAt G ⟨3,0,none⟩ (u8s R) = some (⟨u8s a,true,true,true,1⟩ :: ⟨u8s b,true,true,true,1⟩ :: ⟨u8s c,true,true,true,1⟩ :: ⟨u8s R,true,true,true,1⟩ :: t):=by
  rw [hGt]
  have h8:=B0 (H:=[⟨u8s a,true,true,true,1⟩,⟨u8s b,true,true,true,1⟩,⟨u8s c,true,true,true,1⟩]) (r:=t) (cs:=u8s (dig 256 32 0)) (e:=true) (s:=1) (off:=0) (v:=u8s R) (by rw [lR,Zt,Vj]; omega)
  rw [T2 (by rw [lR,Zt,Vj])] at h8
  exact h8
 have hlv:liveAt (⟨u8s a,true,true,true,1⟩ :: ⟨u8s b,true,true,true,1⟩ :: ⟨u8s c,true,true,true,1⟩ :: ⟨u8s R,true,true,true,1⟩ :: t) 3 = some ⟨u8s R,true,true,true,1⟩:=rfl
 have h9:((u8s R).drop 0).take 32 = u8s R:=by rw [Q5,Zh (by omega)]
 refine ⟨⟨u8s a,true,true,true,1⟩ :: ⟨u8s b,true,true,true,1⟩ :: ⟨u8s c,true,true,true,1⟩ :: ⟨u8s R,true,true,true,1⟩ :: t,?_⟩
 rw [Jg (fn:=a19) rfl]
 simp only [Qtt] at h7 ⊢
 simp only [a19,Jh,Kc,Kk,Ky,Jy,Kl,Ju,Kz,Kd,K7,guardOf,Zn,opd,Wh,Vu,Va,Env.get,Env.put,Yh,Ql,Q6,Zb,Jj,Vv,Ka,J5,St.after,Env.keep,if_true,if_false,ite_true,ite_false,Wa,Ya,unV,V7,Vb,packed,reduceCtorEq,Zy,Zz,Zp,Qi,Qd,Qh,Zm,Zr,Zw,beq_self_eq_true,Xm,Jv,Kg,Kf,Xx,Kv,X8,Xk,Kw,Ku,Xz,Vg,Ki,J3,Ks,Kx,X5,X0,Jp,Xw,Z5,Je,Jd,J1,Jn,Jz,Jm,Jc,J2,J0,Xd,Jo,Ke,Xf,Kh,Kt,Xe,Kj,Jw,Ob.fresh,Wi,Wt,Ws,Z0,and_self,true_and,and_true,Z4,X6,Vn,Yl,Vh,J4,Vy,J8,Xb,false_and,decide_true,decide_false,Ji,Qp,Qn,Qo,Qe,Qm,Qg,Y3,Xc,Yi,Xp,Xh,Xi,Zk,Zl,Bj,Bi,Bh,Bg,Zf,Kb,Jr,Xy,Xo,Vd,Jx,hz,← hH,Q4i,h1,h2,h3,h4,h5,h6,h7,lR,hst,hlv,h9]
def k1 (n:Nat):List Nat:=n :: Qa 31 0
def Bw (a:List Nat) (x y:Nat):List Nat:=(a.set 0 (x &&& 248)).set 31 ((y &&& 127) ||| 64)
theorem Q20 {a b:Nat} (h:a < 256):a &&& b < 256:=U3 Nat.and_le_left h
theorem Qoo {a:List Nat} {x y:Nat} (la:a.length = 32) (hx:a[0]? = some x) (hy:a[31]? = some y) (hx':x < 256) (hy':y < 256) :
  ∃ l,Vx T 35 [.agg (u8s a).toArray] [] = some (.agg (u8s (Bw a x y)).toArray,l,[]):=by
 have hz:Qa 32 (Value.int .u8 0) = u8s (dig 256 32 0):=rfl
 have hxc:=Uh hx
 have hyc:=Uh (l:=a.set 0 (x &&& 248)) (i:=31) (x:=y) (by rw [Z3 (by decide)]; exact hy)
 have e1:Vf .and .u8 (x:Int) 248 = ((x &&& 248:Nat):Int):=Mx (k := .u8) (a:=x) (b:=248) rfl hx' (by decide)
 have e2:Vf .and .u8 (y:Int) 127 = ((y &&& 127:Nat):Int):=Mx (k := .u8) (a:=y) (b:=127) rfl hy' (by decide)
 have e3:Vf .or .u8 ((y &&& 127:Nat):Int) 64 = (((y &&& 127) ||| 64:Nat):Int):=Gy (k := .u8) (a:=y &&& 127) (b:=64) rfl (Q20 hy') (by decide)
 have l1:(u8s a).length = 32:=by rw [Zt,la]
 have l2:(u8s (a.set 0 (x &&& 248))).length = 32:=by rw [Zt,Jt,la]
 have l3:(u8s (Bw a x y)).length = 32:=by rw [Zt,Bw,Jt,Jt,la]
 have s1:=B0 (H:=[]) (r:=[⟨u8s (dig 256 32 0),true,true,true,1⟩]) (cs:=u8s a) (e:=true) (s:=1) (off:=0) (v:=[.int .u8 ((x &&& 248:Nat):Int)]) (by rw [l1]; simp)
 rw [J8,Gt] at s1
 have s2:=B0 (H:=[]) (r:=[⟨u8s (dig 256 32 0),true,true,true,1⟩]) (cs:=u8s (a.set 0 (x &&& 248))) (e:=true) (s:=1) (off:=31) (v:=[.int .u8 (((y &&& 127) ||| 64:Nat):Int)]) (by rw [l2]; simp)
 rw [J8,Gt] at s2
 have s3:=Qmq (H:=[]) (a:=⟨u8s (Bw a x y),true,true,true,1⟩) (r:=[]) (cs:=u8s (dig 256 32 0)) (e:=true) (s:=1) (off:=0) (v:=u8s (Bw a x y)) (by rw [l3,Zt,Vj]; decide)
 rw [T2 (by rw [l3,Zt,Vj])] at s3
 have t3:((u8s (Bw a x y)).drop 0).take 32 = u8s (Bw a x y):=by rw [Q5,Zh (by omega)]
 have v0:∀ (p q:List Value),liveAt [⟨p,true,true,true,1⟩,⟨q,true,true,true,1⟩] 0 = some ⟨p,true,true,true,1⟩:=fun _ _ => rfl
 have v1:∀ (p q:List Value),liveAt [⟨p,true,true,true,1⟩,⟨q,true,true,true,1⟩] 1 = some ⟨q,true,true,true,1⟩:=fun _ _ => rfl
 have i0:((0:Int) < ((32:Nat):Int)):=by decide
 have i31:((31:Int) < ((32:Nat):Int)):=by decide
 simp only [Q6,Zw] at s1 s2 s3
 rw [show (a.set 0 (x &&& 248)).set 31 ((y &&& 127) ||| 64) = Bw a x y from rfl] at s2
 simp only [Zm] at s3
 refine ⟨[⟨u8s (Bw a x y),true,true,true,1⟩,⟨u8s (Bw a x y),true,true,true,1⟩],?_⟩
 rw [Jg (fn:=a16) rfl]
 simp only [a16,Jh,Kc,Kk,Ky,Jy,Kl,Ju,Kz,Kd,K7,guardOf,Zn,opd,Wh,Vu,Va,Env.get,Env.put,Yh,Ql,Q6,Zb,Jj,Vv,Ka,J5,St.after,Env.keep,if_true,if_false,ite_true,ite_false,Wa,Ya,unV,V7,Vb,packed,reduceCtorEq,Zy,Zz,Zp,Qi,Qd,Qh,Zm,Zr,Zw,beq_self_eq_true,Xm,Jv,Kg,Kf,Xx,Kv,X8,Xk,Kw,Ku,Xz,Vg,Ki,J3,Ks,Kx,X5,X0,Jp,Xw,Z5,Je,Jd,J1,Jn,Jz,Jm,Jc,J2,J0,Xd,Jo,Ke,Xf,Kh,Kt,Xe,Kj,Jw,Ob.fresh,Wi,Wt,Ws,Z0,and_self,true_and,and_true,Z4,X6,Vn,Yl,Vh,J4,Vy,J8,Xb,false_and,decide_true,decide_false,Ji,Qp,Qn,Qo,Qe,Qm,Qg,Y3,Xc,Yi,Xp,Xh,Xi,Zk,Zl,Bj,Bi,Bh,Bg,Zf,Kb,Jr,Xy,Xo,Vd,Jx,hz,hxc,hyc,e1,e2,e3,i0,i31,v0,v1,s1,s2,l3,t3,s3]
theorem Qrc (b:Bool):rf (.bool b) = true:=rfl
theorem v0 (p q:List Value):liveAt [⟨p,true,true,true,1⟩,⟨q,true,true,true,1⟩] 0 = some ⟨p,true,true,true,1⟩:=rfl
theorem v1 (p q:List Value):liveAt [⟨p,true,true,true,1⟩,⟨q,true,true,true,1⟩] 1 = some ⟨q,true,true,true,1⟩:=rfl
end Go.Ev.Ytpgphpkjlpkcbaa
namespace Go.Ev.Ytpgphpkjlpkcbaa
open Go Go.Ev
attribute [local congr] Dy
set_option maxRecDepth 100000
structure LessInv (k:Nat) (ws os:List Nat) (b:Nat):Prop where
 ble:b ≤ 1
 eq:∃ z,z < 4294967296 ^ k ∧ num 4294967296 (ws.take k) + b * 4294967296 ^ k = num 4294967296 (os.take k) + z
theorem LessInv.step {k b x y:Nat} {ws os:List Nat} (h:LessInv k ws os b) (hx:ws[k]? = some x) (hy:os[k]? = some y) (hx':x < 4294967296) (hy':y < 4294967296):LessInv (k + 1) ws os (Qcn x y b):=by
 have hb:=h.ble
 have hd:Qcm x y b < 4294967296 ∧ x + 4294967296 * Qcn x y b = y + b + Qcm x y b ∧ Qcn x y b ≤ 1:=by
  unfold Qcm Qcn; split <;> omega
 refine ⟨hd.2.2,?_⟩
 obtain ⟨z,hz,h2⟩:=h.eq
 rw [Bf hx,Bf hy]
 have h3:=hd.2.1
 have h4:=hd.1
 generalize Qcm x y b = d at *
 generalize Qcn x y b = q at *
 refine ⟨z + d * 4294967296 ^ k,?_,?_⟩
 ·have:(d + 1) * 4294967296 ^ k ≤ 4294967296 * 4294967296 ^ k:=Uo _ h4
  rw [Vo,Uw] at this
  rw [Vt,Vp (4294967296 ^ k)]
  omega
 ·have e2:q * 4294967296 ^ (k + 1) = 4294967296 * q * 4294967296 ^ k:=by
   rw [Vt]; simp only [Yw,Y8,Vp]
  have e3:(x + 4294967296 * q) * 4294967296 ^ k = (y + b + d) * 4294967296 ^ k:=by rw [h3]
  rw [Vo,Vo,Vo] at e3
  rw [e2]
  omega
def Qdv (H:List Ob) (s1 s2:Value) (n b k:Nat) (ex:Env):St:=⟨[(0,s1),(1,s2),(5,.int .u32 b),(8,.int .i64 n),(9,.int .i64 k)] ++ ex,H,[]⟩
theorem Qts {H:List Ob} {id1 off1 c1 id2 off2 c2 n b k x y:Nat} {ws os:List Nat} (hr1:Row .u32 H id1 off1 ws) (hr2:Row .u32 H id2 off2 os) (hN:n < 2 ^ 40) (hk:k < n) (hx:ws[k]? = some x) (hy:os[k]? = some y) (hx':x < 4294967296) (hy':y < 4294967296) (hb:b ≤ 1) :
  J9 T H.length Qiy (Qdv H (.slice (some ⟨id1,off1,none⟩) n c1) (.slice (some ⟨id2,off2,none⟩) n c2) n b k []) = some (.normal,Qdv H (.slice (some ⟨id1,off1,none⟩) n c1) (.slice (some ⟨id2,off2,none⟩) n c2) n (Qcn x y b) (k + 1) []):=by
 obtain ⟨o1,ho1,hc1⟩:=hr1
 obtain ⟨o2,ho2,hc2⟩:=hr2
 have hxc:=hc1 k x hx
 have hyc:=hc2 k y hy
 have h1:((k:Int) < (n:Int)):=by omega
 have hsub:=Qhc hx' hy' hb
 have e10:IntKind.i64.wrap ((k:Int) + 1) = ((k + 1:Nat):Int):=Yp (n:=k + 1) (by omega)
 simp only [Qdv,Qiy,Jh,Kc,Kk,Ky,Jy,Kl,Ju,Kz,Kd,K7,guardOf,Zn,opd,Wh,Vu,Va,Env.get,Env.put,Yh,Ql,Q6,Zb,Jj,Vv,Ka,J5,St.after,Env.keep,if_true,if_false,ite_true,ite_false,Wa,Ya,unV,V7,Vb,packed,reduceCtorEq,Zy,Zz,Zp,Qi,Qd,Qh,Zm,Zr,Zw,beq_self_eq_true,Xm,Jv,Kg,Kf,Xx,Kv,X8,Xk,Kw,Ku,Xz,Vg,Ki,J3,Ks,Kx,X5,X0,Jp,Xw,Z5,Je,Jd,J1,Jn,Jz,Jm,Jc,J2,J0,Xd,Jo,Ke,Xf,Kh,Kt,Xe,Kj,Jw,Ob.fresh,Wi,Wt,Ws,Z0,and_self,true_and,and_true,Z4,X6,Vn,Yl,Vh,J4,Vy,J8,Xb,false_and,decide_true,decide_false,Ji,Qp,Qn,Qo,Qe,Qm,Qg,Y3,Xc,Yi,Xp,Xh,Xi,Zk,Zl,Bj,Bi,Bh,Bg,Zf,Kb,Jr,Xy,Xo,Vd,Jx,h1,ho1,ho2,hxc,hyc,hsub,e10]
theorem Q1h {H:List Ob} {id1 off1 c1 id2 off2 c2 n:Nat} {ws os:List Nat} (hr1:Row .u32 H id1 off1 ws) (hr2:Row .u32 H id2 off2 os) (hn:ws.length = n) (hm:os.length = n) (hN:n < 2 ^ 40) (hws:∀ x ∈ ws,x < 4294967296) (hos:∀ x ∈ os,x < 4294967296) :
  Vx T 83 [.slice (some ⟨id1,off1,none⟩) n c1,.slice (some ⟨id2,off2,none⟩) n c2] H = some (.bool (decide (num 4294967296 ws < num 4294967296 os)),H,[]):=by
 obtain ⟨s',hb,b,rfl,hinv⟩:=Yv (T:=T) (base:=H.length) (id:=0) (body:=Qiy)
  (fun k s => ∃ b,s = Qdv H (.slice (some ⟨id1,off1,none⟩) n c1) (.slice (some ⟨id2,off2,none⟩) n c2) n b k [] ∧ LessInv k ws os b)
  (Q:=fun s => ∃ b,s = Qdv H (.slice (some ⟨id1,off1,none⟩) n c1) (.slice (some ⟨id2,off2,none⟩) n c2) n b n [(10,.bool false)] ∧ LessInv n ws os b)
  n (s:=Qdv H (.slice (some ⟨id1,off1,none⟩) n c1) (.slice (some ⟨id2,off2,none⟩) n c2) n 0 0 []) ⟨_,rfl,⟨by decide,0,by decide,by simp [num]⟩⟩
  (fun k s hk hs => by
   obtain ⟨b,rfl,hI⟩:=hs
   obtain ⟨x,hx⟩:∃ x,ws[k]? = some x:=⟨_,Qt (by omega)⟩
   obtain ⟨y,hy⟩:∃ y,os[k]? = some y:=⟨_,Qt (by omega)⟩
   have hx':=hws x (Zs hx)
   have hy':=hos y (Zs hy)
   exact ⟨_,Qts hr1 hr2 hN hk hx hy hx' hy' hI.ble,_,rfl,hI.step hx hy hx' hy'⟩)
  (fun s hs => by
   obtain ⟨b,rfl,hI⟩:=hs
   have h1:¬ ((n:Int) < (n:Int)):=by omega
   refine ⟨_,?_,b,rfl,hI⟩
   simp only [Qdv,Qiy,Jh,Kc,Kk,Ky,Jy,Kl,Ju,Kz,Kd,K7,guardOf,Zn,opd,Wh,Vu,Va,Env.get,Env.put,Yh,Ql,Q6,Zb,Jj,Vv,Ka,J5,St.after,Env.keep,if_true,if_false,ite_true,ite_false,Wa,Ya,unV,V7,Vb,packed,reduceCtorEq,Zy,Zz,Zp,Qi,Qd,Qh,Zm,Zr,Zw,beq_self_eq_true,Xm,Jv,Kg,Kf,Xx,Kv,X8,Xk,Kw,Ku,Xz,Vg,Ki,J3,Ks,Kx,X5,X0,Jp,Xw,Z5,Je,Jd,J1,Jn,Jz,Jm,Jc,J2,J0,Xd,Jo,Ke,Xf,Kh,Kt,Xe,Kj,Jw,Ob.fresh,Wi,Wt,Ws,Z0,and_self,true_and,and_true,Z4,X6,Vn,Yl,Vh,J4,Vy,J8,Xb,false_and,decide_true,decide_false,Ji,Qp,Qn,Qo,Qe,Qm,Qg,Y3,Xc,Yi,Xp,Xh,Xi,Zk,Zl,Bj,Bi,Bh,Bg,Zf,Kb,Jr,Xy,Xo,Vd,Jx,h1])
 rw [show Qdv H (.slice (some ⟨id1,off1,none⟩) n c1) (.slice (some ⟨id2,off2,none⟩) n c2) n 0 0 [] = ⟨[(0,.slice (some ⟨id1,off1,none⟩) n c1),(1,.slice (some ⟨id2,off2,none⟩) n c2),(5,.int .u32 0),(8,.int .i64 n),(9,.int .i64 0)],H,[]⟩ from rfl] at hb
 obtain ⟨z,hz,h2⟩:=hinv.eq
 rw [Zh (by omega),Zh (by omega)] at h2
 have h3:=num_lt hws
 rw [hn] at h3
 have hble:=hinv.ble
 have hres:(((b:Nat):Int) == 1) = decide (num 4294967296 ws < num 4294967296 os):=by
  rcases Yc 0 b with h | h
  ·have hb1:b = 1:=by omega
   subst hb1
   have:num 4294967296 ws < num 4294967296 os:=by omega
   simp [this]
  ·have hb0:b = 0:=by omega
   subst hb0
   have:¬ num 4294967296 ws < num 4294967296 os:=by omega
   simp [this]
 rw [Jg (fn:=a46) rfl]
 simp only [a46,Jh,Kc,Kk,Ky,Jy,Kl,Ju,Kz,Kd,K7,guardOf,Zn,opd,Wh,Vu,Va,Env.get,Env.put,Yh,Ql,Q6,Zb,Jj,Vv,Ka,J5,St.after,Env.keep,if_true,if_false,ite_true,ite_false,Wa,Ya,unV,V7,Vb,packed,reduceCtorEq,Zy,Zz,Zp,Qi,Qd,Qh,Zm,Zr,Zw,beq_self_eq_true,Xm,Jv,Kg,Kf,Xx,Kv,X8,Xk,Kw,Ku,Xz,Vg,Ki,J3,Ks,Kx,X5,X0,Jp,Xw,Z5,Je,Jd,J1,Jn,Jz,Jm,Jc,J2,J0,Xd,Jo,Ke,Xf,Kh,Kt,Xe,Kj,Jw,Ob.fresh,Wi,Wt,Ws,Z0,and_self,true_and,and_true,Z4,X6,Vn,Yl,Vh,J4,Vy,J8,Xb,false_and,decide_true,decide_false,Ji,Qp,Qn,Qo,Qe,Qm,Qg,Y3,Xc,Yi,Xp,Xh,Xi,Zk,Zl,Bj,Bi,Bh,Bg,Zf,Kb,Jr,Xy,Xo,Vd,Jx,hb,Qdv,hres]
end Go.Ev.Ytpgphpkjlpkcbaa
set_option linter.unusedSimpArgs false
set_option linter.unusedVariables false
namespace Go.Ev.Ytpgphpkjlpkcbaa
open Go Go.Ev
attribute [local congr] Dy
set_option maxRecDepth 100000
theorem Ql4 {a:List Nat} (la:a.length = 32) (xa:∀ x ∈ a,x < 256):∃ l,Vx T 45 [.agg (u8s a).toArray] [] = some (.bool (decide (num 256 a < ell)),l,[]):=by
 obtain ⟨H,hH⟩:∃ H:List Ob,H = [⟨u8s a,true,true,true,1⟩]:=⟨_,rfl⟩
 have ra:Row .u8 H 0 0 a:=by subst hH; exact ⟨_,rfl,fun i x hx => by rw [Zm]; exact Uh hx⟩
 have h1:=Qkc (c:=32) ra la (by decide) xa
 have r1:=(Ri (H:=H) (ws:=dig 4294967296 8 (num 256 a))).app (l:=[Ob.fresh (Xq orderW)])
 have h2:=Qhz (H ++ [Ob.fresh (Xq (dig 4294967296 8 (num 256 a)))])
 have r2:=Ri (H:=H ++ [Ob.fresh (Xq (dig 4294967296 8 (num 256 a)))]) (ws:=orderW)
 have h3:=Q1h (c1:=8) (c2:=8) r1 r2 (Vj _ _ _) rfl (by decide) Rt Qdr
 rw [Uz (by decide),Z2 (Qgr la xa),Qr3] at h3
 change Vx T 57 _ H = some (.slice (some ⟨H.length,0,none⟩) 8 8,H ++ [Ob.fresh (Xq (dig 4294967296 8 (num 256 a)))],[]) at h1
 generalize hH5:H ++ [Ob.fresh (Xq (dig 4294967296 8 (num 256 a)))] = H5 at h1 h2 h3
 generalize hH6:H5 ++ [Ob.fresh (Xq orderW)] = H6 at h2 h3
 refine ⟨H6,?_⟩
 rw [Jg (fn:=a21) rfl]
 simp only [a21,Jh,Kc,Kk,Ky,Jy,Kl,Ju,Kz,Kd,K7,guardOf,Zn,opd,Wh,Vu,Va,Env.get,Env.put,Yh,Ql,Q6,Zb,Jj,Vv,Ka,J5,St.after,Env.keep,if_true,if_false,ite_true,ite_false,Wa,Ya,unV,V7,Vb,packed,reduceCtorEq,Zy,Zz,Zp,Qi,Qd,Qh,Zm,Zr,Zw,beq_self_eq_true,Xm,Jv,Kg,Kf,Xx,Kv,X8,Xk,Kw,Ku,Xz,Vg,Ki,J3,Ks,Kx,X5,X0,Jp,Xw,Z5,Je,Jd,J1,Jn,Jz,Jm,Jc,J2,J0,Xd,Jo,Ke,Xf,Kh,Kt,Xe,Kj,Jw,Ob.fresh,Wi,Wt,Ws,Z0,and_self,true_and,and_true,Z4,X6,Vn,Yl,Vh,J4,Vy,J8,Xb,false_and,decide_true,decide_false,Ji,Qp,Qn,Qo,Qe,Qm,Qg,Y3,Xc,Yi,Xp,Xh,Xi,Zk,Zl,Bj,Bi,Bh,Bg,Zf,Kb,Jr,Xy,Xo,Vd,Jx,← hH,Q4i,h1,h2,h3]
def Qzd (k:IntKind) (H:List Ob) (id off:Nat) (ps:List (List Nat)):Prop :=
 ∃ o,liveAt H id = some o ∧ ∀ (i:Nat) (p:List Nat),ps[i]? = some p → ∃ v,o.cells[off + i]? = some v ∧ Sl k H v p
def Qlc (R s pv:Value) (n i:Nat) (H:List Ob) (ex:Env):St:=⟨[(2,R),(3,s),(6,pv),(7,.int .i64 n),(8,.int .i64 i)] ++ ex,H,[]⟩
theorem Qkp {ps:List (List Nat)} {i:Nat} {p:List Nat} (h:ps[i]? = some p):(ps.take (i + 1)).flatten = (ps.take i).flatten ++ p:=by
 rw [Y9,h]; simp
theorem Qyh {ps:List (List Nat)} {i:Nat} {p:List Nat} (h:ps[i]? = some p):(ps.take i).flatten.length + p.length ≤ ps.flatten.length:=by
 have h1:=congrArg List.length (Qkp h)
 rw [Zc] at h1
 rw [← h1]
 conv => rhs; rw [← Wd (i + 1) ps,Yn,Zc]
 omega
theorem Qwh {H Hc:List Ob} {R s:Value} {id off c n i:Nat} {ps:List (List Nat)} {p:List Nat} (hp:Qzd .u8 H id off ps) (hi:i < n) (hN:n < 2 ^ 40) (hpi:ps[i]? = some p) (hS:ps.flatten.length ≤ 2 ^ 40)
  (hB:H.length + 1 ≤ Hc.length) (hc:∀ j,j < H.length → Hc[j]? = H[j]?) (hg:Grown .u8 (H.length + 1) Hc s ((ps.take i).flatten)) :
  ∃ s' H',J9 T H.length Qi3 (Qlc R s (.slice (some ⟨id,off,none⟩) n c) n i Hc []) = some (.normal,Qlc R s' (.slice (some ⟨id,off,none⟩) n c) n (i + 1) H' []) ∧
   H.length + 1 ≤ H'.length ∧ (∀ j,j < H.length + 1 → H'[j]? = Hc[j]?) ∧ Grown .u8 (H.length + 1) H' s' ((ps.take (i + 1)).flatten):=by
 obtain ⟨o,ho,hps⟩:=hp
 obtain ⟨v,hv,hsl⟩:=hps i p hpi
 have ho':liveAt Hc id = some o:=by rw [Qdu (hc _ (Qkg ho))]; exact ho
 have hsl':=hsl.congr hc
 have hlen:=Qyh hpi
 obtain ⟨s',H',M,ha,hg',hM,hL,hK⟩:=hg.append (bytes:=1) hB hsl'.lenV hsl'.elems (by omega) (by decide)
 have h1:((i:Int) < (n:Int)):=by omega
 have e10:IntKind.i64.wrap ((i:Int) + 1) = ((i + 1:Nat):Int):=Yp (n:=i + 1) (by omega)
 have hm:Jj H.length [] M = []:=K9 fun j hj => by have:=hM j hj; omega
 refine ⟨s',H',?_,by omega,hK,by rw [Qkp hpi]; exact hg'⟩
 simp only [Qlc,Qi3,Jh,Kc,Kk,Ky,Jy,Kl,Ju,Kz,Kd,K7,guardOf,Zn,opd,Wh,Vu,Va,Env.get,Env.put,Yh,Ql,Q6,Zb,Jj,Vv,Ka,J5,St.after,Env.keep,if_true,if_false,ite_true,ite_false,Wa,Ya,unV,V7,Vb,packed,reduceCtorEq,Zy,Zz,Zp,Qi,Qd,Qh,Zm,Zr,Zw,beq_self_eq_true,Xm,Jv,Kg,Kf,Xx,Kv,X8,Xk,Kw,Ku,Xz,Vg,Ki,J3,Ks,Kx,X5,X0,Jp,Xw,Z5,Je,Jd,J1,Jn,Jz,Jm,Jc,J2,J0,Xd,Jo,Ke,Xf,Kh,Kt,Xe,Kj,Jw,Ob.fresh,Wi,Wt,Ws,Z0,and_self,true_and,and_true,Z4,X6,Vn,Yl,Vh,J4,Vy,J8,Xb,false_and,decide_true,decide_false,Ji,Qp,Qn,Qo,Qe,Qm,Qg,Y3,Xc,Yi,Xp,Xh,Xi,Zk,Zl,Bj,Bi,Bh,Bg,Zf,Kb,Jr,Xy,Xo,Vd,Jx,h1,ho',hv,e10,ha,hm]
theorem of_nil (H:List Ob):Vx T 57 [.slice none 0 0] H = some (.slice (some ⟨H.length,0,none⟩) 0 0,H ++ [Ob.fresh []],[]):=by
 have hl:J9 T H.length (.loop Qdd) ⟨[(3,.slice (some ⟨H.length,0,none⟩) 0 0),(11,.slice none 0 0),(12,.int .i64 0),(13,.int .i64 0)],H ++ [⟨[],true,true,true,1⟩],[]⟩ = some (.exit 0,⟨[(3,.slice (some ⟨H.length,0,none⟩) 0 0),(11,.slice none 0 0),(12,.int .i64 0),(13,.int .i64 0),(14,.bool false)],H ++ [⟨[],true,true,true,1⟩],[]⟩):=by
  rw [Un]
  simp only [Qdd,Jh,Kc,Kk,Ky,Jy,Kl,Ju,Kz,Kd,K7,guardOf,Zn,opd,Wh,Vu,Va,Env.get,Env.put,Yh,Ql,Q6,Zb,Jj,Vv,Ka,J5,St.after,Env.keep,if_true,if_false,ite_true,ite_false,Wa,Ya,unV,V7,Vb,packed,reduceCtorEq,Zy,Zz,Zp,Qi,Qd,Qh,Zm,Zr,Zw,beq_self_eq_true,Xm,Jv,Kg,Kf,Xx,Kv,X8,Xk,Kw,Ku,Xz,Vg,Ki,J3,Ks,Kx,X5,X0,Jp,Xw,Z5,Je,Jd,J1,Jn,Jz,Jm,Jc,J2,J0,Xd,Jo,Ke,Xf,Kh,Kt,Xe,Kj,Jw,Ob.fresh,Wi,Wt,Ws,Z0,and_self,true_and,and_true,Z4,X6,Vn,Yl,Vh,J4,Vy,J8,Xb,false_and,decide_true,decide_false,Ji,Qp,Qn,Qo,Qe,Qm,Qg,Y3,Xc,Yi,Xp,Xh,Xi,Zk,Zl,Bj,Bi,Bh,Bg,Zf,Kb,Jr,Xy,Xo,Vd,Jx,cL,Qo,Qn,Q2,Q1,Qy,Qr,Qq,Q0,Qe,Q8,Q9,Qz,Qi,Qh,Qg,Qx,Qw,Qv,Qm,Qf]
 rw [Jg (fn:=a40) rfl]
 simp only [a40,Jh,Kc,Kk,Ky,Jy,Kl,Ju,Kz,Kd,K7,guardOf,Zn,opd,Wh,Vu,Va,Env.get,Env.put,Yh,Ql,Q6,Zb,Jj,Vv,Ka,J5,St.after,Env.keep,if_true,if_false,ite_true,ite_false,Wa,Ya,unV,V7,Vb,packed,reduceCtorEq,Zy,Zz,Zp,Qi,Qd,Qh,Zm,Zr,Zw,beq_self_eq_true,Xm,Jv,Kg,Kf,Xx,Kv,X8,Xk,Kw,Ku,Xz,Vg,Ki,J3,Ks,Kx,X5,X0,Jp,Xw,Z5,Je,Jd,J1,Jn,Jz,Jm,Jc,J2,J0,Xd,Jo,Ke,Xf,Kh,Kt,Xe,Kj,Jw,Ob.fresh,Wi,Wt,Ws,Z0,and_self,true_and,and_true,Z4,X6,Vn,Yl,Vh,J4,Vy,J8,Xb,false_and,decide_true,decide_false,Ji,Qp,Qn,Qo,Qe,Qm,Qg,Y3,Xc,Yi,Xp,Xh,Xi,Zk,Zl,Bj,Bi,Bh,Bg,Zf,Kb,Jr,Xy,Xo,Vd,Jx,cL,Qo,Qn,Q2,Q1,Qy,Qr,Qq,Q0,Qe,Q8,Q9,Qz,Qi,Qh,Qg,Qx,Qw,Qv,Qm,Qf,List.replicate_zero,Ye,hl]
theorem Q1a (H:List Ob) (id:Nat):Vx T 60 [.slice (some ⟨id,0,none⟩) 0 0] H = some (.slice (some ⟨H.length,0,none⟩) 8 8,H ++ [⟨Xq (dig 4294967296 8 0),true,true,true,1⟩,⟨Xq orderW,true,true,true,1⟩,⟨Xq (dig 4294967296 8 0),true,true,true,1⟩],[]):=by
 have hz:(Qa 8 [Value.int .u32 0]).flatten = Xq (dig 4294967296 8 0):=rfl
 have ho:=Qhz (H ++ [⟨Xq (dig 4294967296 8 0),true,true,true,1⟩])
 have hl:J9 T H.length (.loop Hr) ⟨[(0,.slice (some ⟨id,0,none⟩) 0 0),(3,.slice (some ⟨H.length,0,none⟩) 8 8),(4,.slice (some ⟨H.length + 1,0,none⟩) 8 8),(5,.slice (some ⟨H.length + 2,0,none⟩) 8 8),(6,.int .i64 (-1))],H ++ [⟨Xq (dig 4294967296 8 0),true,true,true,1⟩,⟨Xq orderW,true,true,true,1⟩,⟨Xq (dig 4294967296 8 0),true,true,true,1⟩],[]⟩ = some (.exit 0,⟨[(0,.slice (some ⟨id,0,none⟩) 0 0),(3,.slice (some ⟨H.length,0,none⟩) 8 8),(4,.slice (some ⟨H.length + 1,0,none⟩) 8 8),(5,.slice (some ⟨H.length + 2,0,none⟩) 8 8),(6,.int .i64 (-1)),(19,.bool false)],H ++ [⟨Xq (dig 4294967296 8 0),true,true,true,1⟩,⟨Xq orderW,true,true,true,1⟩,⟨Xq (dig 4294967296 8 0),true,true,true,1⟩],[]⟩):=by
  rw [Un]
  have e:((0:Int) ≤ -1) = False:=by decide
  simp only [Hr,Jh,Kc,Kk,Ky,Jy,Kl,Ju,Kz,Kd,K7,guardOf,Zn,opd,Wh,Vu,Va,Env.get,Env.put,Yh,Ql,Q6,Zb,Jj,Vv,Ka,J5,St.after,Env.keep,if_true,if_false,ite_true,ite_false,Wa,Ya,unV,V7,Vb,packed,reduceCtorEq,Zy,Zz,Zp,Qi,Qd,Qh,Zm,Zr,Zw,beq_self_eq_true,Xm,Jv,Kg,Kf,Xx,Kv,X8,Xk,Kw,Ku,Xz,Vg,Ki,J3,Ks,Kx,X5,X0,Jp,Xw,Z5,Je,Jd,J1,Jn,Jz,Jm,Jc,J2,J0,Xd,Jo,Ke,Xf,Kh,Kt,Xe,Kj,Jw,Ob.fresh,Wi,Wt,Ws,Z0,and_self,true_and,and_true,Z4,X6,Vn,Yl,Vh,J4,Vy,J8,Xb,false_and,decide_true,decide_false,Ji,Qp,Qn,Qo,Qe,Qm,Qg,Y3,Xc,Yi,Xp,Xh,Xi,Zk,Zl,Bj,Bi,Bh,Bg,Zf,Kb,Jr,Xy,Xo,Vd,Jx,cL,Qo,Qn,Q2,Q1,Qy,Qr,Qq,Q0,Qe,Q8,Q9,Qz,Qi,Qh,Qg,Qx,Qw,Qv,Qm,Qf,e]
 rw [Jg (fn:=a41) rfl]
 simp only [a41,Jh,Kc,Kk,Ky,Jy,Kl,Ju,Kz,Kd,K7,guardOf,Zn,opd,Wh,Vu,Va,Env.get,Env.put,Yh,Ql,Q6,Zb,Jj,Vv,Ka,J5,St.after,Env.keep,if_true,if_false,ite_true,ite_false,Wa,Ya,unV,V7,Vb,packed,reduceCtorEq,Zy,Zz,Zp,Qi,Qd,Qh,Zm,Zr,Zw,beq_self_eq_true,Xm,Jv,Kg,Kf,Xx,Kv,X8,Xk,Kw,Ku,Xz,Vg,Ki,J3,Ks,Kx,X5,X0,Jp,Xw,Z5,Je,Jd,J1,Jn,Jz,Jm,Jc,J2,J0,Xd,Jo,Ke,Xf,Kh,Kt,Xe,Kj,Jw,Ob.fresh,Wi,Wt,Ws,Z0,and_self,true_and,and_true,Z4,X6,Vn,Yl,Vh,J4,Vy,J8,Xb,false_and,decide_true,decide_false,Ji,Qp,Qn,Qo,Qe,Qm,Qg,Y3,Xc,Yi,Xp,Xh,Xi,Zk,Zl,Bj,Bi,Bh,Bg,Zf,Kb,Jr,Xy,Xo,Vd,Jx,cL,Qo,Qn,Q2,Q1,Qy,Qr,Qq,Q0,Qe,Q8,Q9,Qz,Qi,Qh,Qg,Qx,Qw,Qv,Qm,Qf,hz,ho,hl,Zc,Z1,Vl,Ob.fresh]
theorem Qsw {H:List Ob} {id:Nat} {bs:List Nat} (h:H[id]? = some (Ob.fresh (ns .u8 bs))):Row .u8 H id 0 bs :=
 ⟨_,Vr h rfl,fun i x hx => by rw [Zm]; exact Ut hx⟩
theorem Qsv {H:List Ob} {id:Nat} {bs:List Nat} (h:H[id]? = some (Ob.grown 1 (ns .u8 bs))):Row .u8 H id 0 bs :=
 ⟨_,Vr h rfl,fun i x hx => by rw [Zm]; exact Ut hx⟩
theorem Qwg {B:Nat} {H:List Ob} {s:Value} {bs:List Nat} (hg:Grown .u8 B H s bs) (hb:∀ x ∈ bs,x < 256) (hN:bs.length < 2 ^ 40) :
  ∃ v1 v2 l1 l2 l3,Vx T 57 [s] H = some (v1,H ++ l1,[]) ∧ Vx T 60 [v1] (H ++ l1) = some (v2,H ++ l1 ++ l2,[]) ∧ Vx T 61 [v2] (H ++ l1 ++ l2) = some (.agg (u8s (dig 256 32 (num 256 bs % ell))).toArray,H ++ l1 ++ l2 ++ l3,[]):=by
 cases hg with
 | nil =>
  have h1:=of_nil H
  have h2:=Q1a (H ++ [Ob.fresh []]) H.length
  have r:Row .u32 (H ++ [Ob.fresh []] ++ [⟨Xq (dig 4294967296 8 0),true,true,true,1⟩,⟨Xq orderW,true,true,true,1⟩,⟨Xq (dig 4294967296 8 0),true,true,true,1⟩]) (H ++ [Ob.fresh []]).length 0 (dig 4294967296 8 0) :=
   ⟨_,Wi,fun i x hx => by rw [Zm]; exact Be hx⟩
  obtain ⟨l3,h3⟩:=Qd3 (cap:=8) r
  exact ⟨_,_,_,_,l3,h1,h2,h3⟩
 | @own id _ g1 g2 g3 =>
  have h1:=Qkc (c:=bs.length) (Qsv g3) rfl hN hb
  have hlt:num 256 bs < 4294967296 ^ ((bs.length + 3) / 4):=by
   refine Xl (num_lt hb) ?_
   rw [show (4294967296:Nat) = 256 ^ 4 from by decide,← Ys]
   exact Ve (by decide) (by omega)
  obtain ⟨k,l2,h2,r2⟩:=Qp6 (cap:=(bs.length + 3) / 4) (Ri (H:=H) (ws:=dig 4294967296 ((bs.length + 3) / 4) (num 256 bs))) (Vj _ _ _) (by omega) (by omega) Rt
  rw [Uz (by decide),Z2 hlt] at r2
  obtain ⟨l3,h3⟩:=Qd3 (cap:=8) r2
  exact ⟨_,_,_,l2,l3,h1,h2,h3⟩
 | @new id _ g1 g2 g3 =>
  have h1:=Qkc (c:=bs.length) (Qsw g3) rfl hN hb
  have hlt:num 256 bs < 4294967296 ^ ((bs.length + 3) / 4):=by
   refine Xl (num_lt hb) ?_
   rw [show (4294967296:Nat) = 256 ^ 4 from by decide,← Ys]
   exact Ve (by decide) (by omega)
  obtain ⟨k,l2,h2,r2⟩:=Qp6 (cap:=(bs.length + 3) / 4) (Ri (H:=H) (ws:=dig 4294967296 ((bs.length + 3) / 4) (num 256 bs))) (Vj _ _ _) (by omega) (by omega) Rt
  rw [Uz (by decide),Z2 hlt] at r2
  obtain ⟨l3,h3⟩:=Qd3 (cap:=8) r2
  exact ⟨_,_,_,l2,l3,h1,h2,h3⟩
theorem Qsy {H:List Ob} {id off c n:Nat} {ps:List (List Nat)} (hp:Qzd .u8 H id off ps) (hn:ps.length = n) (hN:n < 2 ^ 40) (hS:ps.flatten.length < 2 ^ 40) (hb:∀ x ∈ ps.flatten,x < 256) :
  ∃ l,Vx T 56 [.slice (some ⟨id,off,none⟩) n c] H = some (.agg (u8s (dig 256 32 (num 256 ps.flatten % ell))).toArray,H ++ l,[]):=by
 have hz:Qa 32 (Value.int .u8 0) = u8s (dig 256 32 0):=rfl
 obtain ⟨s',hb1,s,Hc,rfl,hL,hK,hg⟩:=Yv (T:=T) (base:=H.length) (id:=0) (body:=Qi3)
  (fun i st => ∃ s Hc,st = Qlc (.pointer (some ⟨H.length,0,none⟩)) s (.slice (some ⟨id,off,none⟩) n c) n i Hc [] ∧ H.length + 1 ≤ Hc.length ∧ (∀ j,j < H.length + 1 → Hc[j]? = (H ++ [⟨u8s (dig 256 32 0),true,true,true,1⟩])[j]?) ∧ Grown .u8 (H.length + 1) Hc s ((ps.take i).flatten))
  (Q:=fun st => ∃ s Hc,st = Qlc (.pointer (some ⟨H.length,0,none⟩)) s (.slice (some ⟨id,off,none⟩) n c) n n Hc [(9,.bool false)] ∧ H.length + 1 ≤ Hc.length ∧ (∀ j,j < H.length + 1 → Hc[j]? = (H ++ [⟨u8s (dig 256 32 0),true,true,true,1⟩])[j]?) ∧ Grown .u8 (H.length + 1) Hc s ps.flatten)
  n (s:=Qlc (.pointer (some ⟨H.length,0,none⟩)) (.slice none 0 0) (.slice (some ⟨id,off,none⟩) n c) n 0 (H ++ [⟨u8s (dig 256 32 0),true,true,true,1⟩]) []) ⟨_,_,rfl,by simp,fun _ _ => rfl,.nil⟩
  (fun i st hi hs => by
   obtain ⟨s,Hc,rfl,hL,hK,hg⟩:=hs
   obtain ⟨p,hpi⟩:∃ p,ps[i]? = some p:=⟨_,Qt (by omega)⟩
   obtain ⟨s2,H2,h1,h2,h3,h4⟩:=Qwh (R := .pointer (some ⟨H.length,0,none⟩)) (c:=c) hp hi hN hpi (by omega) hL (fun j hj => by rw [hK j (by omega),Qc hj]) hg
   exact ⟨_,h1,s2,H2,rfl,h2,fun j hj => by rw [h3 j hj,hK j hj],h4⟩)
  (fun st hs => by
   obtain ⟨s,Hc,rfl,hL,hK,hg⟩:=hs
   have h1:¬ ((n:Int) < (n:Int)):=by omega
   rw [Zh (by omega)] at hg
   refine ⟨_,?_,s,Hc,rfl,hL,hK,hg⟩
   simp only [Qlc,Qi3,Jh,Kc,Kk,Ky,Jy,Kl,Ju,Kz,Kd,K7,guardOf,Zn,opd,Wh,Vu,Va,Env.get,Env.put,Yh,Ql,Q6,Zb,Jj,Vv,Ka,J5,St.after,Env.keep,if_true,if_false,ite_true,ite_false,Wa,Ya,unV,V7,Vb,packed,reduceCtorEq,Zy,Zz,Zp,Qi,Qd,Qh,Zm,Zr,Zw,beq_self_eq_true,Xm,Jv,Kg,Kf,Xx,Kv,X8,Xk,Kw,Ku,Xz,Vg,Ki,J3,Ks,Kx,X5,X0,Jp,Xw,Z5,Je,Jd,J1,Jn,Jz,Jm,Jc,J2,J0,Xd,Jo,Ke,Xf,Kh,Kt,Xe,Kj,Jw,Ob.fresh,Wi,Wt,Ws,Z0,and_self,true_and,and_true,Z4,X6,Vn,Yl,Vh,J4,Vy,J8,Xb,false_and,decide_true,decide_false,Ji,Qp,Qn,Qo,Qe,Qm,Qg,Y3,Xc,Yi,Xp,Xh,Xi,Zk,Zl,Bj,Bi,Bh,Bg,Zf,Kb,Jr,Xy,Xo,Vd,Jx,h1])
 obtain ⟨l0,hl0⟩:=By (H:=H ++ [⟨u8s (dig 256 32 0),true,true,true,1⟩]) (H':=Hc) (by simpa using hL) (fun i hi => hK i (by simpa using hi))
 obtain ⟨v1,v2,l1,l2,l3,h1,h2,h3⟩:=Qwg hg hb hS
 generalize hR:dig 256 32 (num 256 ps.flatten % ell) = R at *
 have lR:(u8s R).length = 32:=by rw [Zt,← hR,Vj]
 have hst:storeAt (Hc ++ l1 ++ l2 ++ l3) ⟨H.length,0,none⟩ (u8s R) = some (H ++ ⟨u8s R,true,true,true,1⟩ :: (l0 ++ l1 ++ l2 ++ l3)):=by
  have h8:=B0 (H:=H) (r:=l0 ++ l1 ++ l2 ++ l3) (cs:=u8s (dig 256 32 0)) (e:=true) (s:=1) (off:=0) (v:=u8s R) (by rw [lR,Zt,Vj]; omega)
  rw [T2 (by rw [lR,Zt,Vj])] at h8
  rw [hl0]
  simpa using h8
 generalize hH1:Hc ++ l1 = H1 at h1 h2 h3 hst
 generalize hH2:H1 ++ l2 = H2 at h2 h3 hst
 generalize hH3:H2 ++ l3 = H3 at h3 hst
 have h9:((u8s R).drop 0).take 32 = u8s R:=by rw [Q5,Zh (by omega)]
 refine ⟨⟨u8s R,true,true,true,1⟩ :: (l0 ++ l1 ++ l2 ++ l3),?_⟩
 rw [show Qlc (.pointer (some ⟨H.length,0,none⟩)) (.slice none 0 0) (.slice (some ⟨id,off,none⟩) n c) n 0 (H ++ [⟨u8s (dig 256 32 0),true,true,true,1⟩]) [] = ⟨[(2,.pointer (some ⟨H.length,0,none⟩)),(3,.slice none 0 0),(6,.slice (some ⟨id,off,none⟩) n c),(7,.int .i64 n),(8,.int .i64 0)],H ++ [⟨u8s (dig 256 32 0),true,true,true,1⟩],[]⟩ from rfl] at hb1
 rw [Jg (fn:=a17) rfl]
 simp only [a17,Jh,Kc,Kk,Ky,Jy,Kl,Ju,Kz,Kd,K7,guardOf,Zn,opd,Wh,Vu,Va,Env.get,Env.put,Yh,Ql,Q6,Zb,Jj,Vv,Ka,J5,St.after,Env.keep,if_true,if_false,ite_true,ite_false,Wa,Ya,unV,V7,Vb,packed,reduceCtorEq,Zy,Zz,Zp,Qi,Qd,Qh,Zm,Zr,Zw,beq_self_eq_true,Xm,Jv,Kg,Kf,Xx,Kv,X8,Xk,Kw,Ku,Xz,Vg,Ki,J3,Ks,Kx,X5,X0,Jp,Xw,Z5,Je,Jd,J1,Jn,Jz,Jm,Jc,J2,J0,Xd,Jo,Ke,Xf,Kh,Kt,Xe,Kj,Jw,Ob.fresh,Wi,Wt,Ws,Z0,and_self,true_and,and_true,Z4,X6,Vn,Yl,Vh,J4,Vy,J8,Xb,false_and,decide_true,decide_false,Ji,Qp,Qn,Qo,Qe,Qm,Qg,Y3,Xc,Yi,Xp,Xh,Xi,Zk,Zl,Bj,Bi,Bh,Bg,Zf,Kb,Jr,Xy,Xo,Vd,Jx,cL,Qo,Qn,Q2,Q1,Qy,Qr,Qq,Q0,Qe,Q8,Q9,Qz,Qi,Qh,Qg,Qx,Qw,Qv,Qm,Qf,hz,hb1,Qlc,h1,h2,h3,lR,hst,Wi,h9]
end Go.Ev.Ytpgphpkjlpkcbaa
set_option linter.unusedSimpArgs false
set_option linter.unusedVariables false
namespace Go.Ev.Ytpgphpkjlpkcbaa
open Go Go.Ev
attribute [local congr] Wq W3 Wp W4 Wg
set_option maxRecDepth 100000
def mA (x y z:List Nat):List Nat:=dig 256 32 ((num 256 x * num 256 y + num 256 z) % ell)
def rd (x:List Nat):List Nat:=dig 256 32 (num 256 x % ell)
theorem Q63 {x y z:List Nat}:(mA x y z).length = 32:=Vj _ _ _
theorem Q6c {x:List Nat}:(rd x).length = 32:=Vj _ _ _
theorem mA_lt {x y z:List Nat}:∀ t ∈ mA x y z,t < 256:=fun _ h => Gr (by decide) h
theorem rd_lt {x:List Nat}:∀ t ∈ rd x,t < 256:=fun _ h => Gr (by decide) h
theorem Q7h:ell ≤ 256 ^ 32:=by decide
theorem Qnr (v:Nat):num 256 (dig 256 32 (v % ell)) = v % ell:=by
 rw [Uz (by decide),Z2 (Xl (Js _ Ql1) Q7h)]
theorem Q6t (x y z:List Nat):num 256 (mA x y z) = (num 256 x * num 256 y + num 256 z) % ell:=Qnr _
theorem Qtl {a b c:List Nat} (la:a.length = 32) (lb:b.length = 32) (lc:c.length = 32) (xa:∀ x ∈ a,x < 256) (xb:∀ x ∈ b,x < 256) (xc:∀ x ∈ c,x < 256) :
  ∃ l,Vx T 31 [.agg (u8s a).toArray,.agg (u8s b).toArray,.agg (u8s c).toArray] [] = some (.agg (u8s (mA a b c)).toArray,l,[]):=Qtm la lb lc xa xb xc
def ordL:List Nat:=dig 256 32 ell
theorem Q0m:∀ x ∈ ordL,x < 256:=fun _ h => Gr (by decide) h
theorem Qdw {k:IntKind} {B bytes:Nat} {H:List Ob} {s:Value} {bs:List Nat} {x:Nat} (h:Grown k B H s bs) (hB:B ≤ H.length) (hb:(bs.length + 1) * bytes ≤ 2 ^ 47) (hb0:0 < bytes) :
  ∃ s' H' M,Y4 1 bytes (H ++ [⟨[.int k (x:Nat)],true,true,true,1⟩]) s (.slice (some ⟨H.length,0,none⟩) 1 1) = some (s',H',none,M) ∧ Grown k B H' s' (bs ++ [x]) ∧ (∀ i ∈ M,B ≤ i) ∧ B ≤ H'.length ∧ ∀ i,i < B → H'[i]? = H[i]? := by
 obtain ⟨s',H',M,h1,h2,h3,h4,h5⟩:=(h.app (l':=[⟨[.int k (x:Nat)],true,true,true,1⟩])).append (bytes:=bytes) (x := .slice (some ⟨H.length,0,none⟩) 1 1) (new:=[x]) (by simp; omega) rfl (by simp [elemsOf,liveAt,ns]) hb hb0
 refine ⟨s',H',M,h1,h2,h3,?_,fun i hi => by rw [h5 i hi,Qc (by omega)]⟩
 simp at h4
 omega
def ord33:List Nat:=ordL ++ [0]
theorem Qwy:∀ x ∈ ord33,x < 256:=by
 intro x hx
 simp only [ord33,Xg,U5] at hx
 rcases hx with h | h
 ·exact Q0m x h
 ·omega
structure SubInv (k q:Nat) (r0 r:List Nat) (b:Nat):Prop where
 len:r.length = 33
 lt:∀ x ∈ r,x < 256
 ble:b ≤ q + 1
 eq:num 256 (r0.take k) + b * 256 ^ k = num 256 (r.take k) + q * num 256 (ord33.take k)
 rest:r.drop k = r0.drop k
def nx (y q l b:Nat):Nat:=((y:Int) - q * l - b).toNat
def nb (y q l b:Nat):Nat:=(q * l + b - y + 255) / 256
theorem SubInv.step {k q b y l:Nat} {r0 r:List Nat} (h:SubInv k q r0 r b) (hk:k < 33) (hy:r[k]? = some y) (hl:ord33[k]? = some l):SubInv (k + 1) q r0 (r.set k (y + 256 * nb y q l b - (q * l + b))) (nb y q l b) ∧ y + 256 * nb y q l b - (q * l + b) < 256 ∧ q * l + b ≤ y + 256 * nb y q l b:=by
 have hy':=h.lt y (Zs hy)
 have hl':=Qwy l (Zs hl)
 have hb:=h.ble
 have hlen:=h.len
 have hnb:y + 256 * nb y q l b - (q * l + b) < 256 ∧ q * l + b ≤ y + 256 * nb y q l b:=by unfold nb; omega
 have hql:q * l ≤ q * 255:=Df q (by omega)
 have hnb2:nb y q l b ≤ q + 1:=by unfold nb; omega
 have hy0:r0[k]? = some y:=by
  have h1:(r.drop k)[0]? = (r0.drop k)[0]? := by rw [h.rest]
  rwa [V4,V4,Ji,hy,eq_comm] at h1
 refine ⟨⟨by rw [Jt]; exact hlen,Mi h.lt hnb.1,hnb2,?_,?_⟩,hnb⟩
 ·generalize nb y q l b = c at *
  obtain ⟨d,hd⟩:∃ d,y + 256 * c = q * l + b + d:=⟨y + 256 * c - (q * l + b),by omega⟩
  have hset:(r.set k d).take (k + 1) = r.take k ++ [d]:=by
   rw [Y9,Jq (by omega),List.take_set_of_le (Zf k)]; rfl
  rw [show y + 256 * c - (q * l + b) = d by omega,hset,Bf hy0,Bf hl,T7]
  have hln:(r.take k).length = k:=by rw [Km]; omega
  rw [hln]
  have he:=h.eq
  simp only [num,Qek,Ji]
  have e1:c * 256 ^ (k + 1) = (256 * c) * 256 ^ k:=by rw [Vt]; simp only [Yw,Y8,Vp]
  have e2:(y + 256 * c) * 256 ^ k = (q * l + b + d) * 256 ^ k:=by rw [hd]
  rw [Vo,Vo,Vo] at e2
  rw [e1,Qci,← Yw,Vp (256 ^ k) d]
  omega
 ·rw [List.drop_set_of_lt (by omega)]
  have h1:(r.drop k).drop 1 = (r0.drop k).drop 1:=by rw [h.rest]
  rwa [Bc,Bc] at h1
end Go.Ev.Ytpgphpkjlpkcbaa
set_option linter.unusedSimpArgs false
set_option linter.unusedVariables false
namespace Go.Ev
def Qvt (bs:List Nat):Value := .string ⟨(bs.map UInt8.ofNat).toArray⟩
end Go.Ev
namespace Go.Ev.Ytpgphpkjlpkcbaa
open Go Go.Ev
attribute [local congr] Wq W3 Wp W4 Wg
set_option maxRecDepth 100000
end Go.Ev.Ytpgphpkjlpkcbaa
set_option linter.unusedSimpArgs false
set_option linter.unusedVariables false
namespace Go.Ev.Ytpgphpkjlpkcbaa
open Go Go.Ev Go.Proofs
set_option maxRecDepth 100000
theorem tab16 : ∃ fn, Try.prog.funcs[35]? = some fn ∧ compFun Try.prog fn = some a16.strip ∧ (fn.name == "runtime.NumGoroutine") = false := ⟨Try.f35, Try.func35, by kernel_rfl, by kernel_rfl⟩
theorem tab17 : ∃ fn, Try.prog.funcs[56]? = some fn ∧ compFun Try.prog fn = some a17.strip ∧ (fn.name == "runtime.NumGoroutine") = false := ⟨Try.f56, Try.func56, by kernel_rfl, by kernel_rfl⟩
theorem tab19 : ∃ fn, Try.prog.funcs[31]? = some fn ∧ compFun Try.prog fn = some a19.strip ∧ (fn.name == "runtime.NumGoroutine") = false := ⟨Try.f31, Try.func31, by kernel_rfl, by kernel_rfl⟩
theorem tab21 : ∃ fn, Try.prog.funcs[45]? = some fn ∧ compFun Try.prog fn = some a21.strip ∧ (fn.name == "runtime.NumGoroutine") = false := ⟨Try.f45, Try.func45, by kernel_rfl, by kernel_rfl⟩
theorem tab25 : ∃ fn, Try.prog.funcs[27]? = some fn ∧ compFun Try.prog fn = some a25.strip ∧ (fn.name == "runtime.NumGoroutine") = false := ⟨Try.f27, Try.func27, by kernel_rfl, by kernel_rfl⟩
theorem tab26 : ∃ fn, Try.prog.funcs[28]? = some fn ∧ compFun Try.prog fn = some a26.strip ∧ (fn.name == "runtime.NumGoroutine") = false := ⟨Try.f28, Try.func28, by kernel_rfl, by kernel_rfl⟩
theorem tab27 : ∃ fn, Try.prog.funcs[46]? = some fn ∧ compFun Try.prog fn = some a27.strip ∧ (fn.name == "runtime.NumGoroutine") = false := ⟨Try.f46, Try.func46, by kernel_rfl, by kernel_rfl⟩
theorem tab28 : ∃ fn, Try.prog.funcs[82]? = some fn ∧ compFun Try.prog fn = some a28.strip ∧ (fn.name == "runtime.NumGoroutine") = false := ⟨Try.f82, Try.func82, by kernel_rfl, by kernel_rfl⟩
theorem tab29 : ∃ fn, Try.prog.funcs[29]? = some fn ∧ compFun Try.prog fn = some a29.strip ∧ (fn.name == "runtime.NumGoroutine") = false := ⟨Try.f29, Try.func29, by kernel_rfl, by kernel_rfl⟩
theorem tab30 : ∃ fn, Try.prog.funcs[51]? = some fn ∧ compFun Try.prog fn = some a30.strip ∧ (fn.name == "runtime.NumGoroutine") = false := ⟨Try.f51, Try.func51, by kernel_rfl, by kernel_rfl⟩
theorem tab31 : ∃ fn, Try.prog.funcs[43]? = some fn ∧ compFun Try.prog fn = some a31.strip ∧ (fn.name == "runtime.NumGoroutine") = false := ⟨Try.f43, Try.func43, by kernel_rfl, by kernel_rfl⟩
theorem tab34 : ∃ fn, Try.prog.funcs[47]? = some fn ∧ compFun Try.prog fn = some a34.strip ∧ (fn.name == "runtime.NumGoroutine") = false := ⟨Try.f47, Try.func47, by kernel_rfl, by kernel_rfl⟩
theorem tab39 : ∃ fn, Try.prog.funcs[44]? = some fn ∧ compFun Try.prog fn = some a39.strip ∧ (fn.name == "runtime.NumGoroutine") = false := ⟨Try.f44, Try.func44, by kernel_rfl, by kernel_rfl⟩
theorem tab40 : ∃ fn, Try.prog.funcs[57]? = some fn ∧ compFun Try.prog fn = some a40.strip ∧ (fn.name == "runtime.NumGoroutine") = false := ⟨Try.f57, Try.func57, by kernel_rfl, by kernel_rfl⟩
theorem tab41 : ∃ fn, Try.prog.funcs[60]? = some fn ∧ compFun Try.prog fn = some a41.strip ∧ (fn.name == "runtime.NumGoroutine") = false := ⟨Try.f60, Try.func60, by kernel_rfl, by kernel_rfl⟩
theorem tab42 : ∃ fn, Try.prog.funcs[61]? = some fn ∧ compFun Try.prog fn = some a42.strip ∧ (fn.name == "runtime.NumGoroutine") = false := ⟨Try.f61, Try.func61, by kernel_rfl, by kernel_rfl⟩
theorem tab44 : ∃ fn, Try.prog.funcs[58]? = some fn ∧ compFun Try.prog fn = some a44.strip ∧ (fn.name == "runtime.NumGoroutine") = false := ⟨Try.f58, Try.func58, by kernel_rfl, by kernel_rfl⟩
theorem tab45 : ∃ fn, Try.prog.funcs[59]? = some fn ∧ compFun Try.prog fn = some a45.strip ∧ (fn.name == "runtime.NumGoroutine") = false := ⟨Try.f59, Try.func59, by kernel_rfl, by kernel_rfl⟩
theorem tab46 : ∃ fn, Try.prog.funcs[83]? = some fn ∧ compFun Try.prog fn = some a46.strip ∧ (fn.name == "runtime.NumGoroutine") = false := ⟨Try.f83, Try.func83, by kernel_rfl, by kernel_rfl⟩
theorem tab47 : ∃ fn, Try.prog.funcs[84]? = some fn ∧ compFun Try.prog fn = some a47.strip ∧ (fn.name == "runtime.NumGoroutine") = false := ⟨Try.f84, Try.func84, by kernel_rfl, by kernel_rfl⟩
theorem tab49 : ∃ fn, Try.prog.funcs[36]? = some fn ∧ compFun Try.prog fn = some a49.strip ∧ (fn.name == "runtime.NumGoroutine") = false := ⟨Try.f36, Try.func36, by kernel_rfl, by kernel_rfl⟩
theorem tab50 : ∃ fn, Try.prog.funcs[37]? = some fn ∧ compFun Try.prog fn = some a50.strip ∧ (fn.name == "runtime.NumGoroutine") = false := ⟨Try.f37, Try.func37, by kernel_rfl, by kernel_rfl⟩
theorem tab51 : ∃ fn, Try.prog.funcs[40]? = some fn ∧ compFun Try.prog fn = some a51.strip ∧ (fn.name == "runtime.NumGoroutine") = false := ⟨Try.f40, Try.func40, by kernel_rfl, by kernel_rfl⟩
theorem tab52 : ∃ fn, Try.prog.funcs[52]? = some fn ∧ compFun Try.prog fn = some a52.strip ∧ (fn.name == "runtime.NumGoroutine") = false := ⟨Try.f52, Try.func52, by kernel_rfl, by kernel_rfl⟩
theorem tab53 : ∃ fn, Try.prog.funcs[53]? = some fn ∧ compFun Try.prog fn = some a53.strip ∧ (fn.name == "runtime.NumGoroutine") = false := ⟨Try.f53, Try.func53, by kernel_rfl, by kernel_rfl⟩
theorem tab54 : ∃ fn, Try.prog.funcs[54]? = some fn ∧ compFun Try.prog fn = some a54.strip ∧ (fn.name == "runtime.NumGoroutine") = false := ⟨Try.f54, Try.func54, by kernel_rfl, by kernel_rfl⟩
theorem tab55 : ∃ fn, Try.prog.funcs[98]? = some fn ∧ compFun Try.prog fn = some a55.strip ∧ (fn.name == "runtime.NumGoroutine") = false := ⟨Try.f98, Try.func98, by kernel_rfl, by kernel_rfl⟩
theorem tab56 : ∃ fn, Try.prog.funcs[41]? = some fn ∧ compFun Try.prog fn = some a56.strip ∧ (fn.name == "runtime.NumGoroutine") = false := ⟨Try.f41, Try.func41, by kernel_rfl, by kernel_rfl⟩
theorem tab57 : ∃ fn, Try.prog.funcs[42]? = some fn ∧ compFun Try.prog fn = some a57.strip ∧ (fn.name == "runtime.NumGoroutine") = false := ⟨Try.f42, Try.func42, by kernel_rfl, by kernel_rfl⟩
theorem tab58 : ∃ fn, Try.prog.funcs[55]? = some fn ∧ compFun Try.prog fn = some a58.strip ∧ (fn.name == "runtime.NumGoroutine") = false := ⟨Try.f55, Try.func55, by kernel_rfl, by kernel_rfl⟩
theorem tab59 : ∃ fn, Try.prog.funcs[78]? = some fn ∧ compFun Try.prog fn = some a59.strip ∧ (fn.name == "runtime.NumGoroutine") = false := ⟨Try.f78, Try.func78, by kernel_rfl, by kernel_rfl⟩
theorem tab60 : ∃ fn, Try.prog.funcs[79]? = some fn ∧ compFun Try.prog fn = some a60.strip ∧ (fn.name == "runtime.NumGoroutine") = false := ⟨Try.f79, Try.func79, by kernel_rfl, by kernel_rfl⟩
theorem tab61 : ∃ fn, Try.prog.funcs[69]? = some fn ∧ compFun Try.prog fn = some a61.strip ∧ (fn.name == "runtime.NumGoroutine") = false := ⟨Try.f69, Try.func69, by kernel_rfl, by kernel_rfl⟩
theorem tab62 : ∃ fn, Try.prog.funcs[68]? = some fn ∧ compFun Try.prog fn = some a62.strip ∧ (fn.name == "runtime.NumGoroutine") = false := ⟨Try.f68, Try.func68, by kernel_rfl, by kernel_rfl⟩
theorem tab63 : ∃ fn, Try.prog.funcs[80]? = some fn ∧ compFun Try.prog fn = some a63.strip ∧ (fn.name == "runtime.NumGoroutine") = false := ⟨Try.f80, Try.func80, by kernel_rfl, by kernel_rfl⟩
theorem tab64 : ∃ fn, Try.prog.funcs[81]? = some fn ∧ compFun Try.prog fn = some a64.strip ∧ (fn.name == "runtime.NumGoroutine") = false := ⟨Try.f81, Try.func81, by kernel_rfl, by kernel_rfl⟩
theorem tab75 : ∃ fn, Try.prog.funcs[89]? = some fn ∧ compFun Try.prog fn = some a75.strip ∧ (fn.name == "runtime.NumGoroutine") = false := ⟨Try.f89, Try.func89, by kernel_rfl, by kernel_rfl⟩
theorem tab76 : ∃ fn, Try.prog.funcs[88]? = some fn ∧ compFun Try.prog fn = some a76.strip ∧ (fn.name == "runtime.NumGoroutine") = false := ⟨Try.f88, Try.func88, by kernel_rfl, by kernel_rfl⟩
theorem tab77 : ∃ fn, Try.prog.funcs[71]? = some fn ∧ compFun Try.prog fn = some a77.strip ∧ (fn.name == "runtime.NumGoroutine") = false := ⟨Try.f71, Try.func71, by kernel_rfl, by kernel_rfl⟩
theorem tab78 : ∃ fn, Try.prog.funcs[72]? = some fn ∧ compFun Try.prog fn = some a78.strip ∧ (fn.name == "runtime.NumGoroutine") = false := ⟨Try.f72, Try.func72, by kernel_rfl, by kernel_rfl⟩
theorem tab79 : ∃ fn, Try.prog.funcs[73]? = some fn ∧ compFun Try.prog fn = some a79.strip ∧ (fn.name == "runtime.NumGoroutine") = false := ⟨Try.f73, Try.func73, by kernel_rfl, by kernel_rfl⟩
theorem tab80 : ∃ fn, Try.prog.funcs[74]? = some fn ∧ compFun Try.prog fn = some a80.strip ∧ (fn.name == "runtime.NumGoroutine") = false := ⟨Try.f74, Try.func74, by kernel_rfl, by kernel_rfl⟩
theorem tab81 : ∃ fn, Try.prog.funcs[75]? = some fn ∧ compFun Try.prog fn = some a81.strip ∧ (fn.name == "runtime.NumGoroutine") = false := ⟨Try.f75, Try.func75, by kernel_rfl, by kernel_rfl⟩
theorem tab82 : ∃ fn, Try.prog.funcs[70]? = some fn ∧ compFun Try.prog fn = some a82.strip ∧ (fn.name == "runtime.NumGoroutine") = false := ⟨Try.f70, Try.func70, by kernel_rfl, by kernel_rfl⟩
theorem tab83 : ∃ fn, Try.prog.funcs[76]? = some fn ∧ compFun Try.prog fn = some a83.strip ∧ (fn.name == "runtime.NumGoroutine") = false := ⟨Try.f76, Try.func76, by kernel_rfl, by kernel_rfl⟩
theorem tab84 : ∃ fn, Try.prog.funcs[77]? = some fn ∧ compFun Try.prog fn = some a84.strip ∧ (fn.name == "runtime.NumGoroutine") = false := ⟨Try.f77, Try.func77, by kernel_rfl, by kernel_rfl⟩
theorem tab91 : ∃ fn, Try.prog.funcs[96]? = some fn ∧ compFun Try.prog fn = some a91.strip ∧ (fn.name == "runtime.NumGoroutine") = false := ⟨Try.f96, Try.func96, by kernel_rfl, by kernel_rfl⟩
theorem Q55 : ∃ fn, Try.prog.funcs[16]? = some fn ∧ compFun Try.prog fn = some Q30.strip ∧ (fn.name == "runtime.NumGoroutine") = false := ⟨Try.f16, Try.func16, by kernel_rfl, by kernel_rfl⟩
theorem Q54 : ∃ fn, Try.prog.funcs[22]? = some fn ∧ compFun Try.prog fn = some Qej.strip ∧ (fn.name == "runtime.NumGoroutine") = false := ⟨Try.f22, Try.func22, by kernel_rfl, by kernel_rfl⟩
theorem Q53 : ∃ fn, Try.prog.funcs[20]? = some fn ∧ compFun Try.prog fn = some Q3z.strip ∧ (fn.name == "runtime.NumGoroutine") = false := ⟨Try.f20, Try.func20, by kernel_rfl, by kernel_rfl⟩
theorem Q52 : ∃ fn, Try.prog.funcs[26]? = some fn ∧ compFun Try.prog fn = some Q3y.strip ∧ (fn.name == "runtime.NumGoroutine") = false := ⟨Try.f26, Try.func26, by kernel_rfl, by kernel_rfl⟩
theorem Q51 : ∃ fn, Try.prog.funcs[30]? = some fn ∧ compFun Try.prog fn = some Q3x.strip ∧ (fn.name == "runtime.NumGoroutine") = false := ⟨Try.f30, Try.func30, by kernel_rfl, by kernel_rfl⟩
theorem Q50 : ∃ fn, Try.prog.funcs[50]? = some fn ∧ compFun Try.prog fn = some Q3w.strip ∧ (fn.name == "runtime.NumGoroutine") = false := ⟨Try.f50, Try.func50, by kernel_rfl, by kernel_rfl⟩
theorem Q5z : ∃ fn, Try.prog.funcs[85]? = some fn ∧ compFun Try.prog fn = some Q3v.strip ∧ (fn.name == "runtime.NumGoroutine") = false := ⟨Try.f85, Try.func85, by kernel_rfl, by kernel_rfl⟩
theorem Q5y : ∃ fn, Try.prog.funcs[86]? = some fn ∧ compFun Try.prog fn = some Q3u.strip ∧ (fn.name == "runtime.NumGoroutine") = false := ⟨Try.f86, Try.func86, by kernel_rfl, by kernel_rfl⟩
theorem Q5x : ∃ fn, Try.prog.funcs[87]? = some fn ∧ compFun Try.prog fn = some Q3t.strip ∧ (fn.name == "runtime.NumGoroutine") = false := ⟨Try.f87, Try.func87, by kernel_rfl, by kernel_rfl⟩
theorem Q5w : ∃ fn, Try.prog.funcs[93]? = some fn ∧ compFun Try.prog fn = some Quw.strip ∧ (fn.name == "runtime.NumGoroutine") = false := ⟨Try.f93, Try.func93, by kernel_rfl, by kernel_rfl⟩
theorem Q5v : ∃ fn, Try.prog.funcs[99]? = some fn ∧ compFun Try.prog fn = some Q3s.strip ∧ (fn.name == "runtime.NumGoroutine") = false := ⟨Try.f99, Try.func99, by kernel_rfl, by kernel_rfl⟩
theorem Q5u : ∃ fn, Try.prog.funcs[95]? = some fn ∧ compFun Try.prog fn = some Quv.strip ∧ (fn.name == "runtime.NumGoroutine") = false := ⟨Try.f95, Try.func95, by kernel_rfl, by kernel_rfl⟩
theorem Q5t : ∃ fn, Try.prog.funcs[102]? = some fn ∧ compFun Try.prog fn = some Q3r.strip ∧ (fn.name == "runtime.NumGoroutine") = false := ⟨Try.f102, Try.func102, by kernel_rfl, by kernel_rfl⟩
theorem Q5s : ∃ fn, Try.prog.funcs[101]? = some fn ∧ compFun Try.prog fn = some Q3q.strip ∧ (fn.name == "runtime.NumGoroutine") = false := ⟨Try.f101, Try.func101, by kernel_rfl, by kernel_rfl⟩
theorem Q5r : ∃ fn, Try.prog.funcs[3]? = some fn ∧ compFun Try.prog fn = some Q3p.strip ∧ (fn.name == "runtime.NumGoroutine") = false := ⟨Try.f3, Try.func3, by kernel_rfl, by kernel_rfl⟩
theorem Q5q : ∃ fn, Try.prog.funcs[5]? = some fn ∧ compFun Try.prog fn = some Q3o.strip ∧ (fn.name == "runtime.NumGoroutine") = false := ⟨Try.f5, Try.func5, by kernel_rfl, by kernel_rfl⟩
theorem Q5p : ∃ fn, Try.prog.funcs[6]? = some fn ∧ compFun Try.prog fn = some Quu.strip ∧ (fn.name == "runtime.NumGoroutine") = false := ⟨Try.f6, Try.func6, by kernel_rfl, by kernel_rfl⟩
theorem Q5o : ∃ fn, Try.prog.funcs[7]? = some fn ∧ compFun Try.prog fn = some Qut.strip ∧ (fn.name == "runtime.NumGoroutine") = false := ⟨Try.f7, Try.func7, by kernel_rfl, by kernel_rfl⟩
theorem Q5n : ∃ fn, Try.prog.funcs[8]? = some fn ∧ compFun Try.prog fn = some Qus.strip ∧ (fn.name == "runtime.NumGoroutine") = false := ⟨Try.f8, Try.func8, by kernel_rfl, by kernel_rfl⟩
theorem Q5m : ∃ fn, Try.prog.funcs[9]? = some fn ∧ compFun Try.prog fn = some Q3n.strip ∧ (fn.name == "runtime.NumGoroutine") = false := ⟨Try.f9, Try.func9, by kernel_rfl, by kernel_rfl⟩
theorem Q5l : ∃ fn, Try.prog.funcs[10]? = some fn ∧ compFun Try.prog fn = some Q3m.strip ∧ (fn.name == "runtime.NumGoroutine") = false := ⟨Try.f10, Try.func10, by kernel_rfl, by kernel_rfl⟩
theorem Q5k : ∃ fn, Try.prog.funcs[11]? = some fn ∧ compFun Try.prog fn = some Q3l.strip ∧ (fn.name == "runtime.NumGoroutine") = false := ⟨Try.f11, Try.func11, by kernel_rfl, by kernel_rfl⟩
theorem Q5j : ∃ fn, Try.prog.funcs[17]? = some fn ∧ compFun Try.prog fn = some Q3k.strip ∧ (fn.name == "runtime.NumGoroutine") = false := ⟨Try.f17, Try.func17, by kernel_rfl, by kernel_rfl⟩
theorem Q5i : ∃ fn, Try.prog.funcs[18]? = some fn ∧ compFun Try.prog fn = some Q3j.strip ∧ (fn.name == "runtime.NumGoroutine") = false := ⟨Try.f18, Try.func18, by kernel_rfl, by kernel_rfl⟩
theorem Q5h : ∃ fn, Try.prog.funcs[19]? = some fn ∧ compFun Try.prog fn = some Q3i.strip ∧ (fn.name == "runtime.NumGoroutine") = false := ⟨Try.f19, Try.func19, by kernel_rfl, by kernel_rfl⟩
theorem Q5g : ∃ fn, Try.prog.funcs[21]? = some fn ∧ compFun Try.prog fn = some Q3h.strip ∧ (fn.name == "runtime.NumGoroutine") = false := ⟨Try.f21, Try.func21, by kernel_rfl, by kernel_rfl⟩
theorem Q5f : ∃ fn, Try.prog.funcs[32]? = some fn ∧ compFun Try.prog fn = some Qur.strip ∧ (fn.name == "runtime.NumGoroutine") = false := ⟨Try.f32, Try.func32, by kernel_rfl, by kernel_rfl⟩
theorem Q5e : ∃ fn, Try.prog.funcs[33]? = some fn ∧ compFun Try.prog fn = some Q3g.strip ∧ (fn.name == "runtime.NumGoroutine") = false := ⟨Try.f33, Try.func33, by kernel_rfl, by kernel_rfl⟩
theorem Q5d : ∃ fn, Try.prog.funcs[34]? = some fn ∧ compFun Try.prog fn = some Q3f.strip ∧ (fn.name == "runtime.NumGoroutine") = false := ⟨Try.f34, Try.func34, by kernel_rfl, by kernel_rfl⟩
theorem Q5c : ∃ fn, Try.prog.funcs[38]? = some fn ∧ compFun Try.prog fn = some Q3e.strip ∧ (fn.name == "runtime.NumGoroutine") = false := ⟨Try.f38, Try.func38, by kernel_rfl, by kernel_rfl⟩
theorem Q5b : ∃ fn, Try.prog.funcs[39]? = some fn ∧ compFun Try.prog fn = some Q3d.strip ∧ (fn.name == "runtime.NumGoroutine") = false := ⟨Try.f39, Try.func39, by kernel_rfl, by kernel_rfl⟩
theorem Q5a : ∃ fn, Try.prog.funcs[62]? = some fn ∧ compFun Try.prog fn = some Q3c.strip ∧ (fn.name == "runtime.NumGoroutine") = false := ⟨Try.f62, Try.func62, by kernel_rfl, by kernel_rfl⟩
theorem Q49 : ∃ fn, Try.prog.funcs[63]? = some fn ∧ compFun Try.prog fn = some Q3b.strip ∧ (fn.name == "runtime.NumGoroutine") = false := ⟨Try.f63, Try.func63, by kernel_rfl, by kernel_rfl⟩
theorem Q48 : ∃ fn, Try.prog.funcs[64]? = some fn ∧ compFun Try.prog fn = some Q3a.strip ∧ (fn.name == "runtime.NumGoroutine") = false := ⟨Try.f64, Try.func64, by kernel_rfl, by kernel_rfl⟩
theorem Q47 : ∃ fn, Try.prog.funcs[65]? = some fn ∧ compFun Try.prog fn = some Q29.strip ∧ (fn.name == "runtime.NumGoroutine") = false := ⟨Try.f65, Try.func65, by kernel_rfl, by kernel_rfl⟩
theorem Q46 : ∃ fn, Try.prog.funcs[66]? = some fn ∧ compFun Try.prog fn = some Q28.strip ∧ (fn.name == "runtime.NumGoroutine") = false := ⟨Try.f66, Try.func66, by kernel_rfl, by kernel_rfl⟩
theorem Q45 : ∃ fn, Try.prog.funcs[67]? = some fn ∧ compFun Try.prog fn = some Qzb.strip ∧ (fn.name == "runtime.NumGoroutine") = false := ⟨Try.f67, Try.func67, by kernel_rfl, by kernel_rfl⟩
theorem Q44 : ∃ fn, Try.prog.funcs[90]? = some fn ∧ compFun Try.prog fn = some Q27.strip ∧ (fn.name == "runtime.NumGoroutine") = false := ⟨Try.f90, Try.func90, by kernel_rfl, by kernel_rfl⟩
theorem Q43 : ∃ fn, Try.prog.funcs[91]? = some fn ∧ compFun Try.prog fn = some Q26.strip ∧ (fn.name == "runtime.NumGoroutine") = false := ⟨Try.f91, Try.func91, by kernel_rfl, by kernel_rfl⟩
theorem Q42 : ∃ fn, Try.prog.funcs[92]? = some fn ∧ compFun Try.prog fn = some Q25.strip ∧ (fn.name == "runtime.NumGoroutine") = false := ⟨Try.f92, Try.func92, by kernel_rfl, by kernel_rfl⟩
theorem Q41 : ∃ fn, Try.prog.funcs[94]? = some fn ∧ compFun Try.prog fn = some Q24.strip ∧ (fn.name == "runtime.NumGoroutine") = false := ⟨Try.f94, Try.func94, by kernel_rfl, by kernel_rfl⟩
theorem Q40 : ∃ fn, Try.prog.funcs[100]? = some fn ∧ compFun Try.prog fn = some Q23.strip ∧ (fn.name == "runtime.NumGoroutine") = false := ⟨Try.f100, Try.func100, by kernel_rfl, by kernel_rfl⟩
theorem Qqr (args:Array Value) (w:World):(callFunc 97 args).run Try.prog w = (((do
  let (x, y, c) ← Extern.MathBitsCarry.three "Add64" args
  pure (Extern.MathBitsCarry.pair ((x + y + c) % Extern.MathBitsCarry.m64) ((x + y + c) / Extern.MathBitsCarry.m64))):Sem Value).run Try.prog w).andThen fun v w' => .ok (.value v) w' :=
 run_callFunc_extern (e:=fun args => do
  let (x, y, c) ← Extern.MathBitsCarry.three "Add64" args
  pure (Extern.MathBitsCarry.pair ((x + y + c) % Extern.MathBitsCarry.m64) ((x + y + c) / Extern.MathBitsCarry.m64))) Try.func97 (by kernel_rfl) (by kernel_rfl) (by kernel_rfl) (by kernel_rfl) args w
theorem Qsu (P:Program) (w:World) (x y c:Int) (hc:c.toNat ≤ 1):(((do
  let (x, y, c) ← Extern.MathBitsCarry.three "Add64" [Value.int .u64 x, .int .u64 y, .int .u64 c].toArray
  pure (Extern.MathBitsCarry.pair ((x + y + c) % Extern.MathBitsCarry.m64) ((x + y + c) / Extern.MathBitsCarry.m64))):Sem Value).run P w) = .ok (.tuple #[.int .u64 ((x.toNat + y.toNat + c.toNat) % 18446744073709551616:Nat),.int .u64 ((x.toNat + y.toNat + c.toNat) / 18446744073709551616:Nat)]) w:=by
 have hc':¬ c.toNat > 1:=by omega
 have e : Extern.MathBitsCarry.three "Add64" [Value.int .u64 x, .int .u64 y, .int .u64 c].toArray = (if c.toNat > 1 then (do unsupported (.noEntry ("extern/math/bits." ++ "Add64" ++ ": a carry that is neither 0 nor 1")); pure (x.toNat, y.toNat, c.toNat)) else pure (x.toNat, y.toNat, c.toNat) : Sem (Nat × Nat × Nat)) := by
  rfl
 rw [e,if_neg hc']
 rfl
theorem Q4z (f:Nat) (args:List Value) (v:Value) (h:T.ext f args = some v):(∀ ρ,VRel ρ v v) ∧ ∀ w,(callFunc f args.toArray).run Try.prog w = .ok (.value v) w:=by
 have h':Q12 f args = some v:=h
 unfold Q12 at h'
 split at h'
 ·split at h'
  ·rename_i hc
   cases h'
   refine ⟨fun ρ => VRel.tuple (.cons (.same rfl) (.cons (.same rfl) .nil)),fun w => ?_⟩
   rw [Qqr,Qsu _ _ _ _ _ hc]
   rfl
  ·cases h'
 ·cases h'
theorem tabOk:TabOk Try.prog T:=by
 refine ⟨fun f af h => ?_,fun f args v _ h _ => Q4z f args v h⟩
 have h':fnS f = some af:=h
 unfold fnS at h'
 split at h'
 ·cases h'; exact tab16
 ·cases h'; exact tab17
 ·cases h'; exact tab19
 ·cases h'; exact tab21
 ·cases h'; exact tab25
 ·cases h'; exact tab26
 ·cases h'; exact tab27
 ·cases h'; exact tab28
 ·cases h'; exact tab29
 ·cases h'; exact tab30
 ·cases h'; exact tab31
 ·cases h'; exact tab34
 ·cases h'; exact tab39
 ·cases h'; exact tab40
 ·cases h'; exact tab41
 ·cases h'; exact tab42
 ·cases h'; exact tab44
 ·cases h'; exact tab45
 ·cases h'; exact tab46
 ·cases h'; exact tab47
 ·cases h'; exact tab49
 ·cases h'; exact tab50
 ·cases h'; exact tab51
 ·cases h'; exact tab52
 ·cases h'; exact tab53
 ·cases h'; exact tab54
 ·cases h'; exact tab55
 ·cases h'; exact tab56
 ·cases h'; exact tab57
 ·cases h'; exact tab58
 ·cases h'; exact tab59
 ·cases h'; exact tab60
 ·cases h'; exact tab61
 ·cases h'; exact tab62
 ·cases h'; exact tab63
 ·cases h'; exact tab64
 ·cases h'; exact tab75
 ·cases h'; exact tab76
 ·cases h'; exact tab77
 ·cases h'; exact tab78
 ·cases h'; exact tab79
 ·cases h'; exact tab80
 ·cases h'; exact tab81
 ·cases h'; exact tab82
 ·cases h'; exact tab83
 ·cases h'; exact tab84
 ·cases h'; exact tab91
 ·cases h'; exact Q55
 ·cases h'; exact Q54
 ·cases h'; exact Q53
 ·cases h'; exact Q52
 ·cases h'; exact Q51
 ·cases h'; exact Q50
 ·cases h'; exact Q5z
 ·cases h'; exact Q5y
 ·cases h'; exact Q5x
 ·cases h'; exact Q5w
 ·cases h'; exact Q5v
 ·cases h'; exact Q5u
 ·cases h'; exact Q5t
 ·cases h'; exact Q5s
 ·cases h'; exact Q5r
 ·cases h'; exact Q5q
 ·cases h'; exact Q5p
 ·cases h'; exact Q5o
 ·cases h'; exact Q5n
 ·cases h'; exact Q5m
 ·cases h'; exact Q5l
 ·cases h'; exact Q5k
 ·cases h'; exact Q5j
 ·cases h'; exact Q5i
 ·cases h'; exact Q5h
 ·cases h'; exact Q5g
 ·cases h'; exact Q5f
 ·cases h'; exact Q5e
 ·cases h'; exact Q5d
 ·cases h'; exact Q5c
 ·cases h'; exact Q5b
 ·cases h'; exact Q5a
 ·cases h'; exact Q49
 ·cases h'; exact Q48
 ·cases h'; exact Q47
 ·cases h'; exact Q46
 ·cases h'; exact Q45
 ·cases h'; exact Q44
 ·cases h'; exact Q43
 ·cases h'; exact Q42
 ·cases h'; exact Q41
 ·cases h'; exact Q40
 ·cases h'
theorem mixed:Try.prog.follows .mixedOrders = true:=by kernel_rfl
end Go.Ev.Ytpgphpkjlpkcbaa
set_option linter.unusedSimpArgs false
set_option linter.unusedVariables false
namespace Go.Ev
open Go.RowKit Go.WideShapes Go.ChangeShapes
theorem Qe6 {P:Program} {w:World} {r:Reach} {base:Nat} {t e:TypeId} {v:Value} {n:Nat} (ht:(match P.underlying t with | some (.struct _) | some (.array _ _) => true | _ => false) = true) (hc:P.cellsOf t = n) (hts:P.cellTypes P.depth t = some (Qa n e)) (he:P.underlying e = some (.int .u8)) (hn:0 < n)
  (h:Value.okWide P w r base t v):∃ l:List Nat,v = .agg (u8s l).toArray ∧ l.length = n ∧ ∀ x ∈ l,x < 256:=by
 have h':∃ cs,v = .agg cs ∧ cs.size = P.cellsOf t ∧ Row.okWide P w r base t cs:=by
  unfold Value.okWide at h
  split at ht
  ·rename_i e; rw [e] at h; exact h
  ·rename_i e; rw [e] at h; exact h
  ·cases ht
 obtain ⟨cs,rfl,h1,ts,h2,-,h3⟩:=h'
 rw [hc] at h1
 rw [hts] at h2
 cases h2
 have hcell:∀ (i:Nat) (v:Value),cs[i]? = some v → ∃ x:Nat,v = Value.int .u8 (x:Nat) ∧ x < 256:=by
  intro i v hv
  obtain ⟨u,g1,g2⟩:=h3 i v hv
  have hu:u = e:=by
   have:=Zs g1
   exact List.eq_of_mem_replicate this
  subst hu
  simp only [Cell.okWide,Cell.ok,he] at g2
  cases v <;> try (exact g2.elim)
  ·rename_i k x
   obtain ⟨rfl,g3,g4⟩:=g2
   have g3':(0:Int) ≤ x:=g3
   have g4':x ≤ 255:=g4
   exact ⟨x.toNat,by rw [Int.toNat_of_nonneg g3'],by omega⟩
 refine ⟨cs.toList.map fun v => match v with | .int _ n => n.toNat | _ => 0,?_,by simp [h1],?_⟩
 ·congr 1
  apply G8
  intro i
  simp only [u8s,Ql8,Ra,Bn,Yr]
  cases hv:cs[i]? with
  | none => rfl
  | some v =>
   obtain ⟨x,rfl,hx⟩:=hcell i v hv
   simp
 ·intro x hx
  simp only [Us] at hx
  obtain ⟨v,hv,rfl⟩:=hx
  obtain ⟨i,hi⟩:=List.mem_iff_getElem?.1 hv
  rw [Yr] at hi
  obtain ⟨x,rfl,hx⟩:=hcell i v hi
  simpa using hx
end Go.Ev
set_option linter.unusedSimpArgs false
set_option linter.unusedVariables false
namespace Go.Ev
theorem n_add (a b:Nat):(a:Int) + (b:Int) = ((a + b:Nat):Int):=(Hd a b).symm
theorem n_mul (a b:Nat):(a:Int) * (b:Int) = ((a * b:Nat):Int):=(B7 a b).symm
theorem Q60 (n a:Nat):(no_index (@OfNat.ofNat Int n instOfNat)) + (a:Int) = ((n + a:Nat):Int):=(Hd n a).symm
theorem Q61 (n a:Nat):(a:Int) + (no_index (@OfNat.ofNat Int n instOfNat)) = ((a + n:Nat):Int):=(Hd a n).symm
theorem Q6z (n a:Nat):(no_index (@OfNat.ofNat Int n instOfNat)) * (a:Int) = ((n * a:Nat):Int):=(B7 n a).symm
theorem Q6y (n a:Nat):(a:Int) * (no_index (@OfNat.ofNat Int n instOfNat)) = ((a * n:Nat):Int):=(B7 a n).symm
theorem Qfd (a b:Nat):Qat (a:Int) (b:Int) = ((a / b:Nat):Int):=by
 rw [Wb _ (Z0 _)]; rfl
theorem Q04 (a n:Nat):Qat (a:Int) (no_index (@OfNat.ofNat Int n instOfNat)) = ((a / n:Nat):Int):=Qfd a n
theorem Q6x (a n:Nat):Int.tdiv (a:Int) (no_index (@OfNat.ofNat Int n instOfNat)) = ((a / n:Nat):Int):=rfl
theorem Q6w (a n:Nat):Int.tmod (a:Int) (no_index (@OfNat.ofNat Int n instOfNat)) = ((a % n:Nat):Int):=rfl
theorem Qrp (a:Nat):IntKind.u64.wrap (a:Int) = ((a % 18446744073709551616:Nat):Int):=by rw [Ta]; omega
theorem Qrq (a:Nat):IntKind.u32.wrap (a:Int) = ((a % 4294967296:Nat):Int):=by rw [wrap_u32]; omega
theorem n_w16 (a:Nat):IntKind.u16.wrap (a:Int) = ((a % 65536:Nat):Int):=by rw [Qu0]; omega
theorem Qf8 (a:Nat):IntKind.u8.wrap (a:Int) = ((a % 256:Nat):Int):=by rw [wrap_u8]; omega
theorem Qls (a b:Nat):IntKind.u64.wrap ((a:Int) - (b:Int)) = (((a + (18446744073709551616 - b % 18446744073709551616)) % 18446744073709551616:Nat):Int):=by rw [Ta]; omega
theorem Qxl (n b:Nat):IntKind.u64.wrap ((no_index (@OfNat.ofNat Int n instOfNat)) - (b:Int)) = (((n + (18446744073709551616 - b % 18446744073709551616)) % 18446744073709551616:Nat):Int):=Qls n b
theorem Qxk (a n:Nat):IntKind.u64.wrap ((a:Int) - (no_index (@OfNat.ofNat Int n instOfNat))) = (((a + (18446744073709551616 - n % 18446744073709551616)) % 18446744073709551616:Nat):Int):=Qls a n
theorem Qh2 (w a:Nat):BitVec.ofInt w (a:Int) = BitVec.ofNat w a:=by simp
theorem n_and (k:IntKind) (hk:k.signed = false) (a b:Nat):Vf .and k (a:Int) (b:Int) = (((a % 2 ^ k.bits) &&& (b % 2 ^ k.bits):Nat):Int):=by
 simp only [Vf,Qh2]
 rw [BitVec.toNat_and,BitVec.toNat_ofNat,BitVec.toNat_ofNat,Ww hk (U4 _ (Js _ (Wx (by decide))))]
theorem n_or (k:IntKind) (hk:k.signed = false) (a b:Nat):Vf .or k (a:Int) (b:Int) = (((a % 2 ^ k.bits) ||| (b % 2 ^ k.bits):Nat):Int):=by
 simp only [Vf,Qh2]
 rw [BitVec.toNat_or,BitVec.toNat_ofNat,BitVec.toNat_ofNat,Ww hk (Hm (Js _ (Wx (by decide))) (Js _ (Wx (by decide))))]
theorem R3 (k:IntKind) (hk:k.signed = false) (w a:Nat) (hw:w ≤ k.bits):Vf .and k (a:Int) ((2 ^ w - 1:Nat):Int) = ((a % 2 ^ w:Nat):Int):=by
 have h1:(2:Nat) ^ w ≤ 2 ^ k.bits:=Ve (by decide) hw
 have h0:0 < (2:Nat) ^ w:=Wx (by decide)
 rw [n_and k hk,Z2 (a:=2 ^ w - 1) (by omega),Re,D0 _ (Nat.pow_dvd_pow 2 hw)]
theorem n_m32 (a:Nat):Vf .and .u64 (a:Int) 4294967295 = ((a % 4294967296:Nat):Int):=R3 .u64 rfl 32 a (by decide)
theorem n_m51 (a:Nat):Vf .and .u64 (a:Int) 2251799813685247 = ((a % 2251799813685248:Nat):Int):=R3 .u64 rfl 51 a (by decide)
theorem n_m1 (a:Nat):Vf .and .u64 (a:Int) 1 = ((a % 2:Nat):Int):=R3 .u64 rfl 1 a (by decide)
theorem n_m1b (a:Nat):Vf .and .u8 (a:Int) 1 = ((a % 2:Nat):Int):=R3 .u8 rfl 1 a (by decide)
theorem n_m7b (a:Nat):Vf .and .u8 (a:Int) 127 = ((a % 128:Nat):Int):=R3 .u8 rfl 7 a (by decide)
theorem Q6k:(2:Int) ^ min 32 IntKind.u64.bits = ((4294967296:Nat):Int):=rfl
theorem Q6j:(2:Int) ^ min 51 IntKind.u64.bits = ((2251799813685248:Nat):Int):=rfl
theorem Q6l:(2:Int) ^ min 13 IntKind.u64.bits = ((8192:Nat):Int):=rfl
theorem p8_7:(2:Int) ^ min 7 IntKind.u8.bits = ((128:Nat):Int):=rfl
theorem Da {a b n:Nat} (h:a < 2 ^ n):(b * 2 ^ n) ||| a = b * 2 ^ n + a:=by
 rw [Vp,Hl h]
theorem Qa9 (k:IntKind):ns k [] = []:=rfl
theorem Rp (k:IntKind) (x:Nat) (r:List Nat):ns k (x :: r) = .int k (x:Nat) :: ns k r:=rfl
theorem Qgu {w m q s y M:Nat} (hq:q < m) (hs:s < w) (hM:M < 2 ^ (w * q + s)) (hy:y * 2 ^ s < 2 ^ w) :
  (dig (2 ^ w) m M).set q ((dig (2 ^ w) m M).getD q 0 ||| y * 2 ^ s) = dig (2 ^ w) m (M + y * 2 ^ (w * q + s)):=by
 have hB:(2 ^ w) ^ q = 2 ^ (w * q):=by rw [← Ys]
 have hpos:0 < (2 ^ w:Nat) ^ q:=Wx (Wx (by decide))
 have hpow:(2:Nat) ^ (w * q + s) = 2 ^ s * (2 ^ w) ^ q:=by rw [Wl,hB,Vp]
 have hdiv:M / (2 ^ w) ^ q < 2 ^ s:=by rw [Qft hpos,← hpow]; exact hM
 have hsw:(2:Nat) ^ s ≤ 2 ^ w:=Ve (by decide) (by omega)
 have hsum:M / (2 ^ w) ^ q + y * 2 ^ s < 2 ^ w:=by
  have h1:(2:Nat) ^ w = 2 ^ (w - s) * 2 ^ s:=by rw [← Wl]; congr 1; omega
  have h2:y < 2 ^ (w - s):=by
   rw [h1] at hy
   exact Nat.lt_of_mul_lt_mul_right hy
  have h3:(y + 1) * 2 ^ s ≤ 2 ^ (w - s) * 2 ^ s:=Uo _ h2
  rw [Vo,Uw,← h1] at h3
  omega
 apply Qb9 (by rw [Jt,Vj])
 intro i hi
 by_cases hqi:i = q
 ·subst hqi
  rw [Jq (by rw [Vj]; exact hi),Jf,Dc hi]
  rw [hpow,← Yw,M8 _ _ hpos]
  simp only [W8]
  rw [Z2 (a:=M / _) (by omega),Z2 hsum,Nat.or_comm,Da hdiv,Br]
 ·rw [Z3 (Ne.symm hqi),Dc hi]
  congr 1
  by_cases hlt:i < q
  ·have h1:(2 ^ w:Nat) ^ q = 2 ^ w * (2 ^ w) ^ (q - i - 1) * (2 ^ w) ^ i:=by
    rw [Yw,← Wl,← Qo3]; congr 1; omega
   rw [hpow,h1]
   rw [show y * (2 ^ s * (2 ^ w * (2 ^ w) ^ (q - i - 1) * (2 ^ w) ^ i)) = (y * 2 ^ s * (2 ^ w) ^ (q - i - 1) * 2 ^ w) * (2 ^ w) ^ i by simp only [Yw,Y8,Vp]]
   rw [M8 _ _ (Wx (Wx (by decide))),Hw]
  ·have h1:M + y * 2 ^ (w * q + s) < (2 ^ w) ^ i:=by
    have h2:(2 ^ w:Nat) ^ (q + 1) ≤ (2 ^ w) ^ i:=Ve (Wx (by decide)) (by omega)
    refine Xl ?_ h2
    have h3:(M / (2 ^ w) ^ q + y * 2 ^ s + 1) * (2 ^ w) ^ q ≤ 2 ^ w * (2 ^ w) ^ q:=Uo _ hsum
    have h4:=Yb M ((2 ^ w) ^ q)
    have h5:=Js M hpos
    rw [Vt,Vp ((2 ^ w) ^ q)]
    refine Xl ?_ h3
    rw [hpow,← Yw,Vo,Vo,Uw,Vp (M / (2 ^ w) ^ q)]
    omega
   rw [Ua h1,Ua (by omega)]
def Vs (T:Tab) (f:Nat) (args:List Value):Option Value:=(Vx T f args []).map (·.1)
theorem Qbg {T:Tab} {f:Nat} {args:List Value} {v:Value} {l:List Ob} {M:List Nat} (h:Vx T f args [] = some (v,l,M)):Vs T f args = some v:=by simp [Vs,h]
theorem K8 {T:Tab} {f:Nat} {args:List Value} {v:Value} (h:∃ l,Vx T f args [] = some (v,l,[])):Vs T f args = some v:=by
 obtain ⟨l,h⟩:=h
 exact Qbg h
theorem Zo {T:Tab} {b:Nat} {q:Bool} {f:Nat} {xs:List Operand} {d:Option Nat} {r:List AOper} {e:Env} {H:List Ob} {l:List Nat}:steps T b q (⟨d,.call f xs true,none⟩ :: r) ⟨e,H,l⟩ = (Wh e xs).bind fun args => gate (args.all rf = true) ((Vs T f args).bind fun v => gate (rf v = true) (steps T b q r ⟨e.put d v,H,l⟩)):=by
 rw [Mr]
 cases Wh e xs with
 | none => rfl
 | some args =>
  simp only [Ql,Vs]
  cases Vx T f args [] <;> rfl
set_option linter.defProp false
def cU:=Q4 (Q4 (Q4 (Q4 (@n_add) (Q4 (@n_mul) (@Q60))) (Q4 (@Q61) (Q4 (@Q6z) (@Q6y)))) (Q4 (Q4 (@Qfd) (Q4 (@Q04) (@Q6x))) (Q4 (Q4 (@Q6w) (@Qrp)) (Q4 (@Qrq) (@n_w16))))) (Q4 (Q4 (Q4 (@Qf8) (Q4 (@Qls) (@Qxl))) (Q4 (@Qxk) (Q4 (@n_m32) (@n_m51)))) (Q4 (Q4 (@n_m1) (Q4 (@n_m1b) (@n_m7b))) (Q4 (Q4 (@Q6k) (@Q6j)) (Q4 (@Q6l) (@p8_7)))))
end Go.Ev
set_option linter.unusedSimpArgs false
set_option linter.unusedVariables false
namespace Go.NT
def Pr (p:Nat):Prop:=2 ≤ p ∧ ∀ m,m ∣ p → m = 1 ∨ m = p
theorem Pr.coprime {p a:Nat} (hp:Pr p) (h:¬ p ∣ a):Q7w p a:=by
 rcases hp.2 (Qgy p a) (Nat.gcd_dvd_left p a) with h1 | h1
 ·exact h1
 ·exact absurd (h1 ▸ Nat.gcd_dvd_right p a) h
theorem Pr.dvd_mul {p a b:Nat} (hp:Pr p) (h:p ∣ a * b):p ∣ a ∨ p ∣ b:=by
 by_cases ha:p ∣ a
 ·exact .inl ha
 ·exact .inr ((hp.coprime ha).dvd_of_dvd_mul_left h)
def Tj:List Nat → Nat
 | [] => 1
 | x :: r => x * Tj r
theorem Qpl {l l':List Nat} (h:l.Perm l'):Tj l = Tj l':=by
 induction h with
 | nil => rfl
 | cons x _ ih => simp only [Tj,ih]
 | swap x y l => simp only [Tj,Y8]
 | trans _ _ h1 h2 => rw [h1,h2]
theorem Qrf:∀ {l1 l2:List Nat},l1.Nodup → (∀ x ∈ l1,x ∈ l2) → l2.length ≤ l1.length → l1.Perm l2
 | [],l2,_,_,hl => by
  have:l2 = []:=by cases l2 with | nil => rfl | cons _ _ => simp at hl
  subst this; exact .nil
 | a :: t,l2,hn,hs,hl => by
  have ha:=hs a (by simp)
  have hp:=List.perm_cons_erase ha
  have hlen:=hp.length_eq
  rw [List.nodup_cons] at hn
  refine (List.Perm.cons a (Qrf hn.2 (fun x hx => ?_) ?_)).trans hp.symm
  ·have hxa:x ≠ a:=fun h => hn.1 (h ▸ hx)
   exact (List.mem_erase_of_ne hxa).2 (hs x (by simp [hx]))
  ·simp only [Zr] at hl hlen ⊢
   omega
theorem Qj2 (a p:Nat):∀ l:List Nat,Tj (l.map fun x => a * x % p) % p = a ^ l.length * Tj l % p
 | [] => by simp [Tj]
 | x :: r => by
  have h1:=Qj2 a p r
  simp only [Wf,Tj,Zr,Vt]
  rw [R5,h1,Qcj,← R5]
  congr 1
  simp only [Yw,Y8,Vp]
theorem Qhp {p:Nat} (hp:Pr p):∀ {l:List Nat},(∀ x ∈ l,¬ p ∣ x) → ¬ p ∣ Tj l
 | [],_ => fun h => by
  have:=Gf (by decide:0 < 1) h
  have:=hp.1
  omega
 | x :: r,h => fun hd => by
  rcases hp.dvd_mul hd with h1 | h1
  ·exact h x (by simp) h1
  ·exact Qhp hp (fun y hy => h y (by simp [hy])) h1
theorem Qfj {p a:Nat} (hp:Pr p) (ha:¬ p ∣ a):a ^ (p - 1) % p = 1:=by
 have h2:=hp.1
 have hnd:((Gs 1 (p - 1)).map fun x => a * x % p).Nodup:=by
  rw [List.nodup_iff_pairwise_ne,List.pairwise_map]
  refine List.Pairwise.imp_of_mem ?_ (List.pairwise_lt_range' (s:=1) (n:=p - 1))
  intro x y hx hy hxy he
  simp only [Ql7] at hx hy
  have h3:(a * y - a * x) % p = 0:=R4 he.symm
  rw [← Nat.mul_sub] at h3
  rcases hp.dvd_mul (Mb h3) with h4 | h4
  ·exact ha h4
  ·have:=Gf (by omega) h4
   omega
 have hmem:∀ x ∈ (Gs 1 (p - 1)).map (fun x => a * x % p),x ∈ Gs 1 (p - 1):=by
  intro x hx
  simp only [Us,Ql7] at hx ⊢
  obtain ⟨y,hy,rfl⟩:=hx
  have h3:a * y % p < p:=Js _ (by omega)
  have h4:a * y % p ≠ 0:=fun h => by
   rcases hp.dvd_mul (Mb h) with h4 | h4
   ·exact ha h4
   ·have:=Gf (by omega) h4
    omega
  omega
 have hperm:=Qpl (Qrf hnd hmem (by simp))
 have h5:=Qj2 a p (Gs 1 (p - 1))
 rw [hperm,List.length_range'] at h5
 have h6:¬ p ∣ Tj (Gs 1 (p - 1)):=Qhp hp fun x hx hd => by
  simp only [Ql7] at hx
  have:=Gf (by omega) hd
  omega
 have h7:(a ^ (p - 1) * Tj (Gs 1 (p - 1)) - 1 * Tj (Gs 1 (p - 1))) % p = 0:=R4 (by rw [← h5,Uw])
 rw [← Nat.sub_mul] at h7
 have ha0:0 < a:=Nat.pos_of_ne_zero fun h => ha (h ▸ Nat.dvd_zero p)
 have h8:0 < a ^ (p - 1):=Wx ha0
 rcases hp.dvd_mul (Mb h7) with h9 | h9
 ·obtain ⟨k,hk⟩:=h9
  have:a ^ (p - 1) = p * k + 1:=by omega
  rw [this,Nat.mul_add_mod,Z2 (by omega)]
 ·exact absurd h9 h6
theorem Qfg {n:Nat} (hn:2 ≤ n):∃ r,Pr r ∧ r ∣ n ∧ (Pr n ∨ r * r ≤ n):=by
 have ex:∃ r,2 ≤ r ∧ r ∣ n ∧ ∀ m,2 ≤ m → m ∣ n → r ≤ m:=by
  have key:∀ k,(∃ r,2 ≤ r ∧ r ∣ n ∧ r ≤ k) → ∃ r,2 ≤ r ∧ r ∣ n ∧ ∀ m,2 ≤ m → m ∣ n → r ≤ m:=by
   intro k
   induction k with
   | zero => rintro ⟨r,h1,_,h3⟩; omega
   | succ k ih =>
    rintro ⟨r,h1,h2,h3⟩
    by_cases h:∃ r,2 ≤ r ∧ r ∣ n ∧ r ≤ k
    ·exact ih h
    ·refine ⟨r,h1,h2,fun m hm hmd => ?_⟩
     rcases Yc k m with h4 | h4
     ·omega
     ·exact absurd ⟨m,hm,hmd,h4⟩ h
  exact key n ⟨n,hn,Nat.dvd_refl n,Zf n⟩
 obtain ⟨r,h1,h2,h3⟩:=ex
 have hr:Pr r:=⟨h1,fun m hm => by
  have hm0:0 < m:=Nat.pos_of_dvd_of_pos hm (by omega)
  rcases Yc m 2 with h | h
  ·left; omega
  ·have:=h3 m h (Qze hm h2)
   have:=Gf (by omega) hm
   right; omega⟩
 refine ⟨r,hr,h2,?_⟩
 obtain ⟨k,rfl⟩:=h2
 rcases Yc k 2 with h | h
 ·have:k = 1:=by
   rcases W5 k with h0 | h0
   ·subst h0; omega
   ·omega
  subst this
  rw [X6]; exact .inl hr
 ·exact .inr (Df r (h3 k h (Qo4 k r)))
def pw (m a:Nat):Nat → Nat → Nat
 | 0,_ => 1 % m
 | f + 1,e => if e % 2 = 1 then (pw m a f (e / 2)) * (pw m a f (e / 2)) % m * a % m else (pw m a f (e / 2)) * (pw m a f (e / 2)) % m
theorem Q4a (m a:Nat):∀ (f e:Nat),e < 2 ^ f → pw m a f e = a ^ e % m
 | 0,e,h => by
  have:e = 0:=by simpa using h
  subst this; rfl
 | f + 1,e,h => by
  have ih:=Q4a m a f (e / 2) (by rw [Vt] at h; omega)
  have hs:a ^ (e / 2) % m * (a ^ (e / 2) % m) % m = a ^ (2 * (e / 2)) % m:=by
   rw [← R5,← Wl]; congr 2; omega
  unfold pw
  rw [ih]
  by_cases he:e % 2 = 1
  ·rw [if_pos he,hs,Tu,← Vt]
   congr 2; omega
  ·rw [if_neg he,hs]
   congr 2; omega
def pwf (m a:Nat):Nat → Nat → Nat
 | 0,_ => 1 % m
 | f + 1,e => (fun r => if e % 2 = 1 then r * r % m * a % m else r * r % m) (pwf m a f (e / 2))
theorem Q0a {r:Nat} (hr:2 ≤ r) (b x y:Nat):b ^ x % r = 1 → b ^ y % r = 1 → b ^ (Qgy x y) % r = 1:=by
 induction x,y using Nat.gcd.induction with
 | H0 y => intro _ h; rwa [Nat.gcd_zero_left]
 | H1 x y hx ih =>
  intro h1 h2
  rw [Nat.gcd_rec]
  refine ih ?_ h1
  have h3:b ^ (x * (y / x) + y % x) % r = 1:=by rw [Yb]; exact h2
  rw [Wl,Ys,R5,Q7t (b ^ x),h1,Nat.one_pow,Z2 (a:=1) (by omega),Uw,Qcj] at h3
  exact h3
theorem Q6e {n q k a r:Nat} (hq:Pr q) (hk:n = q * k + 1) (h1:a ^ (q * k) % n = 1) (h2:Qgy (a ^ k % n + n - 1) n = 1) (hr:Pr r) (hrn:r ∣ n):q ∣ r - 1:=by
 have hr2:=hr.1
 have hn0:0 < n:=by omega
 have hn2:r ≤ n:=Gf hn0 hrn
 have hmodr:∀ x,x % n % r = x % r:=fun x => D0 x hrn
 have hb1:a ^ (q * k) % r = 1:=by rw [← hmodr,h1,Z2 (by omega)]
 have hra:¬ r ∣ a:=fun h => by
  have hqk:0 < q * k:=by
   rcases W5 (q * k) with h0 | h0
   ·omega
   ·exact h0
  have:r ∣ a ^ (q * k):=by
   obtain ⟨m,hm⟩:∃ m,q * k = m + 1:=⟨q * k - 1,by omega⟩
   rw [hm,Vt]
   exact Qze h (Qo4 a _)
  have:=Qel this
  omega
 have hf:=Qfj hr hra
 by_cases hqd:q ∣ r - 1
 ·exact hqd
 ·exfalso
  have hc:=hq.coprime hqd
  have hpow:∀ x:Nat,∀ c,c % r = 1 → c ^ x % r = 1:=fun x c hcx => by rw [Q7t,hcx,Nat.one_pow,Z2 (by omega)]
  have hk1:(a ^ k) ^ q % r = 1:=by rw [← Ys,Vp k q]; exact hb1
  have hk2:(a ^ k) ^ (r - 1) % r = 1:=by rw [← Ys,Vp k,Ys]; exact hpow k _ hf
  have hak:a ^ k % r = 1:=by
   have:=Q0a hr2 (a ^ k) q (r - 1) hk1 hk2
   rwa [hc,Nat.pow_one] at this
  have hdvd:r ∣ a ^ k % n + n - 1:=by
   have e3:a ^ k % n % r = 1:=by rw [hmodr]; exact hak
   have e4:1 ≤ a ^ k % n:=by
    rcases W5 (a ^ k % n) with h0 | h0
    ·rw [h0,Nat.zero_mod] at e3; omega
    ·exact h0
   have e5:r ∣ a ^ k % n - 1:=by
    apply Mb
    exact R4 (by rw [e3,Z2 (by omega)])
   rw [show a ^ k % n + n - 1 = (a ^ k % n - 1) + n by omega]
   exact Nat.dvd_add e5 hrn
  have:=Nat.dvd_gcd hdvd hrn
  rw [h2] at this
  have:=Gf (by decide) this
  omega
theorem Qwo {n q k a:Nat} (hn:2 ≤ n) (hq:Pr q) (hk:n = q * k + 1) (hbig:n < q * q) (h1:a ^ (q * k) % n = 1) (h2:Qgy (a ^ k % n + n - 1) n = 1):Pr n:=by
 obtain ⟨r,hr,hrn,h | h⟩:=Qfg hn
 ·exact h
 ·have h3:=Q6e hq hk h1 h2 hr hrn
  have:=hr.1
  have h4:=Gf (by omega) h3
  have:q * q ≤ r * r:=Wm (by omega) (by omega)
  omega
theorem Qwn {n q k a q' k' a':Nat} (hn:2 ≤ n) (hq:Pr q) (hk:n = q * k + 1) (hq':Pr q') (hk':n = q' * k' + 1) (hne:q ≠ q') (hbig:n < (q * q') * (q * q')) (h1:a ^ (q * k) % n = 1) (h2:Qgy (a ^ k % n + n - 1) n = 1)
  (h1':a' ^ (q' * k') % n = 1) (h2':Qgy (a' ^ k' % n + n - 1) n = 1):Pr n:=by
 obtain ⟨r,hr,hrn,h | h⟩:=Qfg hn
 ·exact h
 ·have h3:=Q6e hq hk h1 h2 hr hrn
  have h3':=Q6e hq' hk' h1' h2' hr hrn
  have hc:Q7w q q':=hq.coprime fun hd => by
   rcases hq'.2 q hd with h | h
   ·have:=hq.1; omega
   ·exact hne h
  have h5:=hc.mul_dvd_of_dvd_of_dvd h3 h3'
  have:=hr.1
  have h4:=Gf (by omega) h5
  have:(q * q') * (q * q') ≤ r * r:=Wm (by omega) (by omega)
  omega
def Qrn (n:Nat):Nat → Nat → Bool
 | 0,_ => true
 | f + 1,m => (n % m != 0) && Qrn n f (m + 1)
theorem Qh3 {n:Nat}:∀ (f m:Nat),Qrn n f m = true → ∀ x,m ≤ x → x < m + f → n % x ≠ 0
 | 0,m,_,x,h1,h2 => by omega
 | f + 1,m,h,x,h1,h2 => by
  simp only [Qrn,Yf,bne_iff_ne] at h
  rcases Nat.eq_or_lt_of_le h1 with h3 | h3
  ·subst h3; exact h.1
  ·exact Qh3 f (m + 1) h.2 x h3 (by omega)
theorem B3 {n f:Nat} (hn:2 ≤ n) (hf:n < (f + 2) * (f + 2)) (h:Qrn n f 2 = true):Pr n:=by
 obtain ⟨r,hr,hrn,h1 | h1⟩:=Qfg hn
 ·exact h1
 ·have hr2:=hr.1
  have:r < 2 + f:=by
   rcases Yc r (2 + f) with h2 | h2
   ·exact h2
   ·have:(f + 2) * (f + 2) ≤ r * r:=Wm (by omega) (by omega)
    omega
  exact absurd (Qel hrn) (Qh3 f 2 h r hr2 this)
end Go.NT
set_option linter.unusedSimpArgs false
set_option linter.unusedVariables false
namespace Go.Cv
section
variable {n:Nat} [NeZero n]
structure Fld (n:Nat) [NeZero n] (iv:Fin n → Fin n) (d i:Fin n):Prop where
 inv:∀ a:Fin n,a ≠ 0 → a * iv a = 1
 iv0:iv 0 = 0
 one:(1:Fin n) ≠ 0
 two:(2:Fin n) ≠ 0
 root:i * i = -1
 nosq:∀ r:Fin n,r * r ≠ d
variable {iv:Fin n → Fin n} {d i:Fin n} (F:Fld n iv d i)
include F
theorem Fld.dom {a b:Fin n} (h:a * b = 0):a = 0 ∨ b = 0:=by
 by_cases ha:a = 0
 ·exact .inl ha
 ·have:=F.inv a ha
  exact .inr (by grobner)
theorem Fld.mul_ne {a b:Fin n} (ha:a ≠ 0) (hb:b ≠ 0):a * b ≠ 0:=fun h => by
 rcases F.dom h with h | h
 ·exact ha h
 ·exact hb h
theorem Fld.cancel {a b c:Fin n} (ha:a ≠ 0) (h:a * b = a * c):b = c:=by
 have:=F.inv a ha
 grobner
theorem Fld.noratio {u v:Fin n} (hv:v ≠ 0):u * u ≠ d * (v * v):=fun h => by
 have:=F.inv v hv
 apply F.nosq (u * iv v)
 grobner
omit F
def On (d x y:Fin n):Prop := -(x * x) + y * y = 1 + d * (x * x) * (y * y)
theorem On.sub {d x y:Fin n} (h:On d x y) : -(x * x) + y * y - 1 - d * (x * x) * (y * y) = 0:=by
 unfold On at h; grobner
theorem Qvk {L R a b c e:Fin n} (h:L - R = a * c + b * e) (hc:c = 0) (he:e = 0):L = R:=by
 subst hc he; grobner
theorem Qg9 {L R a b c e f g:Fin n} (h:L - R = a * c + b * e + f * g) (hc:c = 0) (he:e = 0) (hg:g = 0):L = R:=by
 subst hc he hg; grobner
theorem Qyv (d x1 y1 x2 y2:Fin n) : -((x1 * y2 + x2 * y1) * (x1 * y2 + x2 * y1) * ((1 - d * x1 * x2 * y1 * y2) * (1 - d * x1 * x2 * y1 * y2))) + (y1 * y2 + x1 * x2) * (y1 * y2 + x1 * x2) * ((1 + d * x1 * x2 * y1 * y2) * (1 + d * x1 * x2 * y1 * y2)) -
   (((1 + d * x1 * x2 * y1 * y2) * (1 - d * x1 * x2 * y1 * y2)) * ((1 + d * x1 * x2 * y1 * y2) * (1 - d * x1 * x2 * y1 * y2)) + d * ((x1 * y2 + x2 * y1) * (x1 * y2 + x2 * y1)) * ((y1 * y2 + x1 * x2) * (y1 * y2 + x1 * x2))) =
   (d * d * d * x1 * x1 * x2 * x2 * x2 * x2 * y1 * y1 * y2 * y2 * y2 * y2 - d * d * x1 * x1 * x2 * x2 * x2 * x2 * y2 * y2 * y2 * y2 + d * d * x2 * x2 * x2 * x2 * y1 * y1 * y2 * y2 * y2 * y2 - d * d * x2 * x2 * x2 * x2 * y2 * y2 * y2 * y2 - d * x1 * x1 * x2 * x2 * x2 * x2 * y2 * y2 + d * x1 * x1 * x2 * x2 * y2 * y2 * y2 * y2 + d * x2 * x2 * x2 * x2 * y1 * y1 * y2 * y2 - 2 * d * x2 * x2 * x2 * x2 * y2 * y2 * y2 * y2 - d * x2 * x2 * y1 * y1 * y2 * y2 * y2 * y2 - 2 * d * x2 * x2 * y2 * y2 - 2 * x2 * x2 * x2 * x2 * y2 * y2 + x2 * x2 * x2 * x2 + 2 * x2 * x2 * y2 * y2 * y2 * y2 - 4 * x2 * x2 * y2 * y2 + y2 * y2 * y2 * y2) * (-(x1 * x1) + y1 * y1 - 1 - d * (x1 * x1) * (y1 * y1)) + (d * x1 * x1 * x1 * x1 * x2 * x2 * y2 * y2 + 2 * d * x1 * x1 * x2 * x2 * y2 * y2 + d * x2 * x2 * y1 * y1 * y1 * y1 * y2 * y2 - 2 * d * x2 * x2 * y1 * y1 * y2 * y2 + d * x2 * x2 * y2 * y2 + 2 * x1 * x1 * x2 * x2 * y2 * y2 - x1 * x1 * x2 * x2 + x1 * x1 * y2 * y2 - 2 * x2 * x2 * y1 * y1 * y2 * y2 + x2 * x2 * y1 * y1 + 2 * x2 * x2 * y2 * y2 - x2 * x2 - y1 * y1 * y2 * y2 + y2 * y2 + 1) * (-(x2 * x2) + y2 * y2 - 1 - d * (x2 * x2) * (y2 * y2)):=by grobner
theorem Q7s (d x1 y1 x2 y2 x3 y3:Fin n):((x1 * y2 + x2 * y1) * (1 - d * x1 * x2 * y1 * y2) * y3 + x3 * (y1 * y2 + x1 * x2) * (1 + d * x1 * x2 * y1 * y2)) * ((1 + d * x2 * x3 * y2 * y3) * (1 - d * x2 * x3 * y2 * y3) + d * (x2 * y3 + x3 * y2) * (y2 * y3 + x2 * x3) * x1 * y1) -
   (x1 * (y2 * y3 + x2 * x3) * (1 + d * x2 * x3 * y2 * y3) + (x2 * y3 + x3 * y2) * (1 - d * x2 * x3 * y2 * y3) * y1) * ((1 + d * x1 * x2 * y1 * y2) * (1 - d * x1 * x2 * y1 * y2) + d * (x1 * y2 + x2 * y1) * (y1 * y2 + x1 * x2) * x3 * y3) =
   (-d * d * x1 * x2 * x2 * x2 * x2 * x3 * x3 * y2 * y2 * y2 * y3 - d * d * x1 * x2 * x2 * x2 * x3 * y2 * y2 * y2 * y2 * y3 * y3 + d * d * x2 * x2 * x2 * x2 * x3 * y1 * y2 * y2 * y2 * y3 * y3 + d * d * x2 * x2 * x2 * x3 * x3 * y1 * y2 * y2 * y2 * y2 * y3 - d * x1 * x2 * x2 * x2 * x2 * x3 * x3 * y2 * y3 - d * x1 * x2 * x2 * x2 * x3 * x3 * x3 * y2 * y2 - d * x1 * x2 * x2 * x2 * x3 * y2 * y2 + d * x1 * x2 * x2 * y2 * y2 * y2 * y3 * y3 * y3 - d * x1 * x2 * x2 * y2 * y2 * y2 * y3 + d * x1 * x2 * x3 * y2 * y2 * y2 * y2 * y3 * y3 + d * x2 * x2 * x2 * x2 * x3 * y1 * y2 * y3 * y3 + d * x2 * x2 * x2 * y1 * y2 * y2 * y3 * y3 * y3 - d * x2 * x2 * x2 * y1 * y2 * y2 * y3 - d * x2 * x2 * x3 * x3 * x3 * y1 * y2 * y2 * y2 - d * x2 * x2 * x3 * y1 * y2 * y2 * y2 - d * x2 * x3 * x3 * y1 * y2 * y2 * y2 * y2 * y3) * (-(x1 * x1) + y1 * y1 - 1 - d * (x1 * x1) * (y1 * y1)) + (d * d * x1 * x1 * x2 * x2 * x3 * x3 * x3 * y1 * y2 * y3 * y3 - d * d * x1 * x1 * x2 * x3 * x3 * y1 * y2 * y2 * y3 * y3 * y3 - d * d * x1 * x2 * x2 * x3 * x3 * y1 * y1 * y2 * y3 * y3 * y3 + d * d * x1 * x2 * x3 * x3 * x3 * y1 * y1 * y2 * y2 * y3 * y3 + d * x1 * x1 * x1 * x2 * x2 * x3 * x3 * y2 * y3 + d * x1 * x1 * x1 * x2 * x3 * x3 * x3 * y3 * y3 + d * x1 * x1 * x1 * x2 * x3 * y2 * y2 * y3 * y3 + d * x1 * x1 * x1 * x3 * x3 * y2 * y3 * y3 * y3 - d * x1 * x1 * x2 * x2 * x3 * y1 * y2 * y3 * y3 - d * x1 * x1 * x2 * x3 * x3 * y1 * y2 * y2 * y3 + d * x1 * x1 * x2 * x3 * x3 * y1 * y3 * y3 * y3 + d * x1 * x1 * x3 * x3 * x3 * y1 * y2 * y3 * y3 - d * x1 * x2 * x2 * x3 * x3 * y1 * y1 * y2 * y3 + d * x1 * x2 * x2 * x3 * x3 * y2 * y3 - d * x1 * x2 * x3 * x3 * x3 * y1 * y1 * y3 * y3 + d * x1 * x2 * x3 * x3 * x3 * y3 * y3 - d * x1 * x2 * x3 * y1 * y1 * y2 * y2 * y3 * y3 + d * x1 * x2 * x3 * y2 * y2 * y3 * y3 - d * x1 * x3 * x3 * y1 * y1 * y2 * y3 * y3 * y3 + d * x1 * x3 * x3 * y2 * y3 * y3 * y3 + d * x2 * x2 * x3 * y1 * y1 * y1 * y2 * y3 * y3 - d * x2 * x2 * x3 * y1 * y2 * y3 * y3 + d * x2 * x3 * x3 * y1 * y1 * y1 * y2 * y2 * y3 - d * x2 * x3 * x3 * y1 * y1 * y1 * y3 * y3 * y3 - d * x2 * x3 * x3 * y1 * y2 * y2 * y3 + d * x2 * x3 * x3 * y1 * y3 * y3 * y3 - d * x3 * x3 * x3 * y1 * y1 * y1 * y2 * y3 * y3 + d * x3 * x3 * x3 * y1 * y2 * y3 * y3 + x1 * x1 * x1 * x2 * x3 * x3 * x3 - x1 * x1 * x1 * x2 * x3 * y3 * y3 + x1 * x1 * x1 * x2 * x3 + x1 * x1 * x1 * x3 * x3 * y2 * y3 - x1 * x1 * x1 * y2 * y3 * y3 * y3 + x1 * x1 * x1 * y2 * y3 + x1 * x1 * x2 * x3 * x3 * y1 * y3 - x1 * x1 * x2 * y1 * y3 * y3 * y3 + x1 * x1 * x2 * y1 * y3 + x1 * x1 * x3 * x3 * x3 * y1 * y2 - x1 * x1 * x3 * y1 * y2 * y3 * y3 + x1 * x1 * x3 * y1 * y2 - x1 * x2 * x3 * x3 * x3 * y1 * y1 + x1 * x2 * x3 * x3 * x3 + x1 * x2 * x3 * y1 * y1 * y3 * y3 - x1 * x2 * x3 * y1 * y1 - x1 * x2 * x3 * y3 * y3 + x1 * x2 * x3 - x1 * x3 * x3 * y1 * y1 * y2 * y3 + x1 * x3 * x3 * y2 * y3 + x1 * y1 * y1 * y2 * y3 * y3 * y3 - x1 * y1 * y1 * y2 * y3 - x1 * y2 * y3 * y3 * y3 + x1 * y2 * y3 - x2 * x3 * x3 * y1 * y1 * y1 * y3 + x2 * x3 * x3 * y1 * y3 + x2 * y1 * y1 * y1 * y3 * y3 * y3 - x2 * y1 * y1 * y1 * y3 - x2 * y1 * y3 * y3 * y3 + x2 * y1 * y3 - x3 * x3 * x3 * y1 * y1 * y1 * y2 + x3 * x3 * x3 * y1 * y2 + x3 * y1 * y1 * y1 * y2 * y3 * y3 - x3 * y1 * y1 * y1 * y2 - x3 * y1 * y2 * y3 * y3 + x3 * y1 * y2) * (-(x2 * x2) + y2 * y2 - 1 - d * (x2 * x2) * (y2 * y2)) + (-d * x1 * x1 * x2 * x2 * x3 * y1 * y2 + d * x1 * x1 * x2 * y1 * y2 * y2 * y3 + d * x1 * x2 * x2 * y1 * y1 * y2 * y3 - d * x1 * x2 * x3 * y1 * y1 * y2 * y2 - x1 * x1 * x1 * x2 * x2 * x2 * x3 - x1 * x1 * x1 * x2 * x2 * y2 * y3 + x1 * x1 * x1 * x2 * x3 * y2 * y2 - x1 * x1 * x1 * x2 * x3 + x1 * x1 * x1 * y2 * y2 * y2 * y3 - x1 * x1 * x1 * y2 * y3 - x1 * x1 * x2 * x2 * x2 * y1 * y3 - x1 * x1 * x2 * x2 * x3 * y1 * y2 + x1 * x1 * x2 * y1 * y2 * y2 * y3 - x1 * x1 * x2 * y1 * y3 + x1 * x1 * x3 * y1 * y2 * y2 * y2 - x1 * x1 * x3 * y1 * y2 + x1 * x2 * x2 * x2 * x3 * y1 * y1 - x1 * x2 * x2 * x2 * x3 + x1 * x2 * x2 * y1 * y1 * y2 * y3 - x1 * x2 * x2 * y2 * y3 - x1 * x2 * x3 * y1 * y1 * y2 * y2 + x1 * x2 * x3 * y1 * y1 + x1 * x2 * x3 * y2 * y2 - x1 * x2 * x3 - x1 * y1 * y1 * y2 * y2 * y2 * y3 + x1 * y1 * y1 * y2 * y3 + x1 * y2 * y2 * y2 * y3 - x1 * y2 * y3 + x2 * x2 * x2 * y1 * y1 * y1 * y3 - x2 * x2 * x2 * y1 * y3 + x2 * x2 * x3 * y1 * y1 * y1 * y2 - x2 * x2 * x3 * y1 * y2 - x2 * y1 * y1 * y1 * y2 * y2 * y3 + x2 * y1 * y1 * y1 * y3 + x2 * y1 * y2 * y2 * y3 - x2 * y1 * y3 - x3 * y1 * y1 * y1 * y2 * y2 * y2 + x3 * y1 * y1 * y1 * y2 + x3 * y1 * y2 * y2 * y2 - x3 * y1 * y2) * (-(x3 * x3) + y3 * y3 - 1 - d * (x3 * x3) * (y3 * y3)):=by grobner
theorem Q7r (d x1 y1 x2 y2 x3 y3:Fin n):((y1 * y2 + x1 * x2) * (1 + d * x1 * x2 * y1 * y2) * y3 + (x1 * y2 + x2 * y1) * (1 - d * x1 * x2 * y1 * y2) * x3) * ((1 + d * x2 * x3 * y2 * y3) * (1 - d * x2 * x3 * y2 * y3) - d * (x2 * y3 + x3 * y2) * (y2 * y3 + x2 * x3) * x1 * y1) -
   (y1 * (y2 * y3 + x2 * x3) * (1 + d * x2 * x3 * y2 * y3) + x1 * (x2 * y3 + x3 * y2) * (1 - d * x2 * x3 * y2 * y3)) * ((1 + d * x1 * x2 * y1 * y2) * (1 - d * x1 * x2 * y1 * y2) - d * (x1 * y2 + x2 * y1) * (y1 * y2 + x1 * x2) * x3 * y3) =
   (d * d * x1 * x2 * x2 * x2 * x2 * x3 * y2 * y2 * y2 * y3 * y3 + d * d * x1 * x2 * x2 * x2 * x3 * x3 * y2 * y2 * y2 * y2 * y3 - d * d * x2 * x2 * x2 * x2 * x3 * x3 * y1 * y2 * y2 * y2 * y3 - d * d * x2 * x2 * x2 * x3 * y1 * y2 * y2 * y2 * y2 * y3 * y3 + d * x1 * x2 * x2 * x2 * x2 * x3 * y2 * y3 * y3 + d * x1 * x2 * x2 * x2 * y2 * y2 * y3 * y3 * y3 - d * x1 * x2 * x2 * x2 * y2 * y2 * y3 - d * x1 * x2 * x2 * x3 * x3 * x3 * y2 * y2 * y2 - d * x1 * x2 * x2 * x3 * y2 * y2 * y2 - d * x1 * x2 * x3 * x3 * y2 * y2 * y2 * y2 * y3 - d * x2 * x2 * x2 * x2 * x3 * x3 * y1 * y2 * y3 - d * x2 * x2 * x2 * x3 * x3 * x3 * y1 * y2 * y2 - d * x2 * x2 * x2 * x3 * y1 * y2 * y2 + d * x2 * x2 * y1 * y2 * y2 * y2 * y3 * y3 * y3 - d * x2 * x2 * y1 * y2 * y2 * y2 * y3 + d * x2 * x3 * y1 * y2 * y2 * y2 * y2 * y3 * y3) * (-(x1 * x1) + y1 * y1 - 1 - d * (x1 * x1) * (y1 * y1)) + (d * d * x1 * x1 * x2 * x2 * x3 * x3 * y1 * y2 * y3 * y3 * y3 - d * d * x1 * x1 * x2 * x3 * x3 * x3 * y1 * y2 * y2 * y3 * y3 - d * d * x1 * x2 * x2 * x3 * x3 * x3 * y1 * y1 * y2 * y3 * y3 + d * d * x1 * x2 * x3 * x3 * y1 * y1 * y2 * y2 * y3 * y3 * y3 - d * x1 * x1 * x1 * x2 * x2 * x3 * y2 * y3 * y3 - d * x1 * x1 * x1 * x2 * x3 * x3 * y2 * y2 * y3 + d * x1 * x1 * x1 * x2 * x3 * x3 * y3 * y3 * y3 + d * x1 * x1 * x1 * x3 * x3 * x3 * y2 * y3 * y3 + d * x1 * x1 * x2 * x2 * x3 * x3 * y1 * y2 * y3 + d * x1 * x1 * x2 * x3 * x3 * x3 * y1 * y3 * y3 + d * x1 * x1 * x2 * x3 * y1 * y2 * y2 * y3 * y3 + d * x1 * x1 * x3 * x3 * y1 * y2 * y3 * y3 * y3 + d * x1 * x2 * x2 * x3 * y1 * y1 * y2 * y3 * y3 - d * x1 * x2 * x2 * x3 * y2 * y3 * y3 + d * x1 * x2 * x3 * x3 * y1 * y1 * y2 * y2 * y3 - d * x1 * x2 * x3 * x3 * y1 * y1 * y3 * y3 * y3 - d * x1 * x2 * x3 * x3 * y2 * y2 * y3 + d * x1 * x2 * x3 * x3 * y3 * y3 * y3 - d * x1 * x3 * x3 * x3 * y1 * y1 * y2 * y3 * y3 + d * x1 * x3 * x3 * x3 * y2 * y3 * y3 - d * x2 * x2 * x3 * x3 * y1 * y1 * y1 * y2 * y3 + d * x2 * x2 * x3 * x3 * y1 * y2 * y3 - d * x2 * x3 * x3 * x3 * y1 * y1 * y1 * y3 * y3 + d * x2 * x3 * x3 * x3 * y1 * y3 * y3 - d * x2 * x3 * y1 * y1 * y1 * y2 * y2 * y3 * y3 + d * x2 * x3 * y1 * y2 * y2 * y3 * y3 - d * x3 * x3 * y1 * y1 * y1 * y2 * y3 * y3 * y3 + d * x3 * x3 * y1 * y2 * y3 * y3 * y3 + x1 * x1 * x1 * x2 * x3 * x3 * y3 - x1 * x1 * x1 * x2 * y3 * y3 * y3 + x1 * x1 * x1 * x2 * y3 + x1 * x1 * x1 * x3 * x3 * x3 * y2 - x1 * x1 * x1 * x3 * y2 * y3 * y3 + x1 * x1 * x1 * x3 * y2 + x1 * x1 * x2 * x3 * x3 * x3 * y1 - x1 * x1 * x2 * x3 * y1 * y3 * y3 + x1 * x1 * x2 * x3 * y1 + x1 * x1 * x3 * x3 * y1 * y2 * y3 - x1 * x1 * y1 * y2 * y3 * y3 * y3 + x1 * x1 * y1 * y2 * y3 - x1 * x2 * x3 * x3 * y1 * y1 * y3 + x1 * x2 * x3 * x3 * y3 + x1 * x2 * y1 * y1 * y3 * y3 * y3 - x1 * x2 * y1 * y1 * y3 - x1 * x2 * y3 * y3 * y3 + x1 * x2 * y3 - x1 * x3 * x3 * x3 * y1 * y1 * y2 + x1 * x3 * x3 * x3 * y2 + x1 * x3 * y1 * y1 * y2 * y3 * y3 - x1 * x3 * y1 * y1 * y2 - x1 * x3 * y2 * y3 * y3 + x1 * x3 * y2 - x2 * x3 * x3 * x3 * y1 * y1 * y1 + x2 * x3 * x3 * x3 * y1 + x2 * x3 * y1 * y1 * y1 * y3 * y3 - x2 * x3 * y1 * y1 * y1 - x2 * x3 * y1 * y3 * y3 + x2 * x3 * y1 - x3 * x3 * y1 * y1 * y1 * y2 * y3 + x3 * x3 * y1 * y2 * y3 + y1 * y1 * y1 * y2 * y3 * y3 * y3 - y1 * y1 * y1 * y2 * y3 - y1 * y2 * y3 * y3 * y3 + y1 * y2 * y3) * (-(x2 * x2) + y2 * y2 - 1 - d * (x2 * x2) * (y2 * y2)) + (-d * x1 * x1 * x2 * x2 * y1 * y2 * y3 + d * x1 * x1 * x2 * x3 * y1 * y2 * y2 + d * x1 * x2 * x2 * x3 * y1 * y1 * y2 - d * x1 * x2 * y1 * y1 * y2 * y2 * y3 - x1 * x1 * x1 * x2 * x2 * x2 * y3 - x1 * x1 * x1 * x2 * x2 * x3 * y2 + x1 * x1 * x1 * x2 * y2 * y2 * y3 - x1 * x1 * x1 * x2 * y3 + x1 * x1 * x1 * x3 * y2 * y2 * y2 - x1 * x1 * x1 * x3 * y2 - x1 * x1 * x2 * x2 * x2 * x3 * y1 - x1 * x1 * x2 * x2 * y1 * y2 * y3 + x1 * x1 * x2 * x3 * y1 * y2 * y2 - x1 * x1 * x2 * x3 * y1 + x1 * x1 * y1 * y2 * y2 * y2 * y3 - x1 * x1 * y1 * y2 * y3 + x1 * x2 * x2 * x2 * y1 * y1 * y3 - x1 * x2 * x2 * x2 * y3 + x1 * x2 * x2 * x3 * y1 * y1 * y2 - x1 * x2 * x2 * x3 * y2 - x1 * x2 * y1 * y1 * y2 * y2 * y3 + x1 * x2 * y1 * y1 * y3 + x1 * x2 * y2 * y2 * y3 - x1 * x2 * y3 - x1 * x3 * y1 * y1 * y2 * y2 * y2 + x1 * x3 * y1 * y1 * y2 + x1 * x3 * y2 * y2 * y2 - x1 * x3 * y2 + x2 * x2 * x2 * x3 * y1 * y1 * y1 - x2 * x2 * x2 * x3 * y1 + x2 * x2 * y1 * y1 * y1 * y2 * y3 - x2 * x2 * y1 * y2 * y3 - x2 * x3 * y1 * y1 * y1 * y2 * y2 + x2 * x3 * y1 * y1 * y1 + x2 * x3 * y1 * y2 * y2 - x2 * x3 * y1 - y1 * y1 * y1 * y2 * y2 * y2 * y3 + y1 * y1 * y1 * y2 * y3 + y1 * y2 * y2 * y2 * y3 - y1 * y2 * y3) * (-(x3 * x3) + y3 * y3 - 1 - d * (x3 * x3) * (y3 * y3)):=by grobner
include F
theorem Fld.den {x1 y1 x2 y2:Fin n} (h1:On d x1 y1) (h2:On d x2 y2) (e:Fin n) (he:e * e = 1):d * x1 * x2 * y1 * y2 ≠ e:=fun hD => by
 unfold On at h1 h2
 have h10:=F.one
 have hr:=F.root
 have hx1:x1 ≠ 0:=fun h => by subst h; grobner
 have hy1:y1 ≠ 0:=fun h => by subst h; grobner
 have hx2:x2 ≠ 0:=fun h => by subst h; grobner
 have key:d * (x1 * x1) * (y1 * y1) * (y2 * y2 - x2 * x2) = y1 * y1 - x1 * x1:=by grobner
 have h3:(y1 + e * i * x1) * (y1 + e * i * x1) = d * ((x1 * y1 * (y2 + i * x2)) * (x1 * y1 * (y2 + i * x2))):=by grobner
 have h4:(y1 - e * i * x1) * (y1 - e * i * x1) = d * ((x1 * y1 * (y2 - i * x2)) * (x1 * y1 * (y2 - i * x2))):=by grobner
 by_cases ha:y2 + i * x2 = 0
 ·by_cases hb:y2 - i * x2 = 0
  ·have hi:i ≠ 0:=fun h => by subst h; grobner
   have:(2:Fin n) * (i * x2) = 0:=by grobner
   exact F.mul_ne F.two (F.mul_ne hi hx2) this
  ·exact F.noratio (F.mul_ne (F.mul_ne hx1 hy1) hb) h4
 ·exact F.noratio (F.mul_ne (F.mul_ne hx1 hy1) ha) h3
theorem Fld.denP {x1 y1 x2 y2:Fin n} (h1:On d x1 y1) (h2:On d x2 y2):1 + d * x1 * x2 * y1 * y2 ≠ 0:=fun h =>
 F.den h1 h2 (-1) (by grobner) (by grobner)
theorem Fld.denM {x1 y1 x2 y2:Fin n} (h1:On d x1 y1) (h2:On d x2 y2):1 - d * x1 * x2 * y1 * y2 ≠ 0:=fun h =>
 F.den h1 h2 1 (by grobner) (by grobner)
theorem Qbi {x1 y1 x2 y2:Fin n} (h1:On d x1 y1) (h2:On d x2 y2) {a b:Fin n} (ha:a * (1 + d * x1 * x2 * y1 * y2) = x1 * y2 + x2 * y1) (hb:b * (1 - d * x1 * x2 * y1 * y2) = y1 * y2 + x1 * x2):On d a b:=by
 have hp:=F.denP h1 h2
 have hm:=F.denM h1 h2
 have hC : -((x1 * y2 + x2 * y1) * (x1 * y2 + x2 * y1) * ((1 - d * x1 * x2 * y1 * y2) * (1 - d * x1 * x2 * y1 * y2))) + (y1 * y2 + x1 * x2) * (y1 * y2 + x1 * x2) * ((1 + d * x1 * x2 * y1 * y2) * (1 + d * x1 * x2 * y1 * y2)) =
   ((1 + d * x1 * x2 * y1 * y2) * (1 - d * x1 * x2 * y1 * y2)) * ((1 + d * x1 * x2 * y1 * y2) * (1 - d * x1 * x2 * y1 * y2)) + d * ((x1 * y2 + x2 * y1) * (x1 * y2 + x2 * y1)) * ((y1 * y2 + x1 * x2) * (y1 * y2 + x1 * x2)):=by
  exact Qvk (Qyv d x1 y1 x2 y2) h1.sub h2.sub
 unfold On
 have hp2:=F.mul_ne (F.mul_ne hp hm) (F.mul_ne hp hm)
 refine F.cancel hp2 ?_
 rw [← ha,← hb] at hC
 generalize 1 + d * x1 * x2 * y1 * y2 = p at *
 generalize 1 - d * x1 * x2 * y1 * y2 = m at *
 clear ha hb hp hm hp2 h1 h2
 grobner
theorem Qqv {x1 y1 x2 y2 x3 y3 a b a' b' u v u' v':Fin n} (h1:On d x1 y1) (h2:On d x2 y2) (h3:On d x3 y3)
  (ha:a * (1 + d * x1 * x2 * y1 * y2) = x1 * y2 + x2 * y1) (hb:b * (1 - d * x1 * x2 * y1 * y2) = y1 * y2 + x1 * x2)
  (ha':a' * (1 + d * x2 * x3 * y2 * y3) = x2 * y3 + x3 * y2) (hb':b' * (1 - d * x2 * x3 * y2 * y3) = y2 * y3 + x2 * x3)
  (hu:u * (1 + d * a * x3 * b * y3) = a * y3 + x3 * b) (hv:v * (1 - d * a * x3 * b * y3) = b * y3 + a * x3)
  (hu':u' * (1 + d * x1 * a' * y1 * b') = x1 * b' + a' * y1) (hv':v' * (1 - d * x1 * a' * y1 * b') = y1 * b' + x1 * a'):u = u' ∧ v = v':=by
 have o12:=Qbi F h1 h2 ha hb
 have o23:=Qbi F h2 h3 ha' hb'
 have hp:=F.denP h1 h2
 have hm:=F.denM h1 h2
 have hp':=F.denP h2 h3
 have hm':=F.denM h2 h3
 have kp:=F.denP o12 h3
 have km:=F.denM o12 h3
 have kp':=F.denP h1 o23
 have km':=F.denM h1 o23
 have e1:=h1.sub
 have e2:=h2.sub
 have e3:=h3.sub
 clear h1 h2 h3 o12 o23
 have hX:((x1 * y2 + x2 * y1) * (1 - d * x1 * x2 * y1 * y2) * y3 + x3 * (y1 * y2 + x1 * x2) * (1 + d * x1 * x2 * y1 * y2)) * ((1 + d * x2 * x3 * y2 * y3) * (1 - d * x2 * x3 * y2 * y3) + d * (x2 * y3 + x3 * y2) * (y2 * y3 + x2 * x3) * x1 * y1) =
   (x1 * (y2 * y3 + x2 * x3) * (1 + d * x2 * x3 * y2 * y3) + (x2 * y3 + x3 * y2) * (1 - d * x2 * x3 * y2 * y3) * y1) * ((1 + d * x1 * x2 * y1 * y2) * (1 - d * x1 * x2 * y1 * y2) + d * (x1 * y2 + x2 * y1) * (y1 * y2 + x1 * x2) * x3 * y3):=by
  exact Qg9 (Q7s d x1 y1 x2 y2 x3 y3) e1 e2 e3
 have hY:((y1 * y2 + x1 * x2) * (1 + d * x1 * x2 * y1 * y2) * y3 + (x1 * y2 + x2 * y1) * (1 - d * x1 * x2 * y1 * y2) * x3) * ((1 + d * x2 * x3 * y2 * y3) * (1 - d * x2 * x3 * y2 * y3) - d * (x2 * y3 + x3 * y2) * (y2 * y3 + x2 * x3) * x1 * y1) =
   (y1 * (y2 * y3 + x2 * x3) * (1 + d * x2 * x3 * y2 * y3) + x1 * (x2 * y3 + x3 * y2) * (1 - d * x2 * x3 * y2 * y3)) * ((1 + d * x1 * x2 * y1 * y2) * (1 - d * x1 * x2 * y1 * y2) - d * (x1 * y2 + x2 * y1) * (y1 * y2 + x1 * x2) * x3 * y3):=by
  exact Qg9 (Q7r d x1 y1 x2 y2 x3 y3) e1 e2 e3
 clear e1 e2 e3
 rw [← ha,← hb,← ha',← hb'] at hX hY
 have hp2:=F.mul_ne hp hm
 have hp2':=F.mul_ne hp' hm'
 generalize 1 + d * x1 * x2 * y1 * y2 = p at *
 generalize 1 - d * x1 * x2 * y1 * y2 = m at *
 generalize 1 + d * x2 * x3 * y2 * y3 = p' at *
 generalize 1 - d * x2 * x3 * y2 * y3 = m' at *
 clear ha hb ha' hb' hp hm hp' hm' x2 y2
 have f1:a * p * m * y3 + x3 * (b * m) * p = (p * m) * (a * y3 + x3 * b):=by grobner
 have f2:p' * m' + d * (a' * p') * (b' * m') * x1 * y1 = (p' * m') * (1 + d * x1 * a' * y1 * b'):=by grobner
 have f3:x1 * (b' * m') * p' + a' * p' * m' * y1 = (p' * m') * (x1 * b' + a' * y1):=by grobner
 have f4:p * m + d * (a * p) * (b * m) * x3 * y3 = (p * m) * (1 + d * a * x3 * b * y3):=by grobner
 have f5:b * m * p * y3 + a * p * m * x3 = (p * m) * (b * y3 + a * x3):=by grobner
 have f6:p' * m' - d * (a' * p') * (b' * m') * x1 * y1 = (p' * m') * (1 - d * x1 * a' * y1 * b'):=by grobner
 have f7:y1 * (b' * m') * p' + x1 * (a' * p') * m' = (p' * m') * (y1 * b' + x1 * a'):=by grobner
 have f8:p * m - d * (a * p) * (b * m) * x3 * y3 = (p * m) * (1 - d * a * x3 * b * y3):=by grobner
 rw [f1,f2,f3,f4,← hu,← hu'] at hX
 rw [f5,f6,f7,f8,← hv,← hv'] at hY
 clear f1 f2 f3 f4 f5 f6 f7 f8 hu hu' hv hv'
 generalize 1 + d * x1 * a' * y1 * b' = k' at *
 generalize 1 + d * a * x3 * b * y3 = k at *
 generalize 1 - d * x1 * a' * y1 * b' = l' at *
 generalize 1 - d * a * x3 * b * y3 = l at *
 generalize p * m = s at *
 generalize p' * m' = s' at *
 constructor
 ·refine F.cancel (a:=s * s' * k * k') (F.mul_ne (F.mul_ne (F.mul_ne hp2 hp2') kp) kp') ?_
  grobner
 ·refine F.cancel (a:=s * s' * l * l') (F.mul_ne (F.mul_ne (F.mul_ne hp2 hp2') km) km') ?_
  grobner
omit F
end
structure Pt (n:Nat) [NeZero n] (d:Fin n) where
 x:Fin n
 y:Fin n
 on:On d x y
theorem Pt.ext {n:Nat} [NeZero n] {d:Fin n} {p q:Pt n d} (hx:p.x = q.x) (hy:p.y = q.y):p = q:=by
 cases p; cases q; cases hx; cases hy; rfl
section
variable {n:Nat} [NeZero n] {iv:Fin n → Fin n} {d i:Fin n} (F:Fld n iv d i)
def Pt.zero:Pt n d:=⟨0,1,by unfold On; grobner⟩
def Pt.neg (p:Pt n d):Pt n d:=⟨-p.x,p.y,by have:=p.on; unfold On at *; grobner⟩
def Pt.add (p q:Pt n d):Pt n d :=
 ⟨(p.x * q.y + q.x * p.y) * iv (1 + d * p.x * q.x * p.y * q.y),(p.y * q.y + p.x * q.x) * iv (1 - d * p.x * q.x * p.y * q.y),
  Qbi F p.on q.on (by have:=F.inv _ (F.denP p.on q.on); grobner) (by have:=F.inv _ (F.denM p.on q.on); grobner)⟩
theorem Qd5 (p q:Pt n d):(Pt.add F p q).x * (1 + d * p.x * q.x * p.y * q.y) = p.x * q.y + q.x * p.y:=by
 have:=F.inv _ (F.denP p.on q.on)
 simp only [Pt.add]
 generalize 1 + d * p.x * q.x * p.y * q.y = k at *
 grobner
theorem Qal (p q:Pt n d):(Pt.add F p q).y * (1 - d * p.x * q.x * p.y * q.y) = p.y * q.y + p.x * q.x:=by
 have:=F.inv _ (F.denM p.on q.on)
 simp only [Pt.add]
 generalize 1 - d * p.x * q.x * p.y * q.y = k at *
 grobner
theorem add_eq {p q r:Pt n d} (hx:r.x * (1 + d * p.x * q.x * p.y * q.y) = p.x * q.y + q.x * p.y) (hy:r.y * (1 - d * p.x * q.x * p.y * q.y) = p.y * q.y + p.x * q.x):Pt.add F p q = r:=by
 apply Pt.ext
 ·apply F.cancel (F.denP p.on q.on)
  rw [← Qd5 F] at hx
  grobner
 ·apply F.cancel (F.denM p.on q.on)
  rw [← Qal F] at hy
  grobner
theorem add_comm (p q:Pt n d):Pt.add F p q = Pt.add F q p:=by
 apply add_eq
 ·have:=Qd5 F q p; grobner
 ·have:=Qal F q p; grobner
theorem add_zero (p:Pt n d):Pt.add F p Pt.zero = p:=by
 apply add_eq <;> simp only [Pt.zero] <;> grobner
theorem zero_add (p:Pt n d):Pt.add F Pt.zero p = p:=by rw [add_comm,add_zero]
theorem add_neg (p:Pt n d):Pt.add F p p.neg = Pt.zero:=by
 have:=p.on
 unfold On at this
 apply add_eq <;> simp only [Pt.zero,Pt.neg] <;> grobner
theorem add_assoc (p q r:Pt n d):Pt.add F (Pt.add F p q) r = Pt.add F p (Pt.add F q r):=by
 obtain ⟨h1,h2⟩:=Qqv F p.on q.on r.on (Qd5 F p q) (Qal F p q) (Qd5 F q r) (Qal F q r) (Qd5 F (Pt.add F p q) r) (Qal F (Pt.add F p q) r) (Qd5 F p (Pt.add F q r)) (Qal F p (Pt.add F q r))
 exact Pt.ext h1 h2
theorem add_left_cancel {p q r:Pt n d} (h:Pt.add F p q = Pt.add F p r):q = r:=by
 have:Pt.add F p.neg (Pt.add F p q) = Pt.add F p.neg (Pt.add F p r):=by rw [h]
 rwa [← add_assoc,← add_assoc,add_comm F p.neg p,add_neg,zero_add,zero_add] at this
theorem neg_neg (p:Pt n d):p.neg.neg = p:=by
 apply Pt.ext <;> simp only [Pt.neg]
 grobner
theorem neg_zero:(Pt.zero:Pt n d).neg = Pt.zero:=by
 apply Pt.ext <;> simp only [Pt.neg,Pt.zero]
 grobner
theorem Ql6 (a b c e:Pt n d):Pt.add F (Pt.add F a b) (Pt.add F c e) = Pt.add F (Pt.add F a c) (Pt.add F b e):=by
 rw [add_assoc,add_assoc,← add_assoc F b,add_comm F b c,add_assoc F c]
theorem neg_add (p q:Pt n d):(Pt.add F p q).neg = Pt.add F p.neg q.neg:=by
 apply add_left_cancel F (p:=Pt.add F p q)
 rw [add_neg,Ql6,add_neg,add_neg,add_zero]
def Pt.mul (k:Nat) (p:Pt n d):Pt n d:=match k with
 | 0 => Pt.zero
 | k + 1 => Pt.add F (Pt.mul k p) p
theorem mul_add (a b:Nat) (p:Pt n d):Pt.mul F (a + b) p = Pt.add F (Pt.mul F a p) (Pt.mul F b p):=by
 induction b with
 | zero => rw [Ji,Pt.mul,add_zero]
 | succ b ih => rw [← Vl,Pt.mul,ih,Pt.mul,add_assoc]
theorem mul_one (p:Pt n d):Pt.mul F 1 p = p:=by rw [Pt.mul,Pt.mul,zero_add]
theorem mul_two (p:Pt n d):Pt.mul F 2 p = Pt.add F p p:=by rw [Pt.mul,mul_one]
theorem mul_zero (k:Nat):Pt.mul F k (Pt.zero:Pt n d) = Pt.zero:=by
 induction k with
 | zero => rfl
 | succ k ih => rw [Pt.mul,ih,zero_add]
theorem Qgs (a b:Nat) (p:Pt n d):Pt.mul F (a * b) p = Pt.mul F a (Pt.mul F b p):=by
 induction a with
 | zero => rw [Xo,Pt.mul,Pt.mul]
 | succ a ih => rw [Nat.succ_mul,mul_add,ih,Pt.mul]
theorem mul_neg (k:Nat) (p:Pt n d):Pt.mul F k p.neg = (Pt.mul F k p).neg:=by
 induction k with
 | zero => rw [Pt.mul,Pt.mul,neg_zero]
 | succ k ih => rw [Pt.mul,ih,Pt.mul,neg_add]
theorem Qxm (a b:Nat) (p:Pt n d):Pt.mul F a (Pt.mul F b p) = Pt.mul F b (Pt.mul F a p):=by
 rw [← Qgs,← Qgs,Vp]
theorem mul_mod {l:Nat} {p:Pt n d} (hl:Pt.mul F l p = Pt.zero) (k:Nat):Pt.mul F (k % l) p = Pt.mul F k p:=by
 have h:Pt.mul F k p = Pt.mul F (l * (k / l) + k % l) p:=by rw [Yb]
 rw [h,mul_add,Vp,Qgs,hl,mul_zero,zero_add]
end
end Go.Cv
set_option linter.unusedSimpArgs false
set_option linter.unusedVariables false
namespace Go.NT
theorem Qwi (m a:Nat):∀ (f e:Nat),pwf m a f e = pw m a f e
 | 0,_ => rfl
 | f + 1,e => by simp only [pwf,pw,Qwi m a f]
theorem Qle {m a f e:Nat} (h:e < 2 ^ f):pwf m a f e = a ^ e % m:=by rw [Qwi,Q4a m a f e h]
def Qop (n q k a f:Nat):Bool:=n == q * k + 1 && decide (q * k < 2 ^ f) && pwf n a f (q * k) == 1 && Qgy (pwf n a f k + n - 1) n == 1
theorem Qdb {n q k a f:Nat} (hq:Pr q) (h:Qop n q k a f = true):n = q * k + 1 ∧ a ^ (q * k) % n = 1 ∧ Qgy (a ^ k % n + n - 1) n = 1:=by
 simp only [Qop,Yf,beq_iff_eq,decide_eq_true_eq] at h
 obtain ⟨⟨⟨h1,h2⟩,h3⟩,h4⟩:=h
 have h5:k < 2 ^ f:=by
  have:k ≤ q * k:=Nat.le_mul_of_pos_left k (by have:=hq.1; omega)
  omega
 rw [Qle h2] at h3
 rw [Qle h5] at h4
 exact ⟨h1,h3,h4⟩
theorem Dx {n q k a f:Nat} (hq:Pr q) (h:(Qop n q k a f && decide (2 ≤ n) && decide (n < q * q)) = true):Pr n:=by
 simp only [Yf,decide_eq_true_eq] at h
 obtain ⟨h1,h2,h3⟩:=Qdb hq h.1.1
 exact Qwo h.1.2 hq h1 h.2 h2 h3
theorem Tq {n q k a q2 k2 a2 f:Nat} (hq:Pr q) (hq2:Pr q2) (h:(Qop n q k a f && Qop n q2 k2 a2 f && decide (2 ≤ n) && decide (q ≠ q2) && decide (n < (q * q2) * (q * q2))) = true):Pr n:=by
 simp only [Yf,decide_eq_true_eq] at h
 obtain ⟨h1,h2,h3⟩:=Qdb hq h.1.1.1.1
 obtain ⟨h1',h2',h3'⟩:=Qdb hq2 h.1.1.1.2
 exact Qwn h.1.1.2 hq h1 hq2 h1' h.1.2 h.2 h2 h3 h2' h3'
theorem pr1:Pr 991:=B3 (f:=30) (by decide) (by decide) (by decide +kernel)
theorem pr2:Pr 103:=B3 (f:=9) (by decide) (by decide) (by decide +kernel)
theorem pr3:Pr 8574133:=Tq (q:=991) (k:=8652) (a:=2) (q2:=103) (k2:=83244) (a2:=2) (f:=25) pr1 pr2 (by decide +kernel)
theorem pr4:Pr 127:=B3 (f:=10) (by decide) (by decide) (by decide +kernel)
theorem pr5:Pr 1919519569386763:=Tq (q:=8574133) (k:=223873314) (a:=2) (q2:=127) (k2:=15114327318006) (a2:=2) (f:=52) pr3 pr4 (by decide +kernel)
theorem pr6:Pr 569003:=B3 (f:=753) (by decide) (by decide) (by decide +kernel)
theorem pr7:Pr 2773320623:=Dx (q:=569003) (k:=4874) (a:=2) (f:=33) pr6 (by decide +kernel)
theorem pr8:Pr 72106336199:=Dx (q:=2773320623) (k:=26) (a:=2) (f:=38) pr7 (by decide +kernel)
theorem pr9:Pr 75445702479781427272750846543864801:=Tq (q:=1919519569386763) (k:=39304471641247389600) (a:=2) (q2:=72106336199) (k2:=1046311689884858398375200) (a2:=2) (f:=117) pr5 pr8 (by decide +kernel)
theorem pr10:Pr 430751:=B3 (f:=655) (by decide) (by decide) (by decide +kernel)
theorem pr11:Pr 4153:=B3 (f:=63) (by decide) (by decide) (by decide +kernel)
theorem pr12:Pr 31757755568855353:=Tq (q:=430751) (k:=73726481352) (a:=2) (q2:=4153) (k2:=7646943310584) (a2:=2) (f:=56) pr10 pr11 (by decide +kernel)
theorem pr13:Pr 74058212732561358302231226437062788676166966415465897661863160754340907:=Tq (q:=75445702479781427272750846543864801) (k:=981609426360740691344999861639072106) (a:=2) (q2:=31757755568855353) (k2:=2331972502653487852620185443007392165117953542933313402) (a2:=2) (f:=237) pr9 pr12 (by decide +kernel)
theorem pr14:Pr 57896044618658097711785492504343953926634992332820282019728792003956564819949:=Dx (q:=74058212732561358302231226437062788676166966415465897661863160754340907) (k:=781764) (a:=2) (f:=256) pr13 (by decide +kernel)
end Go.NT
namespace Go.Fp
open Go.NT Go.Cv
def P:Nat:=57896044618658097711785492504343953926634992332820282019728792003956564819949
theorem Qbn:P = 57896044618658097711785492504343953926634992332820282019728792003956564819949:=rfl
instance:NeZero P:=⟨by decide⟩
theorem Q31:Pr P:=pr14
abbrev Fe:=Fin P
def fp (n:Nat):Fe:=Fin.ofNat P n
theorem D7 (n:Nat):(fp n).val = n % P:=rfl
theorem Qoa {a b:Nat}:fp a = fp b ↔ a % P = b % P:=by
 constructor
 ·intro h; exact congrArg Fin.val h
 ·intro h; exact Fin.ext h
theorem Qt9 (a:Fe):fp a.val = a:=Fin.ext (Z2 a.isLt)
theorem Ms (a:Nat):fp (a % P) = fp a:=Qoa.2 (Qcj _ _)
theorem Ho (a b:Nat):fp (a + b) = fp a + fp b:=Fin.ext (by rw [D7,Fin.val_add,D7,D7,← Q7v])
theorem Bv (a b:Nat):fp (a * b) = fp a * fp b:=Fin.ext (by rw [D7,Fin.val_mul,D7,D7,← R5])
theorem Q1y:fp 0 = 0:=rfl
theorem Qlz:fp 1 = 1:=rfl
theorem Qyg:fp 2 = 2:=rfl
theorem fp_P:fp P = 0:=Fin.ext (by rw [D7,Nat.mod_self]; rfl)
theorem Qrz (k:Nat):fp (k * P) = 0:=by rw [Bv,fp_P]; grobner
theorem Q7d {a b:Nat} (h:b ≤ a):fp (a - b) = fp a - fp b:=by
 have h1:=Ho (a - b) b
 rw [Nat.sub_add_cancel h] at h1
 grobner
def pow (a:Fe) (k:Nat):Fe:=match k with
 | 0 => 1
 | k + 1 => pow a k * a
theorem Qlf (a:Fe):∀ k,(pow a k).val = a.val ^ k % P
 | 0 => rfl
 | k + 1 => by rw [pow,Fin.val_mul,Qlf a k,Vt,Tu]
theorem pow_add (a:Fe) (j:Nat):∀ k,pow a (j + k) = pow a j * pow a k
 | 0 => by rw [Ji]; simp only [pow]; grobner
 | k + 1 => by rw [← Vl,pow,pow_add a j k,pow]; grobner
theorem pow_mul (a:Fe) (j:Nat):∀ k,pow a (j * k) = pow (pow a j) k
 | 0 => by rw [Qek]; rfl
 | k + 1 => by rw [Nat.mul_succ,pow_add,pow_mul a j k,pow]
theorem pow_one (a:Fe):pow a 1 = a:=by simp only [pow]; grobner
theorem pow_two (a:Fe):pow a 2 = a * a:=by simp only [pow]; grobner
theorem one_pow:∀ k,pow 1 k = 1
 | 0 => rfl
 | k + 1 => by rw [pow,one_pow k]; grobner
theorem zero_pow {k:Nat} (hk:0 < k):pow 0 k = 0:=by
 obtain ⟨j,rfl⟩:∃ j,k = j + 1:=⟨k - 1,by omega⟩
 rw [pow]; grobner
theorem Q6d (a k:Nat):pow (fp a) k = fp (a ^ k):=Fin.ext (by rw [Qlf,D7,D7,← Q7t])
theorem ndvd {a:Fe} (h:a ≠ 0):¬ P ∣ a.val:=fun hd => by
 have h1:=Qel hd
 rw [Z2 a.isLt] at h1
 exact h (Fin.ext h1)
theorem Qfj {a:Fe} (h:a ≠ 0):pow a (P - 1) = 1:=Fin.ext (by rw [Qlf,Go.NT.Qfj Q31 (ndvd h)]; rfl)
def iv (a:Fe):Fe:=pow a (P - 2)
theorem D4 {a:Fe} (h:a ≠ 0):a * iv a = 1:=by
 have h1:=Qfj h
 rw [show P - 1 = (P - 2) + 1 from rfl,pow] at h1
 unfold iv
 rw [← h1]; grobner
theorem Qru:iv 0 = 0:=zero_pow (by decide)
def dN:Nat:=37095705934669439343138083508754565189542113879843219016388785533085940283555
def iN:Nat:=19681161376707505956807079304988542015446066515923890162744021073123829784752
def d:Fe:=fp dN
def i:Fe:=fp iN
theorem Qm1 {a k r f:Nat} (hk:k < 2 ^ f) (h:pwf P a f k = r):pow (fp a) k = fp r:=by
 rw [Q6d,← h,Qle hk,Ms]
theorem Qpi:i * i = -1:=by
 have h:i * i + 1 = 0:=by
  unfold i
  rw [← Bv,← Qlz,← Ho]
  exact Fin.ext (by rw [D7]; decide +kernel)
 grobner
theorem Dh:(1:Fe) ≠ 0:=fun h => by
 have:=congrArg Fin.val h
 revert this
 decide +kernel
theorem Qvl:(2:Fe) ≠ 0:=fun h => by
 have:=congrArg Fin.val h
 revert this
 decide +kernel
theorem Qm2 (r:Fe):pow (r * r) ((P - 1) / 2) = 1 ∨ r = 0:=by
 by_cases h:r = 0
 ·exact .inr h
 ·left
  rw [← pow_two,← pow_mul,show 2 * ((P - 1) / 2) = P - 1 from by decide +kernel,Qfj h]
theorem Q65:pow d ((P - 1) / 2) = fp (P - 1):=Qm1 (f:=256) (by decide +kernel) (by decide +kernel)
theorem nosq (r:Fe):r * r ≠ d:=fun h => by
 have h1:=Q65
 rcases Qm2 r with h2 | h2
 ·rw [h,h1] at h2
  have:=congrArg Fin.val h2
  revert this
  decide +kernel
 ·subst h2
  have h3:d = 0:=by rw [← h]; grobner
  have:=congrArg Fin.val h3
  revert this
  decide +kernel
theorem fld:Fld P iv d i:=⟨fun _ h => D4 h,Qru,Dh,Qvl,Qpi,nosq⟩
end Go.Fp
set_option linter.unusedSimpArgs false
set_option linter.unusedVariables false
namespace Go.Ev.Ytpgphpkjlpkcbaa
open Go Go.Ev
attribute [local congr] Wq W3 Wp W4 Wg
set_option maxRecDepth 100000
theorem Qnv {x y:Nat} (hx:x < 18446744073709551616) (hy:y < 18446744073709551616) :
  Vx T 96 [.int .u64 x,.int .u64 y] [] = some (.tuple #[.int .u64 ((x * y / 18446744073709551616:Nat):Int),.int .u64 ((x * y % 18446744073709551616:Nat):Int)],[],[]):=by
 have key:∀ a b:Nat,a = x * y / 18446744073709551616 → b = x * y % 18446744073709551616 → (some (.tuple #[.int .u64 (a:Int),.int .u64 (b:Int)],[],[]):Option (Value × List Ob × List Nat)) = some (.tuple #[.int .u64 ((x * y / 18446744073709551616:Nat):Int),.int .u64 ((x * y % 18446744073709551616:Nat):Int)],[],[]):=by
  rintro a b rfl rfl; rfl
 rw [Jg (fn:=a91) rfl]
 simp only [a91,Jh,quiet,cF,↓pF,reduceCtorEq,Qd,Qp,Mr,V1,↓J7,↓J6,↓Xr,↓Xu,↓Xs,↓Xt,cL,Qo,Qn,Q2,Q1,Qy,Qr,Qq,Q0,Qe,Q8,Q9,Qz,Qi,Qh,Qg,Qx,Qw,Qv,Qm,Qf,cU]
 apply key
 ·have e:x * y = (x / 4294967296 * (y / 4294967296)) * 18446744073709551616 + (x / 4294967296 * (y % 4294967296) + x % 4294967296 * (y / 4294967296)) * 4294967296 + x % 4294967296 * (y % 4294967296):=by
   conv => lhs; rw [← Yb x 4294967296,← Yb y 4294967296]
   generalize x / 4294967296 = x1
   generalize x % 4294967296 = x0
   generalize y / 4294967296 = y1
   generalize y % 4294967296 = y0
   grind
  have b1:x / 4294967296 ≤ 4294967295:=by omega
  have b2:x % 4294967296 ≤ 4294967295:=by omega
  have b3:y / 4294967296 ≤ 4294967295:=by omega
  have b4:y % 4294967296 ≤ 4294967295:=by omega
  have c1:=Wm b1 b3
  have c2:=Wm b1 b4
  have c3:=Wm b2 b3
  have c4:=Wm b2 b4
  rw [e]
  clear e
  generalize x / 4294967296 * (y / 4294967296) = p11 at *
  generalize x / 4294967296 * (y % 4294967296) = p10 at *
  generalize x % 4294967296 * (y / 4294967296) = p01 at *
  generalize x % 4294967296 * (y % 4294967296) = p00 at *
  omega
 ·rfl
def wV (n:Nat):Value := .agg #[.int .u64 ((n / 18446744073709551616:Nat):Int),.int .u64 ((n % 18446744073709551616:Nat):Int)]
theorem rf_wV (n:Nat):rf (wV n) = true:=rfl
theorem Qip {x y c:Nat} (hc:c ≤ 1):Vx T 97 [.int .u64 x,.int .u64 y,.int .u64 c] [] = some (.tuple #[.int .u64 ((x + y + c) % 18446744073709551616:Nat),.int .u64 ((x + y + c) / 18446744073709551616:Nat)],[],[]):=by
 rw [Vx.eq_def]
 have h1:T.fn 97 = none:=rfl
 have h2:([.int .u64 (x:Int),.int .u64 (y:Int),.int .u64 (c:Int)]:List Value).all rf = true:=rfl
 have h3:T.ext 97 [.int .u64 x,.int .u64 y,.int .u64 c] = some (.tuple #[.int .u64 ((x + y + c) % 18446744073709551616:Nat),.int .u64 ((x + y + c) / 18446744073709551616:Nat)]):=by
  have h4:(c:Int).toNat ≤ 1:=by omega
  simp [T,Q12,hc]
 rw [h1]
 simp only [h2,if_true,h3,Ql]
theorem Qsm {x y:Nat} (hx:x < 18446744073709551616) (hy:y < 18446744073709551616):∃ l,Vx T 71 [.int .u64 x,.int .u64 y] [] = some (wV (x * y),l,[]):=by
 have h:=Qnv hx hy
 have hf:∀ a b:Int,fillL [Value.int .u64 0,Value.int .u64 0] [(0,1,.int .u64 a),(1,1,.int .u64 b)] = some [.int .u64 a,.int .u64 b]:=fun _ _ => rfl
 apply Jl
 rw [Jg (fn:=a77) rfl]
 simp only [a77,Jh,quiet,cF,↓pF,reduceCtorEq,Qd,Qp,Mr,V1,↓J7,↓J6,↓Xr,↓Xu,↓Xs,↓Xt,cL,Qo,Qn,Q2,Q1,Qy,Qr,Qq,Q0,Qe,Q8,Q9,Qz,Qi,Qh,Qg,Qx,Qw,Qv,Qm,Qf,cJ,Vl,h,hf]
 rfl
theorem Qu2 {n x y:Nat} (hx:x < 18446744073709551616) (hy:y < 18446744073709551616) (hn:n + x * y < 340282366920938463463374607431768211456):∃ l,Vx T 72 [wV n,.int .u64 x,.int .u64 y] [] = some (wV (n + x * y),l,[]):=by
 have h:=Qnv hx hy
 have hf:∀ a b:Int,fillL [Value.int .u64 0,Value.int .u64 0] [(0,1,.int .u64 a),(1,1,.int .u64 b)] = some [.int .u64 a,.int .u64 b]:=fun _ _ => rfl
 have a1:=Qip (x:=n % 18446744073709551616) (y:=x * y % 18446744073709551616) (c:=0) (by decide)
 have a2:=Qip (x:=n / 18446744073709551616) (y:=x * y / 18446744073709551616) (c:=(n % 18446744073709551616 + x * y % 18446744073709551616) / 18446744073709551616) (by omega)
 simp only [Vm,Ji] at a1
 have key:∀ (a b:Nat) (l:List Ob),a = (n + x * y) / 18446744073709551616 → b = (n + x * y) % 18446744073709551616 → (some (.agg #[.int .u64 (a:Int),.int .u64 (b:Int)],l,[]):Option (Value × List Ob × List Nat)) = some (wV (n + x * y),l,[]):=by
  rintro a b l rfl rfl; rfl
 apply Jl
 rw [Jg (fn:=a78) rfl]
 simp only [wV,a78,Jh,quiet,cF,↓pF,reduceCtorEq,Qd,Qp,Mr,V1,↓J7,↓J6,↓Xr,↓Xu,↓Xs,↓Xt,cL,Qo,Qn,Q2,Q1,Qy,Qr,Qq,Q0,Qe,Q8,Q9,Qz,Qi,Qh,Qg,Qx,Qw,Qv,Qm,Qf,cJ,Vl,h,hf,a1,a2]
 apply key
 ·generalize x * y = p at *
  omega
 ·generalize x * y = p at *
  omega
theorem Qvx {n:Nat} (hn:n < 41538374868278621028243970633760768):∃ l,Vx T 73 [wV n] [] = some (.tuple #[.int .u64 ((n / 2251799813685248:Nat):Int),.int .u64 ((n % 2251799813685248:Nat):Int)],l,[]):=by
 have key:∀ (a b:Nat) (l:List Ob),a = n / 2251799813685248 → b = n % 2251799813685248 → (some (.tuple #[.int .u64 (a:Int),.int .u64 (b:Int)],l,[]):Option (Value × List Ob × List Nat)) = some (.tuple #[.int .u64 ((n / 2251799813685248:Nat):Int),.int .u64 ((n % 2251799813685248:Nat):Int)],l,[]):=by
  rintro a b l rfl rfl; rfl
 have hor:=fun a b:Nat => n_or .u64 rfl a b
 apply Jl
 rw [Jg (fn:=a79) rfl]
 simp only [wV,a79,Jh,quiet,cF,↓pF,reduceCtorEq,Qd,Qp,Mr,V1,↓J7,↓J6,↓Xr,↓Xu,↓Xs,↓Xt,cL,Qo,Qn,Q2,Q1,Qy,Qr,Qq,Q0,Qe,Q8,Q9,Qz,Qi,Qh,Qg,Qx,Qw,Qv,Qm,Qf,cJ,Vl,cU,hor]
 apply key
 ·have h1:n / 18446744073709551616 < 2251799813685248:=by omega
  have e1:n / 18446744073709551616 * 8192 % 18446744073709551616 % 2 ^ IntKind.u64.bits = n / 18446744073709551616 * 2 ^ 13:=by
   rw [show (2:Nat) ^ IntKind.u64.bits = 18446744073709551616 from rfl]; omega
  have e2:n % 18446744073709551616 / 2251799813685248 % 2 ^ IntKind.u64.bits = n % 18446744073709551616 / 2251799813685248:=by
   rw [show (2:Nat) ^ IntKind.u64.bits = 18446744073709551616 from rfl]; omega
  rw [e1,e2,Da (by omega)]
  omega
 ·omega
theorem Q09 {n x:Nat} (hn:n + x < 340282366920938463463374607431768211456) (hx:x < 18446744073709551616):∃ l,Vx T 74 [wV n,.int .u64 x] [] = some (wV (n + x),l,[]):=by
 have hf:∀ a b:Int,fillL [Value.int .u64 0,Value.int .u64 0] [(0,1,.int .u64 a),(1,1,.int .u64 b)] = some [.int .u64 a,.int .u64 b]:=fun _ _ => rfl
 have a1:=Qip (x:=n % 18446744073709551616) (y:=x) (c:=0) (by decide)
 simp only [Vm,Ji] at a1
 have key:∀ (a b:Nat) (l:List Ob),a = (n + x) / 18446744073709551616 → b = (n + x) % 18446744073709551616 → (some (.agg #[.int .u64 (a:Int),.int .u64 (b:Int)],l,[]):Option (Value × List Ob × List Nat)) = some (wV (n + x),l,[]):=by
  rintro a b l rfl rfl; rfl
 apply Jl
 rw [Jg (fn:=a80) rfl]
 simp only [wV,a80,Jh,quiet,cF,↓pF,reduceCtorEq,Qd,Qp,Mr,V1,↓J7,↓J6,↓Xr,↓Xu,↓Xs,↓Xt,cL,Qo,Qn,Q2,Q1,Qy,Qr,Qq,Q0,Qe,Q8,Q9,Qz,Qi,Qh,Qg,Qx,Qw,Qv,Qm,Qf,cJ,Vl,cU,hf,a1]
 apply key
 ·omega
 ·omega
def eV (l:List Nat):Value := .agg (ns .u64 l).toArray
theorem V9 (l:List Nat):rf (eV l) = true:=by
 show (ns .u64 l).toArray.toList.all Vq = true
 rw [show (ns .u64 l).toArray.toList = ns .u64 l from rfl]
 simp [ns,Vq]
theorem Qrb (k:IntKind) (l:List Nat):rf (.agg (ns k l).toArray) = true:=by
 show (ns k l).toArray.toList.all Vq = true
 rw [show (ns k l).toArray.toList = ns k l from rfl]
 simp [ns,Vq]
structure El (l:List Nat) (b:Nat):Prop where
 len:l.length = 5
 lt:∀ x ∈ l,x < b
theorem El.five {l:List Nat} {b:Nat} (h:El l b):∃ x0 x1 x2 x3 x4,l = [x0,x1,x2,x3,x4] ∧ x0 < b ∧ x1 < b ∧ x2 < b ∧ x3 < b ∧ x4 < b:=by
 obtain ⟨h1,h2⟩:=h
 match l,h1 with
 | [x0,x1,x2,x3,x4],_ => exact ⟨x0,x1,x2,x3,x4,rfl,h2 _ (by simp),h2 _ (by simp),h2 _ (by simp),h2 _ (by simp),h2 _ (by simp)⟩
theorem El.mk5 {x0 x1 x2 x3 x4 b:Nat} (h0:x0 < b) (h1:x1 < b) (h2:x2 < b) (h3:x3 < b) (h4:x4 < b):El [x0,x1,x2,x3,x4] b:=⟨rfl,by simp; exact ⟨h0,h1,h2,h3,h4⟩⟩
def v51 (l:List Nat):Nat:=num 2251799813685248 l
def fe (l:List Nat):Go.Fp.Fe:=Go.Fp.fp (v51 l)
def Mw (x0 x1 x2 x3 x4:Nat):List Nat :=
 let c0:=x0 / 2251799813685248
 let c1:=(x1 + c0) / 2251799813685248
 let c2:=(x2 + c1) / 2251799813685248
 let c3:=(x3 + c2) / 2251799813685248
 let c4:=(x4 + c3) / 2251799813685248
 [x0 % 2251799813685248 + 19 * c4,(x1 + c0) % 2251799813685248,(x2 + c1) % 2251799813685248,(x3 + c2) % 2251799813685248,(x4 + c3) % 2251799813685248]
theorem Qd1 {x0 x1 x2 x3 x4:Nat}:∃ k,v51 (Mw x0 x1 x2 x3 x4) + k * Go.Fp.P = v51 [x0,x1,x2,x3,x4]:=by
 refine ⟨(x4 + (x3 + (x2 + (x1 + x0 / 2251799813685248) / 2251799813685248) / 2251799813685248) / 2251799813685248) / 2251799813685248,?_⟩
 simp only [v51,Mw,num,Go.Fp.Qbn]
 omega
theorem Q4f {a b k:Nat} (h:a + k * Go.Fp.P = b):Go.Fp.fp a = Go.Fp.fp b:=by
 rw [← h,Go.Fp.Ho,Go.Fp.Qrz]; grobner
theorem Qqq {x0 x1 x2 x3 x4:Nat} (h0:x0 < 9223372036854775808) (h1:x1 < 9223372036854775808) (h2:x2 < 9223372036854775808) (h3:x3 < 9223372036854775808) (h4:x4 < 9223372036854775808) :
  ∃ l,Vx T 75 [eV [x0,x1,x2,x3,x4]] [] = some (eV (Mw x0 x1 x2 x3 x4),l,[]):=by
 have key:∀ (a b c d e:Nat) (l:List Ob),[a,b,c,d,e] = Mw x0 x1 x2 x3 x4 → (some (.agg [.int .u64 (a:Int),.int .u64 (b:Int),.int .u64 (c:Int),.int .u64 (d:Int),.int .u64 (e:Int)].toArray,l,[]):Option (Value × List Ob × List Nat)) = some (eV (Mw x0 x1 x2 x3 x4),l,[]):=by
  intro a b c d e l h
  rw [← h]; rfl
 have hz:Qa 5 (Value.int .u64 0) = [.int .u64 0,.int .u64 0,.int .u64 0,.int .u64 0,.int .u64 0]:=rfl
 apply Jl
 rw [Jg (fn:=a81) rfl]
 simp only [eV,Rp,Qa9,a81,Jh,quiet,cF,↓pF,reduceCtorEq,Qd,Qp,Mr,V1,↓J7,↓J6,↓Xr,↓Xu,↓Xs,↓Xt,cL,Qo,Qn,Q2,Q1,Qy,Qr,Qq,Q0,Qe,Q8,Q9,Qz,Qi,Qh,Qg,Qx,Qw,Qv,Qm,Qf,cJ,Vl,cU,hz,Ju,Un,Qza]
 apply key
 simp only [Mw,List.cons.injEq,and_true]
 rw [show x0 % 18446744073709551616 = x0 by omega]
 have b0:x0 / 2251799813685248 < 8192:=by omega
 have hx0:x0 % 2251799813685248 < 2251799813685248:=by omega
 generalize x0 / 2251799813685248 = c0 at *
 generalize x0 % 2251799813685248 = r0 at *
 rw [show (x1 + c0) % 18446744073709551616 = x1 + c0 by omega]
 have b1:(x1 + c0) / 2251799813685248 < 8192:=by omega
 generalize (x1 + c0) / 2251799813685248 = c1 at *
 rw [show (x2 + c1) % 18446744073709551616 = x2 + c1 by omega]
 have b2:(x2 + c1) / 2251799813685248 < 8192:=by omega
 generalize (x2 + c1) / 2251799813685248 = c2 at *
 rw [show (x3 + c2) % 18446744073709551616 = x3 + c2 by omega]
 have b3:(x3 + c2) / 2251799813685248 < 8192:=by omega
 generalize (x3 + c2) / 2251799813685248 = c3 at *
 rw [show (x4 + c3) % 18446744073709551616 = x4 + c3 by omega]
 have b4:(x4 + c3) / 2251799813685248 < 8192:=by omega
 generalize (x4 + c3) / 2251799813685248 = c4 at *
 refine ⟨by omega,rfl,rfl,rfl,rfl⟩
theorem Q07 (B P x0 x1 x2 x3 x4 y0 y1 y2 y3 y4:Nat) (h:B * B * B * B * B = P + 19) :
  (x0 + B * (x1 + B * (x2 + B * (x3 + B * (x4 + B * 0))))) * (y0 + B * (y1 + B * (y2 + B * (y3 + B * (y4 + B * 0))))) =
   (x0 * y0 + 19 * x1 * y4 + 19 * x2 * y3 + 19 * x3 * y2 + 19 * x4 * y1) + B * ((x0 * y1 + x1 * y0 + 19 * x2 * y4 + 19 * x3 * y3 + 19 * x4 * y2) + B * ((x0 * y2 + x1 * y1 + x2 * y0 + 19 * x3 * y4 + 19 * x4 * y3) + B * ((x0 * y3 + x1 * y2 + x2 * y1 + x3 * y0 + 19 * x4 * y4) + B * (x0 * y4 + x1 * y3 + x2 * y2 + x3 * y1 + x4 * y0)))) +
   (x1 * y4 + x2 * y3 + x3 * y2 + x4 * y1 + B * (x2 * y4 + x3 * y3 + x4 * y2 + B * (x3 * y4 + x4 * y3 + B * (x4 * y4)))) * P:=by grind
theorem Qbt {x y:Nat} (hx:x < 18446744073709551616) (hy:y < 18446744073709551616):Vs T 71 [.int .u64 x,.int .u64 y] = some (wV (x * y)):=K8 (Qsm hx hy)
theorem Uy {n x y:Nat} (hx:x < 18446744073709551616) (hy:y < 18446744073709551616) (hn:n + x * y < 340282366920938463463374607431768211456):Vs T 72 [wV n,.int .u64 x,.int .u64 y] = some (wV (n + x * y)):=K8 (Qu2 hx hy hn)
theorem Qbu {n:Nat} (hn:n < 41538374868278621028243970633760768):Vs T 73 [wV n] = some (.tuple #[.int .u64 ((n / 2251799813685248:Nat):Int),.int .u64 ((n % 2251799813685248:Nat):Int)]):=K8 (Qvx hn)
theorem Q62 {n x:Nat} (hn:n + x < 340282366920938463463374607431768211456) (hx:x < 18446744073709551616):Vs T 74 [wV n,.int .u64 x] = some (wV (n + x)):=K8 (Q09 hn hx)
theorem Tr {x0 x1 x2 x3 x4:Nat} (h0:x0 < 9223372036854775808) (h1:x1 < 9223372036854775808) (h2:x2 < 9223372036854775808) (h3:x3 < 9223372036854775808) (h4:x4 < 9223372036854775808):Vs T 75 [eV [x0,x1,x2,x3,x4]] = some (eV (Mw x0 x1 x2 x3 x4)):=K8 (Qqq h0 h1 h2 h3 h4)
theorem Mt {a b c d e:Nat} (ha:a < 2 ^ 109) (hb:b < 2 ^ 109) (hc:c < 2 ^ 109) (hd:d < 2 ^ 109) (he:e < 2 ^ 109):a + b + c + d + e < 2 ^ 112:=by omega
theorem Yy {x y:Nat} (hx:x < 2 ^ 57) (hy:y < 2 ^ 52):x * y < 2 ^ 109:=by
 rw [show (2:Nat) ^ 109 = 2 ^ 57 * 2 ^ 52 from rfl]
 exact Nat.mul_lt_mul'' hx hy
theorem Q06 {s0 s1 s2 s3 s4:Nat} (h0:s0 < 2 ^ 112) (h1:s1 < 2 ^ 112) (h2:s2 < 2 ^ 112) (h3:s3 < 2 ^ 112) (h4:s4 < 2 ^ 112):∃ r,El r (2 ^ 52) ∧ (∃ k,v51 r + k * Go.Fp.P = s0 + 2251799813685248 * (s1 + 2251799813685248 * (s2 + 2251799813685248 * (s3 + 2251799813685248 * s4)))) ∧
  r = Mw ((19 * (s4 / 2251799813685248) + s0 % 2251799813685248) % 2251799813685248) (s1 % 2251799813685248 + s0 / 2251799813685248 + (19 * (s4 / 2251799813685248) + s0 % 2251799813685248) / 2251799813685248) (s2 % 2251799813685248 + s1 / 2251799813685248) (s3 % 2251799813685248 + s2 / 2251799813685248) (s4 % 2251799813685248 + s3 / 2251799813685248):=by
 refine ⟨_,?_,?_,rfl⟩
 ·simp only [Mw]
  apply El.mk5 <;> omega
 ·obtain ⟨k,hk⟩:=Qd1 (x0:=(19 * (s4 / 2251799813685248) + s0 % 2251799813685248) % 2251799813685248) (x1:=s1 % 2251799813685248 + s0 / 2251799813685248 + (19 * (s4 / 2251799813685248) + s0 % 2251799813685248) / 2251799813685248) (x2:=s2 % 2251799813685248 + s1 / 2251799813685248) (x3:=s3 % 2251799813685248 + s2 / 2251799813685248) (x4:=s4 % 2251799813685248 + s3 / 2251799813685248)
  refine ⟨k + s4 / 2251799813685248,?_⟩
  rw [Vo,← Vl,hk]
  simp only [v51,num,Go.Fp.Qbn]
  omega
theorem Wr {x y:List Nat} (hx:El x (2 ^ 52)) (hy:El y (2 ^ 52)):∃ r,Vs T 40 [eV x,eV y] = some (eV r) ∧ El r (2 ^ 52) ∧ fe r = fe x * fe y:=by
 obtain ⟨x0,x1,x2,x3,x4,rfl,a0,a1,a2,a3,a4⟩:=hx.five
 obtain ⟨y0,y1,y2,y3,y4,rfl,b0,b1,b2,b3,b4⟩:=hy.five
 have m1:19 * x1 % 18446744073709551616 = 19 * x1:=by omega
 have m2:19 * x2 % 18446744073709551616 = 19 * x2:=by omega
 have m3:19 * x3 % 18446744073709551616 = 19 * x3:=by omega
 have m4:19 * x4 % 18446744073709551616 = 19 * x4:=by omega
 have t00:=Qbt (x:=x0) (y:=y0) (by omega) (by omega)
 have p00:x0 * y0 < 2 ^ 109:=Yy (by omega) (by omega)
 have p01:19 * x1 * y4 < 2 ^ 109:=Yy (by omega) (by omega)
 have p02:19 * x2 * y3 < 2 ^ 109:=Yy (by omega) (by omega)
 have p03:19 * x3 * y2 < 2 ^ 109:=Yy (by omega) (by omega)
 have p04:19 * x4 * y1 < 2 ^ 109:=Yy (by omega) (by omega)
 have t01:=Uy (n:=x0 * y0) (x:=19 * x1) (y:=y4) (by omega) (by omega) (by omega)
 have t02:=Uy (n:=x0 * y0 + 19 * x1 * y4) (x:=19 * x2) (y:=y3) (by omega) (by omega) (by omega)
 have t03:=Uy (n:=x0 * y0 + 19 * x1 * y4 + 19 * x2 * y3) (x:=19 * x3) (y:=y2) (by omega) (by omega) (by omega)
 have t04:=Uy (n:=x0 * y0 + 19 * x1 * y4 + 19 * x2 * y3 + 19 * x3 * y2) (x:=19 * x4) (y:=y1) (by omega) (by omega) (by omega)
 have q0:=Mt p00 p01 p02 p03 p04
 have t10:=Qbt (x:=x0) (y:=y1) (by omega) (by omega)
 have p10:x0 * y1 < 2 ^ 109:=Yy (by omega) (by omega)
 have p11:x1 * y0 < 2 ^ 109:=Yy (by omega) (by omega)
 have p12:19 * x2 * y4 < 2 ^ 109:=Yy (by omega) (by omega)
 have p13:19 * x3 * y3 < 2 ^ 109:=Yy (by omega) (by omega)
 have p14:19 * x4 * y2 < 2 ^ 109:=Yy (by omega) (by omega)
 have t11:=Uy (n:=x0 * y1) (x:=x1) (y:=y0) (by omega) (by omega) (by omega)
 have t12:=Uy (n:=x0 * y1 + x1 * y0) (x:=19 * x2) (y:=y4) (by omega) (by omega) (by omega)
 have t13:=Uy (n:=x0 * y1 + x1 * y0 + 19 * x2 * y4) (x:=19 * x3) (y:=y3) (by omega) (by omega) (by omega)
 have t14:=Uy (n:=x0 * y1 + x1 * y0 + 19 * x2 * y4 + 19 * x3 * y3) (x:=19 * x4) (y:=y2) (by omega) (by omega) (by omega)
 have q1:=Mt p10 p11 p12 p13 p14
 have t20:=Qbt (x:=x0) (y:=y2) (by omega) (by omega)
 have p20:x0 * y2 < 2 ^ 109:=Yy (by omega) (by omega)
 have p21:x1 * y1 < 2 ^ 109:=Yy (by omega) (by omega)
 have p22:x2 * y0 < 2 ^ 109:=Yy (by omega) (by omega)
 have p23:19 * x3 * y4 < 2 ^ 109:=Yy (by omega) (by omega)
 have p24:19 * x4 * y3 < 2 ^ 109:=Yy (by omega) (by omega)
 have t21:=Uy (n:=x0 * y2) (x:=x1) (y:=y1) (by omega) (by omega) (by omega)
 have t22:=Uy (n:=x0 * y2 + x1 * y1) (x:=x2) (y:=y0) (by omega) (by omega) (by omega)
 have t23:=Uy (n:=x0 * y2 + x1 * y1 + x2 * y0) (x:=19 * x3) (y:=y4) (by omega) (by omega) (by omega)
 have t24:=Uy (n:=x0 * y2 + x1 * y1 + x2 * y0 + 19 * x3 * y4) (x:=19 * x4) (y:=y3) (by omega) (by omega) (by omega)
 have q2:=Mt p20 p21 p22 p23 p24
 have t30:=Qbt (x:=x0) (y:=y3) (by omega) (by omega)
 have p30:x0 * y3 < 2 ^ 109:=Yy (by omega) (by omega)
 have p31:x1 * y2 < 2 ^ 109:=Yy (by omega) (by omega)
 have p32:x2 * y1 < 2 ^ 109:=Yy (by omega) (by omega)
 have p33:x3 * y0 < 2 ^ 109:=Yy (by omega) (by omega)
 have p34:19 * x4 * y4 < 2 ^ 109:=Yy (by omega) (by omega)
 have t31:=Uy (n:=x0 * y3) (x:=x1) (y:=y2) (by omega) (by omega) (by omega)
 have t32:=Uy (n:=x0 * y3 + x1 * y2) (x:=x2) (y:=y1) (by omega) (by omega) (by omega)
 have t33:=Uy (n:=x0 * y3 + x1 * y2 + x2 * y1) (x:=x3) (y:=y0) (by omega) (by omega) (by omega)
 have t34:=Uy (n:=x0 * y3 + x1 * y2 + x2 * y1 + x3 * y0) (x:=19 * x4) (y:=y4) (by omega) (by omega) (by omega)
 have q3:=Mt p30 p31 p32 p33 p34
 have t40:=Qbt (x:=x0) (y:=y4) (by omega) (by omega)
 have p40:x0 * y4 < 2 ^ 109:=Yy (by omega) (by omega)
 have p41:x1 * y3 < 2 ^ 109:=Yy (by omega) (by omega)
 have p42:x2 * y2 < 2 ^ 109:=Yy (by omega) (by omega)
 have p43:x3 * y1 < 2 ^ 109:=Yy (by omega) (by omega)
 have p44:x4 * y0 < 2 ^ 109:=Yy (by omega) (by omega)
 have t41:=Uy (n:=x0 * y4) (x:=x1) (y:=y3) (by omega) (by omega) (by omega)
 have t42:=Uy (n:=x0 * y4 + x1 * y3) (x:=x2) (y:=y2) (by omega) (by omega) (by omega)
 have t43:=Uy (n:=x0 * y4 + x1 * y3 + x2 * y2) (x:=x3) (y:=y1) (by omega) (by omega) (by omega)
 have t44:=Uy (n:=x0 * y4 + x1 * y3 + x2 * y2 + x3 * y1) (x:=x4) (y:=y0) (by omega) (by omega) (by omega)
 have q4:=Mt p40 p41 p42 p43 p44
 obtain ⟨r,hr1,⟨k,hr2⟩,hr3⟩:=Q06 q0 q1 q2 q3 q4
 have d0:=Qbu (n:=x0 * y0 + 19 * x1 * y4 + 19 * x2 * y3 + 19 * x3 * y2 + 19 * x4 * y1) (by omega)
 have d1:=Qbu (n:=x0 * y1 + x1 * y0 + 19 * x2 * y4 + 19 * x3 * y3 + 19 * x4 * y2) (by omega)
 have d2:=Qbu (n:=x0 * y2 + x1 * y1 + x2 * y0 + 19 * x3 * y4 + 19 * x4 * y3) (by omega)
 have d3:=Qbu (n:=x0 * y3 + x1 * y2 + x2 * y1 + x3 * y0 + 19 * x4 * y4) (by omega)
 have d4:=Qbu (n:=x0 * y4 + x1 * y3 + x2 * y2 + x3 * y1 + x4 * y0) (by omega)
 refine ⟨r,?_,hr1,?_⟩
 ·rw [hr3]
  clear hr2 hr3
  generalize x0 * y0 + 19 * x1 * y4 + 19 * x2 * y3 + 19 * x3 * y2 + 19 * x4 * y1 = s0 at *
  generalize x0 * y1 + x1 * y0 + 19 * x2 * y4 + 19 * x3 * y3 + 19 * x4 * y2 = s1 at *
  generalize x0 * y2 + x1 * y1 + x2 * y0 + 19 * x3 * y4 + 19 * x4 * y3 = s2 at *
  generalize x0 * y3 + x1 * y2 + x2 * y1 + x3 * y0 + 19 * x4 * y4 = s3 at *
  generalize x0 * y4 + x1 * y3 + x2 * y2 + x3 * y1 + x4 * y0 = s4 at *
  have u1:=Qbt (x:=19) (y:=s4 / 2251799813685248) (by omega) (by omega)
  have u2:=Q62 (n:=19 * (s4 / 2251799813685248)) (x:=s0 % 2251799813685248) (by omega) (by omega)
  have u3:=Qbu (n:=19 * (s4 / 2251799813685248) + s0 % 2251799813685248) (by omega)
  have w1:(s1 % 2251799813685248 + s0 / 2251799813685248) % 18446744073709551616 = s1 % 2251799813685248 + s0 / 2251799813685248:=by omega
  have w2:(s1 % 2251799813685248 + s0 / 2251799813685248 + (19 * (s4 / 2251799813685248) + s0 % 2251799813685248) / 2251799813685248) % 18446744073709551616 = s1 % 2251799813685248 + s0 / 2251799813685248 + (19 * (s4 / 2251799813685248) + s0 % 2251799813685248) / 2251799813685248:=by omega
  have w3:(s2 % 2251799813685248 + s1 / 2251799813685248) % 18446744073709551616 = s2 % 2251799813685248 + s1 / 2251799813685248:=by omega
  have w4:(s3 % 2251799813685248 + s2 / 2251799813685248) % 18446744073709551616 = s3 % 2251799813685248 + s2 / 2251799813685248:=by omega
  have w5:(s4 % 2251799813685248 + s3 / 2251799813685248) % 18446744073709551616 = s4 % 2251799813685248 + s3 / 2251799813685248:=by omega
  have v1:=Tr (x0:=(19 * (s4 / 2251799813685248) + s0 % 2251799813685248) % 2251799813685248) (x1:=s1 % 2251799813685248 + s0 / 2251799813685248 + (19 * (s4 / 2251799813685248) + s0 % 2251799813685248) / 2251799813685248) (x2:=s2 % 2251799813685248 + s1 / 2251799813685248) (x3:=s3 % 2251799813685248 + s2 / 2251799813685248) (x4:=s4 % 2251799813685248 + s3 / 2251799813685248) (by omega) (by omega) (by omega) (by omega) (by omega)
  simp only [Qau] at u1
  have hz:Qa 5 (Value.int .u64 0) = [.int .u64 0,.int .u64 0,.int .u64 0,.int .u64 0,.int .u64 0]:=rfl
  have hf:∀ a b c d e:Int,fillL [Value.int .u64 0,.int .u64 0,.int .u64 0,.int .u64 0,.int .u64 0] [(0,1,.int .u64 a),(1,1,.int .u64 b),(2,1,.int .u64 c),(3,1,.int .u64 d),(4,1,.int .u64 e)] = some [.int .u64 a,.int .u64 b,.int .u64 c,.int .u64 d,.int .u64 e]:=fun _ _ _ _ _ => rfl
  have hf5:∀ a b c d e:Int,fillL [Value.int .u64 0,.int .u64 0,.int .u64 0,.int .u64 0,.int .u64 0] [(0,5,.agg [.int .u64 a,.int .u64 b,.int .u64 c,.int .u64 d,.int .u64 e].toArray)] = some [.int .u64 a,.int .u64 b,.int .u64 c,.int .u64 d,.int .u64 e]:=fun _ _ _ _ _ => rfl
  have hr5:∀ a b c d e:Int,rf (.agg [.int .u64 a,.int .u64 b,.int .u64 c,.int .u64 d,.int .u64 e].toArray) = true:=fun _ _ _ _ _ => rfl
  have hw:∀ n,(wV n).cells.size = 2:=fun _ => rfl
  have hw2:∀ n,(wV n).cells.toList = [.int .u64 ((n / 18446744073709551616:Nat):Int),.int .u64 ((n % 18446744073709551616:Nat):Int)]:=fun _ => rfl
  have hw3:∀ n,Vy (wV n) = true:=fun _ => rfl
  have hw4:∀ n,Value.agg [.int .u64 ((n / 18446744073709551616:Nat):Int),.int .u64 ((n % 18446744073709551616:Nat):Int)].toArray = wV n:=fun _ => rfl
  simp only [eV,Rp,Qa9] at v1 ⊢
  generalize hc:ns .u64 (Mw ((19 * (s4 / 2251799813685248) + s0 % 2251799813685248) % 2251799813685248) (s1 % 2251799813685248 + s0 / 2251799813685248 + (19 * (s4 / 2251799813685248) + s0 % 2251799813685248) / 2251799813685248) (s2 % 2251799813685248 + s1 / 2251799813685248) (s3 % 2251799813685248 + s2 / 2251799813685248) (s4 % 2251799813685248 + s3 / 2251799813685248)) = C at *
  have hC:C.length = 5:=by rw [← hc]; rfl
  have hCr:rf (.agg C.toArray) = true:=by rw [← hc]; exact Qrb _ _
  apply K8
  apply Jl
  rw [Jg (fn:=a51) rfl]
  simp only [a51,Jh,quiet,cF,↓pF,reduceCtorEq,Qd,Qp,Zo,V1,↓J7,↓J6,↓Xr,↓Xu,↓Xs,↓Xt,cL,Qo,Qn,Q2,Q1,Qy,Qr,Qq,Q0,Qe,Q8,Q9,Qz,Qi,Qh,Qg,Qx,Qw,Qv,Qm,Qf,cJ,cU,hz,m1,m2,m3,m4,t00,t01,t02,t03,t04,t10,t11,t12,t13,t14,t20,t21,t22,t23,t24,t30,t31,t32,t33,t34,t40,t41,t42,t43,t44,d0,d1,d2,d3,d4,u1,u2,u3,w1,w2,w3,w4,w5,hf,hf5,hr5,v1,rf_wV,hw,hw2,hw3,hw4,hC,hCr]
  rfl
 ·unfold fe
  rw [← Go.Fp.Bv]
  have h:=Q07 2251799813685248 Go.Fp.P x0 x1 x2 x3 x4 y0 y1 y2 y3 y4 (by rw [Go.Fp.Qbn])
  have e:v51 [x0,x1,x2,x3,x4] * v51 [y0,y1,y2,y3,y4] = v51 r + (k + (x1 * y4 + x2 * y3 + x3 * y2 + x4 * y1 + 2251799813685248 * (x2 * y4 + x3 * y3 + x4 * y2 + 2251799813685248 * (x3 * y4 + x4 * y3 + 2251799813685248 * (x4 * y4))))) * Go.Fp.P:=by
   simp only [v51,num] at hr2 h ⊢
   rw [h,← hr2,Vl,← Vo]
  exact Q4f e.symm
theorem Qov {V w q s:Nat} (hs:s < w):V / (2 ^ w) ^ q % 2 ^ w / 2 ^ s % 2 = V / 2 ^ (w * q + s) % 2:=by
 have h1:(2:Nat) ^ w = 2 ^ s * 2 ^ (w - s):=by rw [← Wl]; congr 1; omega
 conv => lhs; rw [show V / (2 ^ w) ^ q % 2 ^ w = V / (2 ^ w) ^ q % (2 ^ s * 2 ^ (w - s)) from by rw [← h1]]
 have h2:(2:Nat) ∣ 2 ^ (w - s):=by
  obtain ⟨m,hm⟩:∃ m,w - s = m + 1:=⟨w - s - 1,by omega⟩
  rw [hm,Vt]
  exact Qo4 2 _
 rw [Qaq,D0 _ h2,Ym,← Ys,← Wl]
theorem Qou (V i:Nat):V % 2 ^ i + V / 2 ^ i % 2 * 2 ^ i = V % 2 ^ (i + 1):=by
 rw [Nat.mod_pow_succ,Vp (2 ^ i)]
theorem Qfp (V i:Nat):V / 2 ^ i % 2 < 2:=Js _ (by decide)
theorem T5 {n b:Nat} (h:n ≤ b):(2:Int) ^ min n b = ((2 ^ n:Nat):Int):=by rw [Vz h]; simp
theorem Qbv {n:Nat} (hn:n < 4294967296):Vs T 37 [.int .u32 n] = some (eV [n,0,0,0,0]):=by
 have hz:Qa 5 (Value.int .u64 0) = [.int .u64 0,.int .u64 0,.int .u64 0,.int .u64 0,.int .u64 0]:=rfl
 have hf:∀ a:Int,fillL [Value.int .u64 0,.int .u64 0,.int .u64 0,.int .u64 0,.int .u64 0] [(0,1,.int .u64 a)] = some [.int .u64 a,.int .u64 0,.int .u64 0,.int .u64 0,.int .u64 0]:=fun _ => rfl
 have hf5:∀ a b c d e:Int,fillL [Value.int .u64 0,.int .u64 0,.int .u64 0,.int .u64 0,.int .u64 0] [(0,5,.agg [.int .u64 a,.int .u64 b,.int .u64 c,.int .u64 d,.int .u64 e].toArray)] = some [.int .u64 a,.int .u64 b,.int .u64 c,.int .u64 d,.int .u64 e]:=fun _ _ _ _ _ => rfl
 have hm:n % 18446744073709551616 = n:=by omega
 apply K8
 apply Jl
 rw [Jg (fn:=a50) rfl]
 simp only [a50,Jh,quiet,cF,↓pF,reduceCtorEq,Qd,Qp,Zo,V1,↓J7,↓J6,↓Xr,↓Xu,↓Xs,↓Xt,cL,Qo,Qn,Q2,Q1,Qy,Qr,Qq,Q0,Qe,Q8,Q9,Qz,Qi,Qh,Qg,Qx,Qw,Qv,Qm,Qf,cJ,cU,hz,hf,hf5,hm,eV,Rp,Qa9]
 rfl
theorem Tg {n:Nat} (hn:n < 2 ^ 52):El [n,0,0,0,0] (2 ^ 52):=El.mk5 hn (by decide) (by decide) (by decide) (by decide)
theorem Tf (n:Nat):fe [n,0,0,0,0] = Go.Fp.fp n:=by simp [fe,v51,num]
def ofX (V i:Nat):List Nat:=dig (2 ^ 51) 5 (V % 2 ^ i)
def Qnp (k x:List Nat) (i:Nat) (ex:Env):St:=⟨[(1,.pointer (some ⟨0,0,none⟩)),(2,.pointer (some ⟨1,0,none⟩)),(3,.pointer (some ⟨2,0,none⟩)),(5,.int .i64 i)] ++ ex,[⟨u8s k,true,true,true,1⟩,⟨ns .u64 [0,0,0,0,0],true,true,true,1⟩,⟨ns .u64 x,true,true,true,1⟩],[]⟩
theorem Qxg {k:List Nat} (lk:k.length = 32) (xk:∀ x ∈ k,x < 256) {i:Nat} (hi:i < 255) :
  J9 T 0 Qix (Qnp k (ofX (num 256 k) i) i []) = some (.normal,Qnp k (ofX (num 256 k) (i + 1)) (i + 1) []):=by
 obtain ⟨b,hb⟩:∃ b,k[i / 8]? = some b:=⟨_,Qt (by omega)⟩
 have hbv:=Dn (B:=256) (by decide) xk hb
 have hbc:=Uh hb
 have hlen:(ofX (num 256 k) i).length = 5:=Vj _ _ _
 obtain ⟨y,hy⟩:∃ b,(ofX (num 256 k) i)[i / 51]? = some b:=⟨_,Qt (by omega)⟩
 have hyc:=Ut (k := .u64) hy
 have hy':y < 2 ^ 51:=Gr (by decide) (Zs hy)
 have hbit:b / 2 ^ (i % 8) % 2 = num 256 k / 2 ^ i % 2:=by
  rw [← hbv,show (256:Nat) = 2 ^ 8 from rfl,Qov (Js _ (by decide)),Yb]
 have hput:=Qgu (w:=51) (m:=5) (q:=i / 51) (s:=i % 51) (y:=num 256 k / 2 ^ i % 2) (M:=num 256 k % 2 ^ i) (by omega) (Js _ (by decide)) (by rw [Yb]; exact Js _ (Wx (by decide))) (by
  have h1:=Qfp (num 256 k) i
  have h2:(2:Nat) ^ (i % 51) ≤ 2 ^ 50:=Ve (by decide) (by have:=Js i (by decide:0 < 51); omega)
  have h3:num 256 k / 2 ^ i % 2 * 2 ^ (i % 51) ≤ 1 * 2 ^ 50:=Wm (by omega) h2
  omega)
 rw [Yb,Qou] at hput
 have hgd:(dig (2 ^ 51) 5 (num 256 k % 2 ^ i)).getD (i / 51) 0 = y:=by rw [Jf]; unfold ofX at hy; rw [hy]; rfl
 rw [hgd] at hput
 have hset:=T8 .u64 (ofX (num 256 k) i) (i / 51) (y ||| num 256 k / 2 ^ i % 2 * 2 ^ (i % 51))
 rw [show (ofX (num 256 k) i).set (i / 51) (y ||| num 256 k / 2 ^ i % 2 * 2 ^ (i % 51)) = ofX (num 256 k) (i + 1) from hput] at hset
 have hbl:=Qfp (num 256 k) i
 have h50:(2:Nat) ^ (i % 51) ≤ 2 ^ 50:=Ve (by decide) (by have:=Js i (by decide:0 < 51); omega)
 have hprod:num 256 k / 2 ^ i % 2 * 2 ^ (i % 51) ≤ 1 * 2 ^ 50:=Wm (by omega) h50
 have s1:(2:Int) ^ min (i % 8) IntKind.u8.bits = ((2 ^ (i % 8):Nat):Int):=T5 (Um (Js _ (by decide)))
 have s2:(2:Int) ^ min (i % 51) IntKind.u64.bits = ((2 ^ (i % 51):Nat):Int):=T5 (by have:=Js i (by decide:0 < 51); exact Ul (Um this) (by decide))
 have o1:Vf .or .u64 (y:Int) ((num 256 k / 2 ^ i % 2 * 2 ^ (i % 51):Nat):Int) = ((y ||| num 256 k / 2 ^ i % 2 * 2 ^ (i % 51):Nat):Int):=Gy rfl (by show _ < 18446744073709551616; omega) (by show _ < 18446744073709551616; omega)
 have n1:(num 256 k / 2 ^ i % 2 * 2 ^ (i % 51)) % 18446744073709551616 = num 256 k / 2 ^ i % 2 * 2 ^ (i % 51):=by omega
 have n2:(num 256 k / 2 ^ i % 2) % 18446744073709551616 = num 256 k / 2 ^ i % 2:=by omega
 have w1:IntKind.i64.wrap ((i / 51:Nat):Int) = ((i / 51:Nat):Int):=Yp (by omega)
 have w2:IntKind.i64.wrap ((i / 8:Nat):Int) = ((i / 8:Nat):Int):=Yp (by omega)
 have w3:IntKind.i64.wrap ((i + 1:Nat):Int) = ((i + 1:Nat):Int):=Yp (by omega)
 have e1:((i:Int) < 255) = True:=eq_true (by omega)
 have e2:(((i / 51:Nat):Int) < 5) = True:=eq_true (by omega)
 have e3:(((i / 8:Nat):Int) < 32) = True:=eq_true (by omega)
 have e4:(((i % 8:Nat):Int) < 0) = False:=eq_false (by omega)
 have e5:(((i % 51:Nat):Int) < 0) = False:=eq_false (by omega)
 have e6:i / 51 + 1 ≤ 5:=by omega
 simp only [Qnp,Qix,Jh,quiet,cF,↓pF,reduceCtorEq,Qd,Qp,Zo,V1,↓J7,↓J6,↓Xr,↓Xu,↓Xs,↓Xt,cL,Qo,Qn,Q2,Q1,Qy,Qr,Qq,Q0,Qe,Q8,Q9,Qz,Qi,Qh,Qg,Qx,Qw,Qv,Qm,Qf,cJ,cU,hbc,hyc,hbit,s1,s2,o1,n1,n2,w1,w2,w3,e1,e2,e3,e4,e5,e6,hset,Kr,hlen]
theorem Qtg {k:List Nat} (lk:k.length = 32) (xk:∀ x ∈ k,x < 256):Vs T 36 [.agg (u8s k).toArray] = some (eV (dig (2 ^ 51) 5 (num 256 k % 2 ^ 255))):=by
 have hz:Qa 5 (Value.int .u64 0) = ns .u64 [0,0,0,0,0]:=rfl
 have hb:=Uk (T:=T) (base:=0) (id:=0) (body:=Qix) (fun i => Qnp k (ofX (num 256 k) i) i []) (s':=Qnp k (ofX (num 256 k) 255) 255 [(6,.bool false)]) 255 (fun i hi => Qxg lk xk hi) (by
  simp only [Qnp,Qix,Jh,quiet,cF,↓pF,reduceCtorEq,Qd,Qp,Zo,V1,↓J7,↓J6,↓Xr,↓Xu,↓Xs,↓Xt,cL,Qo,Qn,Q2,Q1,Qy,Qr,Qq,Q0,Qe,Q8,Q9,Qz,Qi,Qh,Qg,Qx,Qw,Qv,Qm,Qf])
 have h0:ofX (num 256 k) 0 = [0,0,0,0,0]:=by unfold ofX; rw [W0,Q7u]; decide
 rw [h0] at hb
 have hlen:(ofX (num 256 k) 255).length = 5:=Vj _ _ _
 rw [show dig (2 ^ 51) 5 (num 256 k % 2 ^ 255) = ofX (num 256 k) 255 from rfl]
 generalize ofX (num 256 k) 255 = X at *
 simp only [Qnp,Zb,Q6,Vm] at hb
 apply K8
 apply Jl
 rw [Jg (fn:=a49) rfl]
 have hl5:(ns .u64 [0,0,0,0,0]).length = 5:=rfl
 simp only [a49,Jh,quiet,cF,↓pF,reduceCtorEq,Qd,Qp,Zo,V1,↓J7,↓J6,↓Xr,↓Xu,↓Xs,↓Xt,cL,Qo,Qn,Q2,Q1,Qy,Qr,Qq,Q0,Qe,Q8,Q9,Qz,Qi,Qh,Qg,Qx,Qw,Qv,Qm,Qf,cJ,hz,hb,Qnp,eV,hl5,Kr,hlen]
 rfl
theorem Qnq {V:Nat}:El (dig (2 ^ 51) 5 V) (2 ^ 52):=⟨Vj _ _ _,fun x hx => by have:=Gr (by decide) hx; omega⟩
theorem Qfb {V:Nat}:v51 (dig (2 ^ 51) 5 (V % 2 ^ 255)) = V % 2 ^ 255:=by
 have h:=Uz (B:=2 ^ 51) (by decide) 5 (V % 2 ^ 255)
 rw [show ((2:Nat) ^ 51) ^ 5 = 2 ^ 255 from by rw [← Ys],Qcj] at h
 exact h
theorem dm (a b:Nat):∃ r,a = b * (a / b) + r ∧ a % b = r ∧ (0 < b → r < b):=⟨a % b,(Yb a b).symm,rfl,fun h => Js _ h⟩
theorem Qum {x0 x1 x2 x3 x4:Nat} (h0:x0 < 9223372036854775808) (h1:x1 < 9223372036854775808) (h2:x2 < 9223372036854775808) (h3:x3 < 9223372036854775808) (h4:x4 < 9223372036854775808) :
  ∃ y0 y1 y2 y3 y4 z0 z1 z2 z3 z4,Mw x0 x1 x2 x3 x4 = [y0,y1,y2,y3,y4] ∧ y0 < 9223372036854775808 ∧ y1 < 9223372036854775808 ∧ y2 < 9223372036854775808 ∧ y3 < 9223372036854775808 ∧ y4 < 9223372036854775808 ∧
   Mw y0 y1 y2 y3 y4 = [z0,z1,z2,z3,z4] ∧ z0 < 2251799813685248 + 19 ∧ z1 < 2251799813685248 ∧ z2 < 2251799813685248 ∧ z3 < 2251799813685248 ∧ z4 < 2251799813685248 ∧ (∃ k,v51 [z0,z1,z2,z3,z4] + k * Go.Fp.P = v51 [x0,x1,x2,x3,x4]):=by
 have key:∀ y0 y1 y2 y3 y4:Nat,y0 < 2251799813685248 + 19 * 8192 → y1 < 2251799813685248 → y2 < 2251799813685248 → y3 < 2251799813685248 → y4 < 2251799813685248 → Mw x0 x1 x2 x3 x4 = [y0,y1,y2,y3,y4] →
   ∃ z0 z1 z2 z3 z4,Mw y0 y1 y2 y3 y4 = [z0,z1,z2,z3,z4] ∧ z0 < 2251799813685248 + 19 ∧ z1 < 2251799813685248 ∧ z2 < 2251799813685248 ∧ z3 < 2251799813685248 ∧ z4 < 2251799813685248 ∧ (∃ k,v51 [z0,z1,z2,z3,z4] + k * Go.Fp.P = v51 [x0,x1,x2,x3,x4]):=by
  intro y0 y1 y2 y3 y4 b0 b1 b2 b3 b4 hy
  refine ⟨_,_,_,_,_,rfl,?_,Js _ (by decide),Js _ (by decide),Js _ (by decide),Js _ (by decide),?_⟩
  ·have c0:y0 / 2251799813685248 ≤ 1:=by omega
   have c1:(y1 + y0 / 2251799813685248) / 2251799813685248 ≤ 1:=by omega
   have c2:(y2 + (y1 + y0 / 2251799813685248) / 2251799813685248) / 2251799813685248 ≤ 1:=by omega
   have c3:(y3 + (y2 + (y1 + y0 / 2251799813685248) / 2251799813685248) / 2251799813685248) / 2251799813685248 ≤ 1:=by omega
   generalize (y3 + (y2 + (y1 + y0 / 2251799813685248) / 2251799813685248) / 2251799813685248) / 2251799813685248 = c at *
   rcases Yc y0 2251799813685248 with h | h
   ·
    have d0:y0 / 2251799813685248 = 0:=by omega
    have c4:(y4 + c) / 2251799813685248 ≤ 1:=by omega
    have:=Js y0 (by decide:0 < 2251799813685248)
    omega
   ·have c4:(y4 + c) / 2251799813685248 ≤ 1:=by omega
    have:=Js y0 (by decide:0 < 2251799813685248)
    omega
  ·obtain ⟨k1,e1⟩:=Qd1 (x0:=y0) (x1:=y1) (x2:=y2) (x3:=y3) (x4:=y4)
   obtain ⟨k2,e2⟩:=Qd1 (x0:=x0) (x1:=x1) (x2:=x2) (x3:=x3) (x4:=x4)
   rw [hy] at e2
   refine ⟨k1 + k2,?_⟩
   rw [Vo,← Vl,← e2,← e1]
   rfl
 have c0:x0 / 2251799813685248 < 8192:=by omega
 have c1:(x1 + x0 / 2251799813685248) / 2251799813685248 < 8192:=by omega
 have c2:(x2 + (x1 + x0 / 2251799813685248) / 2251799813685248) / 2251799813685248 < 8192:=by omega
 have c3:(x3 + (x2 + (x1 + x0 / 2251799813685248) / 2251799813685248) / 2251799813685248) / 2251799813685248 < 8192:=by omega
 have c4:(x4 + (x3 + (x2 + (x1 + x0 / 2251799813685248) / 2251799813685248) / 2251799813685248) / 2251799813685248) / 2251799813685248 < 8192:=by omega
 have m0:=Js x0 (by decide:0 < 2251799813685248)
 have m1:=Js (x1 + x0 / 2251799813685248) (by decide:0 < 2251799813685248)
 have m2:=Js (x2 + (x1 + x0 / 2251799813685248) / 2251799813685248) (by decide:0 < 2251799813685248)
 have m3:=Js (x3 + (x2 + (x1 + x0 / 2251799813685248) / 2251799813685248) / 2251799813685248) (by decide:0 < 2251799813685248)
 have m4:=Js (x4 + (x3 + (x2 + (x1 + x0 / 2251799813685248) / 2251799813685248) / 2251799813685248) / 2251799813685248) (by decide:0 < 2251799813685248)
 obtain ⟨z0,z1,z2,z3,z4,g1,g2⟩:=key _ _ _ _ _ (by
  generalize (x4 + (x3 + (x2 + (x1 + x0 / 2251799813685248) / 2251799813685248) / 2251799813685248) / 2251799813685248) / 2251799813685248 = c at *
  generalize x0 % 2251799813685248 = r at *
  show r + 19 * c < _
  omega) m1 m2 m3 m4 rfl
 refine ⟨_,_,_,_,_,z0,z1,z2,z3,z4,rfl,?_,W9 m1 (by decide),W9 m2 (by decide),W9 m3 (by decide),W9 m4 (by decide),g1,g2⟩
 generalize (x4 + (x3 + (x2 + (x1 + x0 / 2251799813685248) / 2251799813685248) / 2251799813685248) / 2251799813685248) / 2251799813685248 = c at *
 generalize x0 % 2251799813685248 = r at *
 show r + 19 * c < _
 omega
def Qk6 (z0 z1 z2 z3 z4:Nat):Nat:=(z4 + (z3 + (z2 + (z1 + (z0 + 19) / 2251799813685248) / 2251799813685248) / 2251799813685248) / 2251799813685248) / 2251799813685248
def Qua (z0 z1 z2 z3 z4:Nat):List Nat :=
 let u0:=z0 / 2251799813685248
 let u1:=(z1 + u0) / 2251799813685248
 let u2:=(z2 + u1) / 2251799813685248
 let u3:=(z3 + u2) / 2251799813685248
 [z0 % 2251799813685248,(z1 + u0) % 2251799813685248,(z2 + u1) % 2251799813685248,(z3 + u2) % 2251799813685248,(z4 + u3) % 2251799813685248]
theorem Q1z {z0 z1 z2 z3 z4:Nat} (h0:z0 < 2251799813685248 + 19) (h1:z1 < 2251799813685248) (h2:z2 < 2251799813685248) (h3:z3 < 2251799813685248) (h4:z4 < 2251799813685248) :
  Qk6 z0 z1 z2 z3 z4 ≤ 1 ∧ Qua (z0 + 19 * Qk6 z0 z1 z2 z3 z4) z1 z2 z3 z4 = dig (2 ^ 51) 5 (v51 [z0,z1,z2,z3,z4] % Go.Fp.P):=by
 have hc:Qk6 z0 z1 z2 z3 z4 ≤ 1 ∧ ((Qk6 z0 z1 z2 z3 z4 = 0 ∧ v51 [z0,z1,z2,z3,z4] < Go.Fp.P) ∨ (Qk6 z0 z1 z2 z3 z4 = 1 ∧ Go.Fp.P ≤ v51 [z0,z1,z2,z3,z4])):=by
  simp only [Qk6,v51,num,Go.Fp.Qbn]
  obtain ⟨r0,e0,-,l0⟩:=dm (z0 + 19) 2251799813685248
  generalize (z0 + 19) / 2251799813685248 = t0 at *
  obtain ⟨r1,e1,-,l1⟩:=dm (z1 + t0) 2251799813685248
  generalize (z1 + t0) / 2251799813685248 = t1 at *
  obtain ⟨r2,e2,-,l2⟩:=dm (z2 + t1) 2251799813685248
  generalize (z2 + t1) / 2251799813685248 = t2 at *
  obtain ⟨r3,e3,-,l3⟩:=dm (z3 + t2) 2251799813685248
  generalize (z3 + t2) / 2251799813685248 = t3 at *
  obtain ⟨r4,e4,-,l4⟩:=dm (z4 + t3) 2251799813685248
  generalize (z4 + t3) / 2251799813685248 = t4 at *
  have l0:=l0 (by decide)
  have l1:=l1 (by decide)
  have l2:=l2 (by decide)
  have l3:=l3 (by decide)
  have l4:=l4 (by decide)
  omega
 have hP:=Go.Fp.Qbn
 obtain ⟨hc1,hc2⟩:=hc
 refine ⟨hc1,?_⟩
 generalize Qk6 z0 z1 z2 z3 z4 = c at *
 have hlt:∀ x ∈ Qua (z0 + 19 * c) z1 z2 z3 z4,x < 2251799813685248:=by
  intro x hx
  simp only [Qua,Y6,Y7,or_false] at hx
  rcases hx with h | h | h | h | h <;> (rw [h]; exact Js _ (by decide))
 have hnum:num 2251799813685248 (Qua (z0 + 19 * c) z1 z2 z3 z4) = v51 [z0,z1,z2,z3,z4] % Go.Fp.P:=by
  have hV:v51 [z0,z1,z2,z3,z4] % Go.Fp.P = v51 [z0,z1,z2,z3,z4] - c * Go.Fp.P:=by
   rcases hc2 with ⟨g1,g2⟩ | ⟨g1,g2⟩
   ·rw [Z2 g2,g1]; omega
   ·have g3:v51 [z0,z1,z2,z3,z4] < Go.Fp.P + Go.Fp.P:=by
     simp only [v51,num,Go.Fp.Qbn] at *
     omega
    rw [g1,Uw,Nat.mod_eq_sub_mod g2,Z2 (by omega)]
  rw [hV]
  simp only [Qua,v51,num,Go.Fp.Qbn] at hc2 ⊢
  obtain ⟨r0,e0,f0,l0⟩:=dm (z0 + 19 * c) 2251799813685248
  rw [f0]
  generalize (z0 + 19 * c) / 2251799813685248 = t0 at *
  obtain ⟨r1,e1,f1,l1⟩:=dm (z1 + t0) 2251799813685248
  rw [f1]
  generalize (z1 + t0) / 2251799813685248 = t1 at *
  obtain ⟨r2,e2,f2,l2⟩:=dm (z2 + t1) 2251799813685248
  rw [f2]
  generalize (z2 + t1) / 2251799813685248 = t2 at *
  obtain ⟨r3,e3,f3,l3⟩:=dm (z3 + t2) 2251799813685248
  rw [f3]
  generalize (z3 + t2) / 2251799813685248 = t3 at *
  obtain ⟨r4,e4,f4,l4⟩:=dm (z4 + t3) 2251799813685248
  rw [f4]
  generalize (z4 + t3) / 2251799813685248 = t4 at *
  have l0:=l0 (by decide)
  have l1:=l1 (by decide)
  have l2:=l2 (by decide)
  have l3:=l3 (by decide)
  have l4:=l4 (by decide)
  rcases hc2 with ⟨g1,g2⟩ | ⟨g1,g2⟩ <;> subst g1 <;> omega
 have h5:=Qad (B:=2251799813685248) (by decide) hlt
 rw [hnum] at h5
 exact h5.symm
def byX (V i:Nat):List Nat:=dig (2 ^ 8) 32 (V % 2 ^ i)
def Ql5 (x k:List Nat) (R:Ob) (i:Nat) (ex:Env):St:=⟨[(1,.pointer (some ⟨0,0,none⟩)),(2,.pointer (some ⟨1,0,none⟩)),(6,.pointer (some ⟨2,0,none⟩)),(54,.int .i64 i)] ++ ex,[⟨ns .u64 x,true,true,true,1⟩,R,⟨u8s k,true,true,true,1⟩],[]⟩
theorem Qyz {V:Nat} {R:Ob} {i:Nat} (hi:i < 255) :
  J9 T 0 Qfr (Ql5 (dig (2 ^ 51) 5 V) (byX V i) R i []) = some (.normal,Ql5 (dig (2 ^ 51) 5 V) (byX V (i + 1)) R (i + 1) []):=by
 obtain ⟨b,hb⟩:∃ b,(dig (2 ^ 51) 5 V)[i / 51]? = some b:=⟨_,Qt (by rw [Vj]; omega)⟩
 have hbv:V / (2 ^ 51) ^ (i / 51) % 2 ^ 51 = b:=by rw [Dc (by omega)] at hb; exact B5 hb
 have hbc:=Ut (k := .u64) hb
 have hlen:(byX V i).length = 32:=Vj _ _ _
 obtain ⟨y,hy⟩:∃ b,(byX V i)[i / 8]? = some b:=⟨_,Qt (by omega)⟩
 have hyc:=Uh hy
 have hy':y < 2 ^ 8:=Gr (by decide) (Zs hy)
 have hbit:b / 2 ^ (i % 51) % 2 = V / 2 ^ i % 2:=by
  rw [← hbv,Qov (Js _ (by decide)),Yb]
 have hsm:(2:Nat) ^ (i % 8) ≤ 2 ^ 7:=Ve (by decide) (by have:=Js i (by decide:0 < 8); omega)
 have hbl:=Qfp V i
 have hprod:V / 2 ^ i % 2 * 2 ^ (i % 8) ≤ 1 * 2 ^ 7:=Wm (by omega) hsm
 have hput:=Qgu (w:=8) (m:=32) (q:=i / 8) (s:=i % 8) (y:=V / 2 ^ i % 2) (M:=V % 2 ^ i) (by omega) (Js _ (by decide)) (by rw [Yb]; exact Js _ (Wx (by decide))) (by omega)
 rw [Yb,Qou] at hput
 have hgd:(dig (2 ^ 8) 32 (V % 2 ^ i)).getD (i / 8) 0 = y:=by rw [Jf]; unfold byX at hy; rw [hy]; rfl
 rw [hgd] at hput
 have hset:=Gt (byX V i) (i / 8) (y ||| V / 2 ^ i % 2 * 2 ^ (i % 8))
 rw [show (byX V i).set (i / 8) (y ||| V / 2 ^ i % 2 * 2 ^ (i % 8)) = byX V (i + 1) from hput] at hset
 have s1:(2:Int) ^ min (i % 8) IntKind.u8.bits = ((2 ^ (i % 8):Nat):Int):=T5 (Um (Js _ (by decide)))
 have s2:(2:Int) ^ min (i % 51) IntKind.u64.bits = ((2 ^ (i % 51):Nat):Int):=T5 (by have:=Js i (by decide:0 < 51); exact Ul (Um this) (by decide))
 have o1:Vf .or .u8 (y:Int) ((V / 2 ^ i % 2 * 2 ^ (i % 8):Nat):Int) = ((y ||| V / 2 ^ i % 2 * 2 ^ (i % 8):Nat):Int):=Gy rfl (by show _ < 256; omega) (by show _ < 256; omega)
 have n1:(V / 2 ^ i % 2 * 2 ^ (i % 8)) % 256 = V / 2 ^ i % 2 * 2 ^ (i % 8):=by omega
 have n2:(V / 2 ^ i % 2) % 256 = V / 2 ^ i % 2:=by omega
 have w1:IntKind.i64.wrap ((i / 51:Nat):Int) = ((i / 51:Nat):Int):=Yp (by omega)
 have w2:IntKind.i64.wrap ((i / 8:Nat):Int) = ((i / 8:Nat):Int):=Yp (by omega)
 have w3:IntKind.i64.wrap ((i + 1:Nat):Int) = ((i + 1:Nat):Int):=Yp (by omega)
 have e1:((i:Int) < 255) = True:=eq_true (by omega)
 have e2:(((i / 51:Nat):Int) < 5) = True:=eq_true (by omega)
 have e3:(((i / 8:Nat):Int) < 32) = True:=eq_true (by omega)
 have e4:(((i % 8:Nat):Int) < 0) = False:=eq_false (by omega)
 have e5:(((i % 51:Nat):Int) < 0) = False:=eq_false (by omega)
 have e6:i / 8 + 1 ≤ 32:=by omega
 simp only [Ql5,Qfr,Jh,quiet,cF,↓pF,reduceCtorEq,Qd,Qp,Zo,V1,↓J7,↓J6,↓Xr,↓Xu,↓Xs,↓Xt,cL,Qo,Qn,Q2,Q1,Qy,Qr,Qq,Q0,Qe,Q8,Q9,Qz,Qi,Qh,Qg,Qx,Qw,Qv,Qm,Qf,cJ,cU,hbc,hyc,hbit,s1,s2,o1,n1,n2,w1,w2,w3,e1,e2,e3,e4,e5,e6,hset,Zt,hlen]
theorem Quo {V:Nat} {R:Ob} (hV:V < 2 ^ 255):J9 T 0 (.block 4 (.loop Qfr)) (Ql5 (dig (2 ^ 51) 5 V) (dig 256 32 0) R 0 []) = some (.normal,Ql5 (dig (2 ^ 51) 5 V) (dig 256 32 V) R 255 [(55,.bool false)]):=by
 have hb:=Uk (T:=T) (base:=0) (id:=4) (body:=Qfr) (fun i => Ql5 (dig (2 ^ 51) 5 V) (byX V i) R i []) (s':=Ql5 (dig (2 ^ 51) 5 V) (byX V 255) R 255 [(55,.bool false)]) 255 (fun i hi => Qyz hi) (by
  simp only [Ql5,Qfr,Jh,quiet,cF,↓pF,reduceCtorEq,Qd,Qp,Zo,V1,↓J7,↓J6,↓Xr,↓Xu,↓Xs,↓Xt,cL,Qo,Qn,Q2,Q1,Qy,Qr,Qq,Q0,Qe,Q8,Q9,Qz,Qi,Qh,Qg,Qx,Qw,Qv,Qm,Qf])
 rw [show byX V 0 = dig 256 32 0 from by unfold byX; rw [W0,Q7u],show byX V 255 = dig 256 32 V from by unfold byX; rw [Z2 hV]] at hb
 exact hb
theorem Qun {x0 x1 x2 x3 x4:Nat} (h0:x0 < 9223372036854775808) (h1:x1 < 9223372036854775808) (h2:x2 < 9223372036854775808) (h3:x3 < 9223372036854775808) (h4:x4 < 9223372036854775808) :
  Vs T 42 [eV [x0,x1,x2,x3,x4]] = some (.agg (u8s (dig 256 32 (v51 [x0,x1,x2,x3,x4] % Go.Fp.P))).toArray):=by
 obtain ⟨y0,y1,y2,y3,y4,z0,z1,z2,z3,z4,hy,a0,a1,a2,a3,a4,hz,b0,b1,b2,b3,b4,⟨kk,hk⟩⟩:=Qum h0 h1 h2 h3 h4
 have hV:v51 [x0,x1,x2,x3,x4] % Go.Fp.P = v51 [z0,z1,z2,z3,z4] % Go.Fp.P:=by rw [← hk,Hw]
 obtain ⟨hc,hfin⟩:=Q1z b0 b1 b2 b3 b4
 have c1:=Tr h0 h1 h2 h3 h4
 have c2:=Tr a0 a1 a2 a3 a4
 rw [hy] at c1
 rw [hz] at c2
 have hN:v51 [z0,z1,z2,z3,z4] % Go.Fp.P < 2 ^ 255:=W9 (Js _ (by decide)) (by rw [Go.Fp.Qbn]; decide)
 have hb:=Quo (R:=⟨u8s (dig 256 32 0),true,true,true,1⟩) hN
 rw [hV]
 generalize v51 [z0,z1,z2,z3,z4] % Go.Fp.P = N at *
 have hz5:Qa 5 (Value.int .u64 0) = [.int .u64 0,.int .u64 0,.int .u64 0,.int .u64 0,.int .u64 0]:=rfl
 have hz32:Qa 32 (Value.int .u8 0) = u8s (dig 256 32 0):=rfl
 have hr5:∀ a b c d e:Int,rf (.agg [.int .u64 a,.int .u64 b,.int .u64 c,.int .u64 d,.int .u64 e].toArray) = true:=fun _ _ _ _ _ => rfl
 have hlk:(dig 256 32 N).length = 32:=Vj _ _ _
 have hl0:(dig 256 32 0).length = 32:=rfl
 have f0:(z0 + 19) % 18446744073709551616 = z0 + 19:=by omega
 have f1:(z1 + (z0 + 19) / 2251799813685248) % 18446744073709551616 = z1 + (z0 + 19) / 2251799813685248:=by omega
 have f2:(z2 + (z1 + (z0 + 19) / 2251799813685248) / 2251799813685248) % 18446744073709551616 = z2 + (z1 + (z0 + 19) / 2251799813685248) / 2251799813685248:=by
  generalize (z1 + (z0 + 19) / 2251799813685248) = t at *; omega
 have f3:(z3 + (z2 + (z1 + (z0 + 19) / 2251799813685248) / 2251799813685248) / 2251799813685248) % 18446744073709551616 = z3 + (z2 + (z1 + (z0 + 19) / 2251799813685248) / 2251799813685248) / 2251799813685248:=by
  have:(z2 + (z1 + (z0 + 19) / 2251799813685248) / 2251799813685248) / 2251799813685248 < 2251799813685248:=by omega
  generalize (z2 + (z1 + (z0 + 19) / 2251799813685248) / 2251799813685248) / 2251799813685248 = t at *; omega
 have f4:(z4 + (z3 + (z2 + (z1 + (z0 + 19) / 2251799813685248) / 2251799813685248) / 2251799813685248) / 2251799813685248) % 18446744073709551616 = z4 + (z3 + (z2 + (z1 + (z0 + 19) / 2251799813685248) / 2251799813685248) / 2251799813685248) / 2251799813685248:=by
  have:(z2 + (z1 + (z0 + 19) / 2251799813685248) / 2251799813685248) / 2251799813685248 < 2251799813685248:=by omega
  generalize (z2 + (z1 + (z0 + 19) / 2251799813685248) / 2251799813685248) / 2251799813685248 = t at *; omega
 have ft:(z4 + (z3 + (z2 + (z1 + (z0 + 19) / 2251799813685248) / 2251799813685248) / 2251799813685248) / 2251799813685248) / 2251799813685248 = Qk6 z0 z1 z2 z3 z4:=rfl
 generalize Qk6 z0 z1 z2 z3 z4 = c at *
 have g0:19 * c % 18446744073709551616 = 19 * c:=by omega
 have g1:(z0 + 19 * c) % 18446744073709551616 = z0 + 19 * c:=by omega
 have g2:(z0 + 19 * c + 0) % 18446744073709551616 = z0 + 19 * c:=by omega
 have k0:(z0 + 19 * c) / 2251799813685248 < 8:=by omega
 have g3:(z1 + (z0 + 19 * c) / 2251799813685248) % 18446744073709551616 = z1 + (z0 + 19 * c) / 2251799813685248:=by omega
 have k1:(z1 + (z0 + 19 * c) / 2251799813685248) / 2251799813685248 < 8:=by omega
 have g4:(z2 + (z1 + (z0 + 19 * c) / 2251799813685248) / 2251799813685248) % 18446744073709551616 = z2 + (z1 + (z0 + 19 * c) / 2251799813685248) / 2251799813685248:=by
  generalize (z1 + (z0 + 19 * c) / 2251799813685248) / 2251799813685248 = t at *; omega
 have k2:(z2 + (z1 + (z0 + 19 * c) / 2251799813685248) / 2251799813685248) / 2251799813685248 < 8:=by
  generalize (z1 + (z0 + 19 * c) / 2251799813685248) / 2251799813685248 = t at *; omega
 have g5:(z3 + (z2 + (z1 + (z0 + 19 * c) / 2251799813685248) / 2251799813685248) / 2251799813685248) % 18446744073709551616 = z3 + (z2 + (z1 + (z0 + 19 * c) / 2251799813685248) / 2251799813685248) / 2251799813685248:=by
  generalize (z2 + (z1 + (z0 + 19 * c) / 2251799813685248) / 2251799813685248) / 2251799813685248 = t at *; omega
 have k3:(z3 + (z2 + (z1 + (z0 + 19 * c) / 2251799813685248) / 2251799813685248) / 2251799813685248) / 2251799813685248 < 8:=by
  generalize (z2 + (z1 + (z0 + 19 * c) / 2251799813685248) / 2251799813685248) / 2251799813685248 = t at *; omega
 have g6:(z4 + (z3 + (z2 + (z1 + (z0 + 19 * c) / 2251799813685248) / 2251799813685248) / 2251799813685248) / 2251799813685248) % 18446744073709551616 = z4 + (z3 + (z2 + (z1 + (z0 + 19 * c) / 2251799813685248) / 2251799813685248) / 2251799813685248) / 2251799813685248:=by
  generalize (z3 + (z2 + (z1 + (z0 + 19 * c) / 2251799813685248) / 2251799813685248) / 2251799813685248) / 2251799813685248 = t at *; omega
 rw [← hfin] at hb
 simp only [eV,Rp,Qa9] at c1 c2 ⊢
 simp only [Ql5,Qua,Rp,Qa9,Zb,Q6,Vm] at hb
 apply K8
 apply Jl
 rw [Jg (fn:=a57) rfl]
 have u0:=fun s => @Un T 0 Qiv s
 have u1:=fun s => @Un T 0 Qiw s
 have v0:=fun s => @Ju T 0 0 (.loop Qiv) s
 have v1:=fun s => @Ju T 0 2 (.loop Qiw) s
 have d0:∀ s,J9 T 0 Qiv s = J9 T 0 _ s:=fun s => congrArg (fun c => J9 T 0 c s) Qiv.eq_1
 have d1:∀ s,J9 T 0 Qiw s = J9 T 0 _ s:=fun s => congrArg (fun c => J9 T 0 c s) Qiw.eq_1
 simp only [a57,Jh,quiet,cF,↓pF,reduceCtorEq,Qd,Qp,Zo,V1,↓J7,↓J6,↓Xr,↓Xu,↓Xs,↓Xt,cL,Qo,Qn,Q2,Q1,Qy,Qr,Qq,Q0,Qe,Q8,Q9,Qz,Qi,Qh,Qg,Qx,Qw,Qv,Qm,Qf,cJ,cU,hz5,hz32,c1,c2,hr5,u0,u1,v0,v1,d0,d1,f0,f1,f2,f3,f4,ft,g0,g1,g2,g3,g4,g5,g6,hb,Zt,hlk,hl0]
 rfl
theorem key_inj {a b:Nat} (ha:a < 256 ^ 32) (hb:b < 256 ^ 32):(dig 256 32 a == dig 256 32 b) = decide (a = b):=by
 by_cases h:a = b
 ·subst h; simp
 ·have:¬ dig 256 32 a = dig 256 32 b:=fun he => h (by
   have h1:=congrArg (num 256) he
   rwa [Uz (by decide),Uz (by decide),Z2 ha,Z2 hb] at h1)
  rw [decide_eq_false h,beq_eq_false_iff_ne.2 this]
theorem P_lt:Go.Fp.P < 256 ^ 32:=by rw [Go.Fp.Qbn]; decide
theorem Q7f (l:List Nat):(fe l).val = v51 l % Go.Fp.P:=rfl
theorem Qaf {l:List Nat} (h:El l (2 ^ 52)):Vs T 42 [eV l] = some (.agg (u8s (dig 256 32 (fe l).val)).toArray):=by
 obtain ⟨x0,x1,x2,x3,x4,rfl,a0,a1,a2,a3,a4⟩:=h.five
 exact Qun (by omega) (by omega) (by omega) (by omega) (by omega)
theorem Q4g (a:Go.Fp.Fe):a.val < 256 ^ 32:=W9 a.isLt P_lt
theorem Qyk (a b:Go.Fp.Fe):(dig 256 32 a.val == dig 256 32 b.val) = decide (a = b):=by
 rw [key_inj (Q4g a) (Q4g b)]
 by_cases h:a = b
 ·subst h; simp
 ·have:¬ a.val = b.val:=fun he => h (Fin.ext he)
  rw [decide_eq_false h,decide_eq_false this]
theorem Xv (l:List Nat):(eV l).cells.toList = ns .u64 l:=rfl
theorem Ko (l:List Nat):(eV l).cells.size = l.length:=Kr _ _
theorem Yg (l:List Nat):Vy (eV l) = true:=rfl
theorem Kp (l:List Nat):Value.agg (ns .u64 l).toArray = eV l:=rfl
theorem Q14 {x y:List Nat} (hx:El x (2 ^ 52)) (hy:El y (2 ^ 52)):Vs T 98 [eV x,eV y] = some (.bool (decide (fe x = fe y))):=by
 have h1:=Qaf hx
 have h2:=Qaf hy
 have l1:=hx.len
 have l2:=hy.len
 apply K8
 apply Jl
 rw [Jg (fn:=a55) rfl]
 simp only [a55,Jh,quiet,cF,↓pF,reduceCtorEq,Qd,Qp,Zo,V1,↓J7,↓J6,↓Xr,↓Xu,↓Xs,↓Xt,cL,Qo,Qn,Q2,Q1,Qy,Qr,Qq,Q0,Qe,Q8,Q9,Qz,Qi,Qh,Qg,Qx,Qw,Qv,Qm,Qf,cJ,Xv,Ko,Yg,Kp,Kr,l1,l2,h1,h2,Hp,Vj,Qyk,V9]
 rfl
theorem Qxz {x:List Nat} (hx:El x (2 ^ 52)):Vs T 80 [eV x] = some (.bool (decide (fe x = 0))):=by
 have h1:=Qaf hx
 have l1:=hx.len
 have f0:fillL (Qa 32 (Value.int .u8 0)) [] = some (u8s (dig 256 32 (0:Go.Fp.Fe).val)):=rfl
 apply K8
 apply Jl
 rw [Jg (fn:=a63) rfl]
 simp only [a63,Jh,quiet,cF,↓pF,reduceCtorEq,Qd,Qp,Zo,V1,↓J7,↓J6,↓Xr,↓Xu,↓Xs,↓Xt,cL,Qo,Qn,Q2,Q1,Qy,Qr,Qq,Q0,Qe,Q8,Q9,Qz,Qi,Qh,Qg,Qx,Qw,Qv,Qm,Qf,cJ,Xv,Ko,Yg,Kp,Kr,l1,h1,f0,Hp,Vj,Qyk,V9]
 rfl
theorem Qxh {x:List Nat} (hx:El x (2 ^ 52)):Vs T 55 [eV x] = some (.bool (decide ((fe x).val % 2 = 1))):=by
 have h1:=Qaf hx
 have l1:=hx.len
 have h0:(u8s (dig 256 32 (fe x).val))[0]? = some (.int .u8 (((fe x).val % 256:Nat):Int)):=by
  apply Uh
  rw [Dc (by decide),W0,Ux]
 have hm:(fe x).val % 256 % 2 = (fe x).val % 2:=by omega
 have hd:((((fe x).val % 2:Nat):Int) == 1) = decide ((fe x).val % 2 = 1):=by
  by_cases h:(fe x).val % 2 = 1
  ·rw [h]; rfl
  ·have:¬ ((((fe x).val % 2:Nat):Int) = 1):=by omega
   rw [decide_eq_false h,beq_eq_false_iff_ne.2 this]
 apply K8
 apply Jl
 rw [Jg (fn:=a58) rfl]
 simp only [a58,Jh,quiet,cF,↓pF,reduceCtorEq,Qd,Qp,Zo,V1,↓J7,↓J6,↓Xr,↓Xu,↓Xs,↓Xt,cL,Qo,Qn,Q2,Q1,Qy,Qr,Qq,Q0,Qe,Q8,Q9,Qz,Qi,Qh,Qg,Qx,Qw,Qv,Qm,Qf,cJ,cU,Xv,Ko,Yg,Kp,Kr,l1,h1,h0,hm,hd,Zt,Vj,V9]
 rfl
theorem Qor {k:List Nat} (lk:k.length = 32) (xk:∀ x ∈ k,x < 256):Vs T 78 [.agg (u8s k).toArray] = some (.bool (decide (num 256 k < Go.Fp.P))):=by
 have h0:=Qtg lk xk
 have hel:=Qnq (V:=num 256 k % 2 ^ 255)
 have h1:=Qaf hel
 rw [Q7f,Qfb] at h1
 have hb:(dig 256 32 (num 256 k % 2 ^ 255 % Go.Fp.P) == k) = decide (num 256 k < Go.Fp.P):=by
  have hk:=Qad (B:=256) (by decide) xk
  rw [lk] at hk
  have hkl:=num_lt xk
  rw [lk] at hkl
  rw [show (dig 256 32 (num 256 k % 2 ^ 255 % Go.Fp.P) == k) = (dig 256 32 (num 256 k % 2 ^ 255 % Go.Fp.P) == dig 256 32 (num 256 k)) from by rw [hk]]
  have hP:=Go.Fp.Qbn
  rw [key_inj (W9 (Js _ (by rw [hP]; decide)) P_lt) hkl]
  by_cases h:num 256 k < Go.Fp.P
  ·rw [decide_eq_true h,Z2 (a:=num 256 k) (by rw [hP] at h; omega),Z2 h]; simp
  ·rw [decide_eq_false h,decide_eq_false]
   have:=Js (num 256 k % 2 ^ 255) (show 0 < Go.Fp.P by rw [hP]; decide)
   omega
 apply K8
 apply Jl
 rw [Jg (fn:=a59) rfl]
 simp only [a59,Jh,quiet,cF,↓pF,reduceCtorEq,Qd,Qp,Zo,V1,↓J7,↓J6,↓Xr,↓Xu,↓Xs,↓Xt,cL,Qo,Qn,Q2,Q1,Qy,Qr,Qq,Q0,Qe,Q8,Q9,Qz,Qi,Qh,Qg,Qx,Qw,Qv,Qm,Qf,cJ,Xv,Ko,Yg,Kp,Kr,Zt,lk,h0,h1,Hp,Vj,hb,V9]
 rfl
end Go.Ev.Ytpgphpkjlpkcbaa
set_option linter.unusedSimpArgs false
set_option linter.unusedVariables false
namespace Go.Ev.Ytpgphpkjlpkcbaa
open Go Go.Ev
attribute [local congr] Wq W3 Wp W4 Wg
set_option maxRecDepth 100000
theorem Qr6 {x0 x1 x2 x3 x4:Nat} (h0:x0 < 2 ^ 60) (h1:x1 < 2 ^ 60) (h2:x2 < 2 ^ 60) (h3:x3 < 2 ^ 60) (h4:x4 < 2 ^ 60):El (Mw x0 x1 x2 x3 x4) (2 ^ 52):=by
 simp only [Mw]
 have c0:x0 / 2251799813685248 < 1024:=by omega
 have c1:(x1 + x0 / 2251799813685248) / 2251799813685248 < 1024:=by omega
 have c2:(x2 + (x1 + x0 / 2251799813685248) / 2251799813685248) / 2251799813685248 < 1024:=by omega
 have c3:(x3 + (x2 + (x1 + x0 / 2251799813685248) / 2251799813685248) / 2251799813685248) / 2251799813685248 < 1024:=by omega
 have c4:(x4 + (x3 + (x2 + (x1 + x0 / 2251799813685248) / 2251799813685248) / 2251799813685248) / 2251799813685248) / 2251799813685248 < 1024:=by omega
 have m0:=Js x0 (by decide:0 < 2251799813685248)
 apply El.mk5
 ·generalize (x4 + (x3 + (x2 + (x1 + x0 / 2251799813685248) / 2251799813685248) / 2251799813685248) / 2251799813685248) / 2251799813685248 = c at *
  omega
 all_goals exact W9 (Js _ (by decide)) (by decide)
theorem Qr5 {x0 x1 x2 x3 x4:Nat}:fe (Mw x0 x1 x2 x3 x4) = fe [x0,x1,x2,x3,x4]:=by
 obtain ⟨k,hk⟩:=Qd1 (x0:=x0) (x1:=x1) (x2:=x2) (x3:=x3) (x4:=x4)
 exact Q4f hk
theorem Qaj {x y:List Nat} (hx:El x (2 ^ 52)) (hy:El y (2 ^ 52)):∃ r,Vs T 69 [eV x,eV y] = some (eV r) ∧ El r (2 ^ 52) ∧ fe r = fe x - fe y:=by
 obtain ⟨x0,x1,x2,x3,x4,rfl,a0,a1,a2,a3,a4⟩:=hx.five
 obtain ⟨y0,y1,y2,y3,y4,rfl,b0,b1,b2,b3,b4⟩:=hy.five
 refine ⟨Mw (x0 + (9007199254740988 - y0) - 72) (x1 + (9007199254740988 - y1)) (x2 + (9007199254740988 - y2)) (x3 + (9007199254740988 - y3)) (x4 + (9007199254740988 - y4)),?_,Qr6 (by omega) (by omega) (by omega) (by omega) (by omega),?_⟩
 ·have s0:(9007199254740988 + (18446744073709551616 - y0 % 18446744073709551616)) % 18446744073709551616 = 9007199254740988 - y0:=by omega
  have s1:(9007199254740988 + (18446744073709551616 - y1 % 18446744073709551616)) % 18446744073709551616 = 9007199254740988 - y1:=by omega
  have s2:(9007199254740988 + (18446744073709551616 - y2 % 18446744073709551616)) % 18446744073709551616 = 9007199254740988 - y2:=by omega
  have s3:(9007199254740988 + (18446744073709551616 - y3 % 18446744073709551616)) % 18446744073709551616 = 9007199254740988 - y3:=by omega
  have s4:(9007199254740988 + (18446744073709551616 - y4 % 18446744073709551616)) % 18446744073709551616 = 9007199254740988 - y4:=by omega
  have t0:(x0 + (9007199254740988 - y0)) % 18446744073709551616 = x0 + (9007199254740988 - y0):=by omega
  have t1:(x1 + (9007199254740988 - y1)) % 18446744073709551616 = x1 + (9007199254740988 - y1):=by omega
  have t2:(x2 + (9007199254740988 - y2)) % 18446744073709551616 = x2 + (9007199254740988 - y2):=by omega
  have t3:(x3 + (9007199254740988 - y3)) % 18446744073709551616 = x3 + (9007199254740988 - y3):=by omega
  have t4:(x4 + (9007199254740988 - y4)) % 18446744073709551616 = x4 + (9007199254740988 - y4):=by omega
  have r0:(x0 + (9007199254740988 - y0) + 18446744073709551544) % 18446744073709551616 = x0 + (9007199254740988 - y0) - 72:=by omega
  have c1:=Tr (x0:=x0 + (9007199254740988 - y0) - 72) (x1:=x1 + (9007199254740988 - y1)) (x2:=x2 + (9007199254740988 - y2)) (x3:=x3 + (9007199254740988 - y3)) (x4:=x4 + (9007199254740988 - y4)) (by omega) (by omega) (by omega) (by omega) (by omega)
  have hl:(Mw (x0 + (9007199254740988 - y0) - 72) (x1 + (9007199254740988 - y1)) (x2 + (9007199254740988 - y2)) (x3 + (9007199254740988 - y3)) (x4 + (9007199254740988 - y4))).length = 5:=rfl
  generalize Mw (x0 + (9007199254740988 - y0) - 72) (x1 + (9007199254740988 - y1)) (x2 + (9007199254740988 - y2)) (x3 + (9007199254740988 - y3)) (x4 + (9007199254740988 - y4)) = C at *
  have hz5:Qa 5 (Value.int .u64 0) = [.int .u64 0,.int .u64 0,.int .u64 0,.int .u64 0,.int .u64 0]:=rfl
  have hr5:∀ a b c d e:Int,rf (.agg [.int .u64 a,.int .u64 b,.int .u64 c,.int .u64 d,.int .u64 e].toArray) = true:=fun _ _ _ _ _ => rfl
  have u0:=fun s => @Un T 0 Qiu s
  have v0:=fun s => @Ju T 0 0 (.loop Qiu) s
  have d0:∀ s,J9 T 0 Qiu s = J9 T 0 _ s:=fun s => congrArg (fun c => J9 T 0 c s) Qiu.eq_1
  have hrC:rf (.agg (ns .u64 C).toArray) = true:=Qrb _ _
  simp only [eV,Rp,Qa9] at c1 ⊢
  apply K8
  apply Jl
  rw [Jg (fn:=a61) rfl]
  simp only [a61,Jh,quiet,cF,↓pF,reduceCtorEq,Qd,Qp,Zo,V1,↓J7,↓J6,↓Xr,↓Xu,↓Xs,↓Xt,cL,Qo,Qn,Q2,Q1,Qy,Qr,Qq,Q0,Qe,Q8,Q9,Qz,Qi,Qh,Qg,Qx,Qw,Qv,Qm,Qf,cJ,cU,hz5,c1,hr5,u0,v0,d0,s0,s1,s2,s3,s4,t0,t1,t2,t3,t4,r0,Kr,hl,hrC]
  rfl
 ·rw [Qr5]
  have e:v51 [x0 + (9007199254740988 - y0) - 72,x1 + (9007199254740988 - y1),x2 + (9007199254740988 - y2),x3 + (9007199254740988 - y3),x4 + (9007199254740988 - y4)] + v51 [y0,y1,y2,y3,y4] = v51 [x0,x1,x2,x3,x4] + 4 * Go.Fp.P:=by
   simp only [v51,num,Go.Fp.Qbn]
   omega
  have h:=congrArg Go.Fp.fp e
  rw [Go.Fp.Ho,Go.Fp.Ho,Go.Fp.Qrz] at h
  unfold fe
  grobner
theorem Qkd {x:List Nat} (hx:El x (2 ^ 52)):∃ r,Vs T 81 [eV x] = some (eV r) ∧ El r (2 ^ 52) ∧ fe r = -fe x:=by
 have hz:=Tg (n:=0) (by decide)
 obtain ⟨r,h1,h2,h3⟩:=Qaj hz hx
 refine ⟨r,?_,h2,?_⟩
 ·have f0:fillL (ns .u64 [0,0,0,0,0]) [] = some (ns .u64 [0,0,0,0,0]):=rfl
  have hz5:Qa 5 (Value.int .u64 0) = ns .u64 [0,0,0,0,0]:=rfl
  have l1:=hx.len
  have l2:=h2.len
  have l0:(ns .u64 [0,0,0,0,0]).length = 5:=rfl
  apply K8
  apply Jl
  rw [Jg (fn:=a64) rfl]
  simp only [a64,Jh,quiet,cF,↓pF,reduceCtorEq,Qd,Qp,Zo,V1,↓J7,↓J6,↓Xr,↓Xu,↓Xs,↓Xt,cL,Qo,Qn,Q2,Q1,Qy,Qr,Qq,Q0,Qe,Q8,Q9,Qz,Qi,Qh,Qg,Qx,Qw,Qv,Qm,Qf,cJ,f0,hz5,h1,Xv,Ko,Yg,Kp,Kr,l0,l1,l2,V9]
  rfl
 ·rw [h3,Tf,Go.Fp.Q1y]; grobner
def Qpc (x y:List Nat):Ob:=⟨ns .u64 (x ++ y),true,true,true,1⟩
set_option maxHeartbeats 2000000 in
theorem Hj {H:List Ob} {id:Nat} {x y:List Nat} (hx:El x (2 ^ 52)) (hy:El y (2 ^ 52)) (h:H[id]? = some (Qpc x y)):∃ r s,Vx T 68 [.slice (some ⟨id,0,none⟩) 2 2] H = some (eV r,H ++ [⟨ns .u64 r,true,true,true,1⟩,⟨ns .u64 s,true,true,true,1⟩,⟨ns .u64 x,true,true,true,1⟩,⟨ns .u64 y,true,true,true,1⟩],[]) ∧ El r (2 ^ 52) ∧ fe r = fe x + fe y:=by
 have hid:id < H.length:=(Qu.1 h).1
 have hA:∀ l,(H ++ l)[id]? = some (Qpc x y):=fun l => by rw [Qc hid]; exact h
 obtain ⟨x0,x1,x2,x3,x4,rfl,a0,a1,a2,a3,a4⟩:=hx.five
 obtain ⟨y0,y1,y2,y3,y4,rfl,b0,b1,b2,b3,b4⟩:=hy.five
 refine ⟨Mw (x0 + y0) (x1 + y1) (x2 + y2) (x3 + y3) (x4 + y4),[x0 + y0,x1 + y1,x2 + y2,x3 + y3,x4 + y4],?_,Qr6 (by omega) (by omega) (by omega) (by omega) (by omega),?_⟩
 ·have s0:(0 + x0) % 18446744073709551616 = x0:=by omega
  have s1:(0 + x1) % 18446744073709551616 = x1:=by omega
  have s2:(0 + x2) % 18446744073709551616 = x2:=by omega
  have s3:(0 + x3) % 18446744073709551616 = x3:=by omega
  have s4:(0 + x4) % 18446744073709551616 = x4:=by omega
  have q0:x0 % 18446744073709551616 = x0:=by omega
  have q1:x1 % 18446744073709551616 = x1:=by omega
  have q2:x2 % 18446744073709551616 = x2:=by omega
  have q3:x3 % 18446744073709551616 = x3:=by omega
  have q4:x4 % 18446744073709551616 = x4:=by omega
  have t0:(x0 + y0) % 18446744073709551616 = x0 + y0:=by omega
  have t1:(x1 + y1) % 18446744073709551616 = x1 + y1:=by omega
  have t2:(x2 + y2) % 18446744073709551616 = x2 + y2:=by omega
  have t3:(x3 + y3) % 18446744073709551616 = x3 + y3:=by omega
  have t4:(x4 + y4) % 18446744073709551616 = x4 + y4:=by omega
  have c1:=Tr (x0:=x0 + y0) (x1:=x1 + y1) (x2:=x2 + y2) (x3:=x3 + y3) (x4:=x4 + y4) (by omega) (by omega) (by omega) (by omega) (by omega)
  have hl:(Mw (x0 + y0) (x1 + y1) (x2 + y2) (x3 + y3) (x4 + y4)).length = 5:=rfl
  generalize Mw (x0 + y0) (x1 + y1) (x2 + y2) (x3 + y3) (x4 + y4) = C at *
  have hz5:Qa 5 (Value.int .u64 0) = [.int .u64 0,.int .u64 0,.int .u64 0,.int .u64 0,.int .u64 0]:=rfl
  have hr5:∀ a b c d e:Int,rf (.agg [.int .u64 a,.int .u64 b,.int .u64 c,.int .u64 d,.int .u64 e].toArray) = true:=fun _ _ _ _ _ => rfl
  have u0:=fun s => @Un T H.length Qit s
  have v0:=fun s => @Ju T H.length 2 (.loop Qit) s
  have d0:∀ s,J9 T H.length Qit s = J9 T H.length _ s:=fun s => congrArg (fun c => J9 T H.length c s) Qit.eq_1
  have u1:=fun s => @Un T H.length Qis s
  have v1:=fun s => @Ju T H.length 0 (.loop Qis) s
  have d1:∀ s,J9 T H.length Qis s = J9 T H.length _ s:=fun s => congrArg (fun c => J9 T H.length c s) Qis.eq_1
  have hrC:rf (.agg (ns .u64 C).toArray) = true:=Qrb _ _
  have p1:∀ a b c d e f g i j k:Value,Vw 5 (Wk 0 [a,b,c,d,e,f,g,i,j,k]) = [a,b,c,d,e]:=fun _ _ _ _ _ _ _ _ _ _ => rfl
  have p2:∀ a b c d e f g i j k:Value,Vw 5 (Wk 5 [a,b,c,d,e,f,g,i,j,k]) = [f,g,i,j,k]:=fun _ _ _ _ _ _ _ _ _ _ => rfl
  simp only [eV,Rp,Qa9] at c1 ⊢
  simp only [Qpc,Zb,Q6,Rp,Qa9] at hA h
  rw [Jg (fn:=a62) rfl]
  simp only [a62,Ze,Zd,Jh,quiet,cF,↓pF,reduceCtorEq,Qd,Qp,Zo,V1,↓J7,↓J6,↓Xr,↓Xu,↓Xs,↓Xt,cL,Qo,Qn,Q2,Q1,Qy,Qr,Qq,Q0,Qe,Q8,Q9,Qz,Qi,Qh,Qg,Qx,Qw,Qv,Qm,Qf,cJ,cU,h,hA,hz5,c1,hr5,u0,v0,d0,u1,v1,d1,p1,p2,s0,s1,s2,s3,s4,q0,q1,q2,q3,q4,t0,t1,t2,t3,t4,Kr,hl,hrC]
 ·rw [Qr5]
  have e:v51 [x0 + y0,x1 + y1,x2 + y2,x3 + y3,x4 + y4] = v51 [x0,x1,x2,x3,x4] + v51 [y0,y1,y2,y3,y4]:=by
   simp only [v51,num]
   omega
  unfold fe
  rw [e,Go.Fp.Ho]
theorem part5 {a b c:List Nat} {n:Nat} (hb:b.length = 5) (ha:a.length = n):Vw 5 (Wk n (ns .u64 (a ++ (b ++ c)))) = ns .u64 b:=by
 simp only [Qb2]
 rw [Yd (by rw [Kr]; omega),Yx (by rw [Kr]; omega),Q6,V2 (by rw [Kr]; omega),Zh (by rw [Kr]; omega)]
theorem Qsz {H:List Ob} {l:List Ob} {id n i:Nat} {o x r R:List Nat} {cs:List Value} {g:List Ob} (hi:i < n) (hn:n < 100) (hx:El x (2 ^ 52)) (ho:El o (2 ^ 52)) (hm:Vs T 40 [eV o,eV x] = some (eV r)) (hr:El r (2 ^ 52))
  (hA:∀ l,(H ++ l)[id]? = some ⟨cs,true,true,true,1⟩) (hcs:(cs.drop (i * 5)).take 5 = ns .u64 x) (hlen:i * 5 + 5 ≤ cs.length) :
  J9 T H.length Qir ⟨[(2,.pointer (some ⟨H.length,0,none⟩)),(3,.pointer (some ⟨H.length + 1,0,none⟩)),(7,.slice (some ⟨id,0,none⟩) n n),(8,.int .i64 n),(9,.int .i64 i)],H ++ (⟨ns .u64 R,true,true,true,1⟩ :: ⟨ns .u64 o,true,true,true,1⟩ :: g),[]⟩ =
   some (.normal,⟨[(2,.pointer (some ⟨H.length,0,none⟩)),(3,.pointer (some ⟨H.length + 1,0,none⟩)),(7,.slice (some ⟨id,0,none⟩) n n),(8,.int .i64 n),(9,.int .i64 ((i + 1:Nat):Int))],H ++ (⟨ns .u64 R,true,true,true,1⟩ :: ⟨ns .u64 r,true,true,true,1⟩ :: (g ++ [⟨ns .u64 x,true,true,true,1⟩])),[]⟩):=by
 have hz5:Qa 5 (Value.int .u64 0) = ns .u64 [0,0,0,0,0]:=rfl
 have l0:(ns .u64 [0,0,0,0,0]).length = 5:=rfl
 have l1:=hx.len
 have l2:=ho.len
 have l3:=hr.len
 have e1:((i:Int) < (n:Int)) = True:=eq_true (by omega)
 have w3:IntKind.i64.wrap ((i:Int) + 1) = ((i + 1:Nat):Int):=Yp (n:=i + 1) (by omega)
 simp only [Qir,Jh,quiet,cF,↓pF,reduceCtorEq,Qd,Qp,Zo,V1,↓J7,↓J6,↓Xr,↓Xu,↓Xs,↓Xt,cL,Qo,Qn,Q2,Q1,Qy,Qr,Qq,Q0,Qe,Q8,Q9,Qz,Qi,Qh,Qg,Qx,Qw,Qv,Qm,Qf,cJ,Vl,hz5,hA,hcs,hlen,hm,Xv,Ko,Yg,Kp,Kr,l0,l1,l2,l3,V9,e1,w3]
theorem Qc4:fe [1,0,0,0,0] = 1:=by rw [Tf]; rfl
theorem Qc5:El [1,0,0,0,0] (2 ^ 52):=Tg (by decide)
theorem Rk {H:List Ob} {id n:Nat} {xs:List (List Nat)} (hn:xs.length = n) (hN:n < 100) (hx:∀ x ∈ xs,El x (2 ^ 52)) (h:H[id]? = some ⟨ns .u64 xs.flatten,true,true,true,1⟩) :
  ∃ r,Vx T 70 [.slice (some ⟨id,0,none⟩) n n] H = some (eV r,H ++ (⟨ns .u64 r,true,true,true,1⟩ :: ⟨ns .u64 r,true,true,true,1⟩ :: xs.map fun x => (⟨ns .u64 x,true,true,true,1⟩:Ob)),[]) ∧ El r (2 ^ 52) ∧ fe r = (xs.map fe).foldl (· * ·) 1:=by
 have hid:id < H.length:=(Qu.1 h).1
 have hA:∀ l,(H ++ l)[id]? = some ⟨ns .u64 xs.flatten,true,true,true,1⟩:=fun l => by rw [Qc hid]; exact h
 have hfl:∀ (ys:List (List Nat)),(∀ x ∈ ys,El x (2 ^ 52)) → ys.flatten.length = ys.length * 5:=by
  intro ys hy
  induction ys with
  | nil => rfl
  | cons y ys ih =>
   rw [Xn,Zc,ih (fun x hx => hy x (by simp [hx])),(hy y (by simp)).len,Zr]; omega
 obtain ⟨st,hb,r,rfl,hr1,hr2⟩:=Yv (T:=T) (base:=H.length) (id:=0) (body:=Qir)
  (fun i st => ∃ r:List Nat,st = ⟨[(2,.pointer (some ⟨H.length,0,none⟩)),(3,.pointer (some ⟨H.length + 1,0,none⟩)),(7,.slice (some ⟨id,0,none⟩) n n),(8,.int .i64 n),(9,.int .i64 (i:Nat))],H ++ (⟨ns .u64 [0,0,0,0,0],true,true,true,1⟩ :: ⟨ns .u64 r,true,true,true,1⟩ :: ((xs.take i).map fun x => (⟨ns .u64 x,true,true,true,1⟩:Ob))),[]⟩ ∧ El r (2 ^ 52) ∧ fe r = ((xs.take i).map fe).foldl (· * ·) 1)
  (Q:=fun st => ∃ r:List Nat,st = ⟨[(2,.pointer (some ⟨H.length,0,none⟩)),(3,.pointer (some ⟨H.length + 1,0,none⟩)),(7,.slice (some ⟨id,0,none⟩) n n),(8,.int .i64 n),(9,.int .i64 n),(10,.bool false)],H ++ (⟨ns .u64 [0,0,0,0,0],true,true,true,1⟩ :: ⟨ns .u64 r,true,true,true,1⟩ :: (xs.map fun x => (⟨ns .u64 x,true,true,true,1⟩:Ob))),[]⟩ ∧ El r (2 ^ 52) ∧ fe r = (xs.map fe).foldl (· * ·) 1)
  n (s:=⟨[(2,.pointer (some ⟨H.length,0,none⟩)),(3,.pointer (some ⟨H.length + 1,0,none⟩)),(7,.slice (some ⟨id,0,none⟩) n n),(8,.int .i64 n),(9,.int .i64 0)],H ++ [⟨ns .u64 [0,0,0,0,0],true,true,true,1⟩,⟨ns .u64 [1,0,0,0,0],true,true,true,1⟩],[]⟩) ⟨[1,0,0,0,0],rfl,Qc5,Qc4⟩
  (fun i st hi hs => by
   obtain ⟨r,rfl,hr1,hr2⟩:=hs
   obtain ⟨x,hxi⟩:∃ y,xs[i]? = some y:=⟨_,Qt (by omega)⟩
   have hxe:=hx x (Zs hxi)
   obtain ⟨r',hm,g1,g2⟩:=Wr hr1 hxe
   have hsplit:xs = xs.take i ++ x :: xs.drop (i + 1):=by
    have h1:=Qu.1 hxi
    conv => lhs; rw [← Wd i xs,Uc h1.1,h1.2]
   have htl:(xs.take i).flatten.length = i * 5:=by
    rw [hfl _ (fun y hy => hx y (Vk hy)),Km,Vz (by omega)]
   have hcs:((ns .u64 xs.flatten).drop (i * 5)).take 5 = ns .u64 x:=by
    conv => lhs; rw [hsplit,Yn,Xn]
    exact part5 hxe.len htl
   have hb:=Qsz (R:=[0,0,0,0,0]) (g:=(xs.take i).map fun x => (⟨ns .u64 x,true,true,true,1⟩:Ob)) (l:=[]) hi hN hxe hr1 hm g1 hA hcs (by rw [Kr,hfl xs hx,hn]; omega)
   have htk:xs.take (i + 1) = xs.take i ++ [x]:=by rw [Y9,hxi]; rfl
   refine ⟨_,hb,r',?_,g1,?_⟩
   ·rw [htk,Ha]; rfl
   ·rw [htk,Ha,List.foldl_append,← hr2,g2]; rfl)
  (fun st hs => by
   obtain ⟨r,rfl,hr1,hr2⟩:=hs
   have e1:((n:Int) < (n:Int)) = False:=eq_false (by omega)
   have ht:xs.take n = xs:=Zh (by omega)
   rw [ht] at hr2 ⊢
   refine ⟨_,?_,r,rfl,hr1,hr2⟩
   simp only [Qir,Jh,quiet,cF,↓pF,reduceCtorEq,Qd,Qp,Zo,V1,↓J7,↓J6,↓Xr,↓Xu,↓Xs,↓Xt,cL,Qo,Qn,Q2,Q1,Qy,Qr,Qq,Q0,Qe,Q8,Q9,Qz,Qi,Qh,Qg,Qx,Qw,Qv,Qm,Qf,e1])
 refine ⟨r,?_,hr1,hr2⟩
 have hz5:Qa 5 (Value.int .u64 0) = ns .u64 [0,0,0,0,0]:=rfl
 have l0:(ns .u64 [0,0,0,0,0]).length = 5:=rfl
 have l1:=hr1.len
 have hs:=Qbv (n:=1) (by decide)
 have l2:([1,0,0,0,0]:List Nat).length = 5:=rfl
 simp only [Qqy] at hs
 rw [Jg (fn:=a82) rfl]
 simp only [a82,Jh,quiet,cF,↓pF,reduceCtorEq,Qd,Qp,Zo,V1,↓J7,↓J6,↓Xr,↓Xu,↓Xs,↓Xt,cL,Qo,Qn,Q2,Q1,Qy,Qr,Qq,Q0,Qe,Q8,Q9,Qz,Qi,Qh,Qg,Qx,Qw,Qv,Qm,Qf,cJ,Vl,hz5,hs,hb,Xv,Ko,Yg,Kp,Kr,l0,l1,l2,V9]
def pwI (x k o:List Nat) (i:Int) (ex:Env):St:=⟨[(2,.pointer (some ⟨0,0,none⟩)),(3,.pointer (some ⟨1,0,none⟩)),(4,.pointer (some ⟨2,0,none⟩)),(5,.pointer (some ⟨3,0,none⟩)),(6,.int .i64 i)] ++ ex,[⟨ns .u64 x,true,true,true,1⟩,⟨u8s k,true,true,true,1⟩,⟨ns .u64 [0,0,0,0,0],true,true,true,1⟩,⟨ns .u64 o,true,true,true,1⟩],[]⟩
theorem Qwm (a:Go.Fp.Fe) (m b:Nat) (hb:b < 2):Go.Fp.pow a (2 * m + b) = if b = 1 then Go.Fp.pow a m * Go.Fp.pow a m * a else Go.Fp.pow a m * Go.Fp.pow a m:=by
 have h1:Go.Fp.pow a (2 * m) = Go.Fp.pow a m * Go.Fp.pow a m:=by rw [show 2 * m = m + m by omega,Go.Fp.pow_add]
 by_cases h:b = 1
 ·subst h
  rw [if_pos rfl,Go.Fp.pow,h1]
 ·have:b = 0:=by omega
  subst this
  rw [if_neg (by decide),Ji,h1]
theorem Qz8 {x k o:List Nat} {i:Nat} {ex:Env} (hx:El x (2 ^ 52)) (lk:k.length = 32) (xk:∀ x ∈ k,x < 256) (hi:i < 256) (ho:El o (2 ^ 52)) (hp:fe o = Go.Fp.pow (fe x) (num 256 k / 2 ^ (i + 1))) :
  ∃ r,J9 T 0 Qfq (pwI x k o i ex) = some (.normal,pwI x k r ((i:Int) - 1) []) ∧ El r (2 ^ 52) ∧ fe r = Go.Fp.pow (fe x) (num 256 k / 2 ^ i):=by
 obtain ⟨b,hb⟩:∃ b,k[i / 8]? = some b:=⟨_,Qt (by omega)⟩
 have hbv:=Dn (B:=256) (by decide) xk hb
 have hbc:=Uh hb
 have hbit:b / 2 ^ (i % 8) % 2 = num 256 k / 2 ^ i % 2:=by
  rw [← hbv,show (256:Nat) = 2 ^ 8 from rfl,Qov (Js _ (by decide)),Yb]
 obtain ⟨r1,m1,g1,g2⟩:=Wr ho ho
 obtain ⟨r2,m2,g3,g4⟩:=Wr g1 hx
 have hlt:=Qfp (num 256 k) i
 have hnum:num 256 k / 2 ^ i = 2 * (num 256 k / 2 ^ (i + 1)) + num 256 k / 2 ^ i % 2:=by
  rw [Vt,← Ym]
  omega
 have hstep:=Qwm (fe x) (num 256 k / 2 ^ (i + 1)) (num 256 k / 2 ^ i % 2) hlt
 rw [← hnum,← hp] at hstep
 have s1:(2:Int) ^ min (i % 8) IntKind.u8.bits = ((2 ^ (i % 8):Nat):Int):=T5 (Um (Js _ (by decide)))
 have w2:IntKind.i64.wrap ((i / 8:Nat):Int) = ((i / 8:Nat):Int):=Yp (by omega)
 have w3:IntKind.i64.wrap ((i:Int) - 1) = (i:Int) - 1:=V6 (by omega) (by omega)
 have e1:((0:Int) ≤ (i:Int)) = True:=eq_true (by omega)
 have e3:(((i / 8:Nat):Int) < 32) = True:=eq_true (by omega)
 have e4:(((i % 8:Nat):Int) < 0) = False:=eq_false (by omega)
 have l1:=hx.len
 have l2:=ho.len
 have l3:=g1.len
 have l4:=g3.len
 have l0:([0,0,0,0,0]:List Nat).length = 5:=rfl
 generalize hB:num 256 k / 2 ^ i % 2 = B at *
 by_cases hB1:B = 1
 ·have hbq:((B:Int) == 1) = true:=by rw [hB1]; rfl
  rw [if_pos hB1] at hstep
  refine ⟨r2,?_,g3,by rw [hstep,g4,g2]⟩
  simp only [pwI,Qfq,Jh,quiet,cF,↓pF,reduceCtorEq,Qd,Qp,Zo,V1,↓J7,↓J6,↓Xr,↓Xu,↓Xs,↓Xt,cL,Qo,Qn,Q2,Q1,Qy,Qr,Qq,Q0,Qe,Q8,Q9,Qz,Qi,Qh,Qg,Qx,Qw,Qv,Qm,Qf,cJ,cU,hbc,hbit,s1,w2,w3,e1,e3,e4,m1,m2,hbq,Xv,Ko,Yg,Kp,Kr,l1,l2,l3,l4,V9]
 ·have hbq:((B:Int) == 1) = false:=by
   have:B = 0:=by omega
   rw [this]; rfl
  rw [if_neg hB1] at hstep
  refine ⟨r1,?_,g1,by rw [hstep,g2]⟩
  simp only [pwI,Qfq,Jh,quiet,cF,↓pF,reduceCtorEq,Qd,Qp,Zo,V1,↓J7,↓J6,↓Xr,↓Xu,↓Xs,↓Xt,cL,Qo,Qn,Q2,Q1,Qy,Qr,Qq,Q0,Qe,Q8,Q9,Qz,Qi,Qh,Qg,Qx,Qw,Qv,Qm,Qf,cJ,cU,hbc,hbit,s1,w2,w3,e1,e3,e4,m1,m2,hbq,Xv,Ko,Yg,Kp,Kr,l1,l2,l3,l4,V9]
theorem Qz9 {x k:List Nat} (hx:El x (2 ^ 52)) (lk:k.length = 32) (xk:∀ x ∈ k,x < 256):∃ r,Vs T 76 [eV x,.agg (u8s k).toArray] = some (eV r) ∧ El r (2 ^ 52) ∧ fe r = Go.Fp.pow (fe x) (num 256 k):=by
 have hK:=num_lt xk
 rw [lk,show (256:Nat) ^ 32 = 2 ^ 256 from by rw [show (256:Nat) = 2 ^ 8 from rfl,← Ys]] at hK
 obtain ⟨st,hb,r,rfl,hr1,hr2⟩:=Yv (T:=T) (base:=0) (id:=0) (body:=Qfq)
  (fun j st => ∃ r:List Nat,st = pwI x k r ((255:Int) - j) [] ∧ El r (2 ^ 52) ∧ fe r = Go.Fp.pow (fe x) (num 256 k / 2 ^ (256 - j)))
  (Q:=fun st => ∃ r:List Nat,st = pwI x k r (-1) [(9,.bool false)] ∧ El r (2 ^ 52) ∧ fe r = Go.Fp.pow (fe x) (num 256 k))
  256 (s:=pwI x k [1,0,0,0,0] 255 []) ⟨_,rfl,Qc5,by rw [Qc4,Xy,Ua hK]; rfl⟩
  (fun j st hj hs => by
   obtain ⟨r,rfl,h1,h2⟩:=hs
   obtain ⟨i,hi⟩:∃ i,256 - j = i + 1:=⟨255 - j,by omega⟩
   rw [hi] at h2
   obtain ⟨r',g1,g2,g3⟩:=Qz8 (ex:=[]) hx lk xk (i:=i) (by omega) h1 h2
   rw [show (255:Int) - j = (i:Int) by omega]
   refine ⟨_,g1,r',?_,g2,?_⟩
   ·rw [show (255:Int) - ((j + 1:Nat):Int) = (i:Int) - 1 by omega]
   ·rw [show 256 - (j + 1) = i by omega]; exact g3)
  (fun st hs => by
   obtain ⟨r,rfl,h1,h2⟩:=hs
   rw [Xa,W0,Ux] at h2
   have e:((0:Int) ≤ -1) = False:=by decide
   refine ⟨_,?_,r,rfl,h1,h2⟩
   rw [show (255:Int) - ((256:Nat):Int) = -1 by omega]
   simp only [pwI,Qfq,Jh,quiet,cF,↓pF,reduceCtorEq,Qd,Qp,Zo,V1,↓J7,↓J6,↓Xr,↓Xu,↓Xs,↓Xt,cL,Qo,Qn,Q2,Q1,Qy,Qr,Qq,Q0,Qe,Q8,Q9,Qz,Qi,Qh,Qg,Qx,Qw,Qv,Qm,Qf,e])
 refine ⟨r,?_,hr1,hr2⟩
 have hz5:Qa 5 (Value.int .u64 0) = ns .u64 [0,0,0,0,0]:=rfl
 have hs:=Qbv (n:=1) (by decide)
 have l2:([1,0,0,0,0]:List Nat).length = 5:=rfl
 have l0:([0,0,0,0,0]:List Nat).length = 5:=rfl
 have l1:=hx.len
 have l3:=hr1.len
 simp only [Qqy] at hs
 simp only [pwI,Zb,Q6] at hb
 apply K8
 apply Jl
 rw [Jg (fn:=a83) rfl]
 simp only [a83,Jh,quiet,cF,↓pF,reduceCtorEq,Qd,Qp,Zo,V1,↓J7,↓J6,↓Xr,↓Xu,↓Xs,↓Xt,cL,Qo,Qn,Q2,Q1,Qy,Qr,Qq,Q0,Qe,Q8,Q9,Qz,Qi,Qh,Qg,Qx,Qw,Qv,Qm,Qf,cJ,hz5,hs,hb,pwI,Xv,Ko,Yg,Kp,Kr,l0,l1,l2,l3,V9]
 rfl
def onX (i:Nat):List Nat:=dig (2 ^ 8) 32 (2 ^ i - 1)
def onI (less:Value) (n:Int) (k:List Nat) (i:Nat) (ex:Env):St:=⟨[(1,less),(4,.pointer (some ⟨0,0,none⟩)),(5,.pointer (some ⟨1,0,none⟩)),(7,.int .i64 n),(8,.int .i64 i)] ++ ex,[⟨u8s (dig 256 32 0),true,true,true,1⟩,⟨u8s k,true,true,true,1⟩],[]⟩
theorem Q0r {less:Value} {n i:Nat} (hn:n ≤ 256) (hi:i < n):J9 T 0 Qiq (onI less n (onX i) i []) = some (.normal,onI less n (onX (i + 1)) (i + 1) []):=by
 have hlen:(onX i).length = 32:=Vj _ _ _
 obtain ⟨y,hy⟩:∃ b,(onX i)[i / 8]? = some b:=⟨_,Qt (by omega)⟩
 have hyc:=Uh hy
 have hy':y < 2 ^ 8:=Gr (by decide) (Zs hy)
 have hsm:(2:Nat) ^ (i % 8) ≤ 2 ^ 7:=Ve (by decide) (by have:=Js i (by decide:0 < 8); omega)
 have hp:0 < (2:Nat) ^ i:=Wx (by decide)
 have hput:=Qgu (w:=8) (m:=32) (q:=i / 8) (s:=i % 8) (y:=1) (M:=2 ^ i - 1) (by omega) (Js _ (by decide)) (by rw [Yb]; omega) (by omega)
 rw [Yb,show 2 ^ i - 1 + 1 * 2 ^ i = 2 ^ (i + 1) - 1 by rw [Vt]; omega] at hput
 have hgd:(dig (2 ^ 8) 32 (2 ^ i - 1)).getD (i / 8) 0 = y:=by rw [Jf]; unfold onX at hy; rw [hy]; rfl
 rw [hgd,Uw] at hput
 have hset:=Gt (onX i) (i / 8) (y ||| 2 ^ (i % 8))
 rw [show (onX i).set (i / 8) (y ||| 2 ^ (i % 8)) = onX (i + 1) from hput] at hset
 have s1:(2:Int) ^ min (i % 8) IntKind.u8.bits = ((2 ^ (i % 8):Nat):Int):=T5 (Um (Js _ (by decide)))
 have o1:Vf .or .u8 (y:Int) ((2 ^ (i % 8):Nat):Int) = ((y ||| 2 ^ (i % 8):Nat):Int):=Gy rfl (by show _ < 256; omega) (by show _ < 256; omega)
 have n1:(2 ^ (i % 8)) % 256 = 2 ^ (i % 8):=Z2 (U3 hsm (by decide))
 have w2:IntKind.i64.wrap ((i / 8:Nat):Int) = ((i / 8:Nat):Int):=Yp (by omega)
 have w3:IntKind.i64.wrap ((i + 1:Nat):Int) = ((i + 1:Nat):Int):=Yp (by omega)
 have e1:((i:Int) < (n:Int)) = True:=eq_true (by omega)
 have e3:(((i / 8:Nat):Int) < 32) = True:=eq_true (by omega)
 have e4:(((i % 8:Nat):Int) < 0) = False:=eq_false (by omega)
 have e6:i / 8 + 1 ≤ 32:=by omega
 have p1:1 * 2 ^ (i % 8) = 2 ^ (i % 8):=Uw _
 simp only [onI,Qiq,Jh,quiet,cF,↓pF,reduceCtorEq,Qd,Qp,Zo,V1,↓J7,↓J6,↓Xr,↓Xu,↓Xs,↓Xt,cL,Qo,Qn,Q2,Q1,Qy,Qr,Qq,Q0,Qe,Q8,Q9,Qz,Qi,Qh,Qg,Qx,Qw,Qv,Qm,Qf,cJ,cU,hyc,s1,o1,n1,w2,w3,e1,e3,e4,e6,p1,hset,Zt,hlen]
theorem Qpv {n less:Nat} (hn:n ≤ 256) (h8:8 ≤ n) (hl:less < 256):Vs T 77 [.int .i64 n,.int .u8 less] = some (.agg (u8s (dig 256 32 (2 ^ n - 1 - less))).toArray):=by
 have hb:=Uk (T:=T) (base:=0) (id:=0) (body:=Qiq) (fun i => onI (.int .u8 less) n (onX i) i []) (s':=onI (.int .u8 less) n (onX n) n [(9,.bool false)]) n (fun i hi => Q0r hn hi) (by
  have e1:((n:Int) < (n:Int)) = False:=eq_false (by omega)
  simp only [onI,Qiq,Jh,quiet,cF,↓pF,reduceCtorEq,Qd,Qp,Zo,V1,↓J7,↓J6,↓Xr,↓Xu,↓Xs,↓Xt,cL,Qo,Qn,Q2,Q1,Qy,Qr,Qq,Q0,Qe,Q8,Q9,Qz,Qi,Qh,Qg,Qx,Qw,Qv,Qm,Qf,e1])
 rw [show onX 0 = dig 256 32 0 from rfl] at hb
 have hp8:(256:Nat) ≤ 2 ^ n:=by
  have:=Ve (n:=2) (by decide) h8
  exact this
 have hmod:2 ^ n % 256 = 0:=by
  rw [show n = 8 + (n - 8) by omega,Wl]; exact Nat.mul_mod_right _ _
 have h0:(onX n)[0]? = some 255:=by
  unfold onX
  rw [Dc (by decide),W0,Ux]
  congr 1
  omega
 have h0c:=Uh h0
 have w0:IntKind.u8.wrap (255 - (less:Int)) = ((255 - less:Nat):Int):=by rw [wrap_u8]; omega
 have hset:=Gt (onX n) 0 (255 - less)
 have hfin:(onX n).set 0 (255 - less) = dig 256 32 (2 ^ n - 1 - less):=by
  apply Qb9 (by rw [Jt]; exact Vj _ _ _)
  intro t ht
  by_cases h0t:t = 0
  ·subst h0t
   rw [Jq (by rw [show (onX n).length = 32 from Vj _ _ _]; decide),W0,Ux]
   congr 1
   omega
  ·rw [Z3 (Ne.symm h0t)]
   unfold onX
   rw [Dc ht]
   congr 2
   obtain ⟨m,rfl⟩:∃ m,t = m + 1:=⟨t - 1,by omega⟩
   rw [show (2:Nat) ^ 8 = 256 from rfl,Vt,Vp,← Ym,← Ym]
   congr 1
   omega
 rw [hfin] at hset
 simp only [Qau] at h0c
 have l1:(dig 256 32 (2 ^ n - 1 - less)).length = 32:=Vj _ _ _
 have l2:(onX n).length = 32:=Vj _ _ _
 have l3:(dig 256 32 0).length = 32:=rfl
 have hz32:Qa 32 (Value.int .u8 0) = u8s (dig 256 32 0):=rfl
 simp only [onI,Zb,Q6,Vm] at hb
 apply K8
 apply Jl
 rw [Jg (fn:=a84) rfl]
 simp only [a84,Jh,quiet,cF,↓pF,reduceCtorEq,Qd,Qp,Zo,V1,↓J7,↓J6,↓Xr,↓Xu,↓Xs,↓Xt,cL,Qo,Qn,Q2,Q1,Qy,Qr,Qq,Q0,Qe,Q8,Q9,Qz,Qi,Qh,Qg,Qx,Qw,Qv,Qm,Qf,cJ,hz32,hb,onI,h0c,w0,hset,Zt,l1,l2,l3]
 rfl
theorem Dw {v:Nat}:∀ x ∈ dig 256 32 v,x < 256:=fun _ h => Gr (by decide) h
theorem Qc1 {x:List Nat} {n less:Nat} (hx:El x (2 ^ 52)) (hn:n ≤ 256) (h8:8 ≤ n) (hl:less < 256):∃ r,Vs T 76 [eV x,.agg (u8s (dig 256 32 (2 ^ n - 1 - less))).toArray] = some (eV r) ∧ El r (2 ^ 52) ∧ fe r = Go.Fp.pow (fe x) (2 ^ n - 1 - less):=by
 obtain ⟨r,h1,h2,h3⟩:=Qz9 (k:=dig 256 32 (2 ^ n - 1 - less)) hx (Vj _ _ _) Dw
 refine ⟨r,h1,h2,?_⟩
 rw [h3,Uz (by decide),Z2]
 have h4:(2:Nat) ^ n ≤ 256 ^ 32:=by
  rw [show (256:Nat) ^ 32 = 2 ^ 256 from by rw [show (256:Nat) = 2 ^ 8 from rfl,← Ys]]
  exact Ve (by decide) hn
 have:0 < (2:Nat) ^ n:=Wx (by decide)
 omega
theorem Qn2 {x:List Nat} (hx:El x (2 ^ 52)):∃ r,Vs T 41 [eV x] = some (eV r) ∧ El r (2 ^ 52) ∧ fe r = Go.Fp.iv (fe x):=by
 have h1:=Qpv (n:=255) (less:=20) (by decide) (by decide) (by decide)
 obtain ⟨r,h2,h3,h4⟩:=Qc1 (n:=255) (less:=20) hx (by decide) (by decide) (by decide)
 refine ⟨r,?_,h3,?_⟩
 ·have hz5:Qa 5 (Value.int .u64 0) = ns .u64 [0,0,0,0,0]:=rfl
  have l0:([0,0,0,0,0]:List Nat).length = 5:=rfl
  have l1:=hx.len
  have l2:=h3.len
  simp only [Qau] at h1
  generalize dig 256 32 (2 ^ 255 - 1 - 20) = K at *
  apply K8
  apply Jl
  rw [Jg (fn:=a56) rfl]
  simp only [a56,Jh,quiet,cF,↓pF,reduceCtorEq,Qd,Qp,Zo,V1,↓J7,↓J6,↓Xr,↓Xu,↓Xs,↓Xt,cL,Qo,Qn,Q2,Q1,Qy,Qr,Qq,Q0,Qe,Q8,Q9,Qz,Qi,Qh,Qg,Qx,Qw,Qv,Qm,Qf,cJ,hz5,h1,h2,Xv,Ko,Yg,Kp,Kr,l0,l1,l2,V9]
  rfl
 ·rw [h4]
  unfold Go.Fp.iv
  rw [Go.Fp.Qbn]
end Go.Ev.Ytpgphpkjlpkcbaa
set_option linter.unusedSimpArgs false
set_option linter.unusedVariables false
namespace Go.Ev
section
variable {T:Tab} {b:Nat}
theorem Qac:∀ (o1 o2:List AOper) (s:St) (recs:List Rec),evOps T b (o1 ++ o2) s recs = (evOps T b o1 s recs).bind fun r => evOps T b o2 r.1 r.2
 | [],o2,s,recs => by rw [K7]; rfl
 | o :: o1,o2,s,recs => by
  rw [Zb,Kd,Kd]
  cases hg:guardOf s.env o.guard with
  | none => rfl
  | some g =>
   cases g with
   | false => exact Qac o1 o2 _ _
   | true =>
    cases hx:Yq T o.op s.env s.h with
    | none => simp [hx]
    | some x =>
     simp only [hx,Ql]
     exact Qac o1 o2 _ _
theorem Qc8:∀ (ops:List AOper) (s:St) (recs:List Rec) (s':St),steps T b false ops s = some s' → ∃ m,evOps T b ops s recs = some (s',recs ++ m)
 | [],s,recs,s',h => by
  simp only [steps,Qs] at h
  subst h
  exact ⟨[],by rw [K7,Xj]⟩
 | o :: r,s,recs,s',h => by
  rw [Kd]
  unfold steps at h
  cases hg:guardOf s.env o.guard with
  | none => simp only [hg] at h; cases h
  | some g =>
   simp only [hg] at h
   cases g with
   | false =>
    obtain ⟨m,h1⟩:=Qc8 r _ (recs ++ [(some [],[])]) s' h
    exact ⟨(some [],[]) :: m,by rw [h1]; simp⟩
   | true =>
    cases hx:Yq T o.op s.env s.h with
    | none => simp [hx] at h
    | some x =>
     simp only [hx,Ql,Qgj,Zp,if_false] at h
     obtain ⟨m,h1⟩:=Qc8 r _ (recs ++ [(x.2.2.1,x.2.2.2)]) s' h
     exact ⟨(x.2.2.1,x.2.2.2) :: m,by simp only [hx,Ql]; rw [h1]; simp⟩
theorem Qfy {r1 r2:List Rec}:∀ {pairs:List (Nat × Nat)},(pairs.all fun p => decide (p.1 < r1.length) && decide (p.2 < r1.length)) = true → Vv r1 pairs = true → Vv (r1 ++ r2) pairs = true
 | [],_,_ => rfl
 | (i,j) :: ps,h,k => by
  simp only [J5,Yf,decide_eq_true_eq] at h
  simp only [Vv,J5,Yf] at k ⊢
  have ih:=Qfy (r1:=r1) (r2:=r2) (pairs:=ps) h.2 k.2
  simp only [Vv] at ih
  refine ⟨?_,ih⟩
  rw [Qc h.1.1,Qc h.1.2]
  exact k.1
def Gp:List (Nat × Nat) → Nat
 | [] => 0
 | (_,j) :: r => if j + 1 ≤ Gp r then Gp r else j + 1
theorem Zi:Gp [] = 0:=rfl
theorem Zg {i j:Nat} {r:List (Nat × Nat)}:Gp ((i,j) :: r) = if j + 1 ≤ Gp r then Gp r else j + 1:=rfl
def Qld (T:Tab) (b:Nat) (ops:List AOper) (pairs:List (Nat × Nat)) (s:St):Option St :=
 gate ((pairs.all fun p => decide (p.1 < Gp pairs) && decide (p.2 < Gp pairs)) = true ∧ Gp pairs ≤ ops.length)
  ((steps T b true (ops.take (Gp pairs)) s).bind fun s1 => steps T b false (ops.drop (Gp pairs)) s1)
theorem Zq {ops:List AOper} {pairs:List (Nat × Nat)} {s:St}:Qld T b ops pairs s = gate ((pairs.all fun p => decide (p.1 < Gp pairs) && decide (p.2 < Gp pairs)) = true ∧ Gp pairs ≤ ops.length)
  ((steps T b true (ops.take (Gp pairs)) s).bind fun s1 => steps T b false (ops.drop (Gp pairs)) s1):=Eq.trans rfl rfl
theorem Zj {ops:List AOper} {keep:Option (List Nat)} {p:Nat × Nat} {ps:List (Nat × Nat)} {s:St}:J9 T b (.region ops keep (p :: ps)) s = Qdp ((Qld T b ops (p :: ps) s).bind fun s' => some (.normal,s'.after keep)) (Qbd T b (.region ops keep (p :: ps)) s):=by
 cases hq:Qld T b ops (p :: ps) s with
 | none => rfl
 | some s' =>
  simp only [Ql,Qdp]
  unfold Qld gate at hq
  split at hq
  ·rename_i hp
   simp only [Qb] at hq
   obtain ⟨s1,k1,k2⟩:=hq
   obtain ⟨recs,h1,h2,h3⟩:=Rs _ s [] s1 k1 (by simp)
   obtain ⟨m,h4⟩:=Qc8 _ s1 recs s' k2
   simp only [Zw,Zm,Km,Vz hp.2] at h3
   rw [Jy]
   conv => lhs; rw [← Wd (Gp (p :: ps)) ops]
   rw [Qac,h1]
   simp only [Ql,h4]
   have hpk:=hp.1
   rw [← h3] at hpk
   rw [if_pos (Qfy hpk (R2 h2 hpk))]
  ·cases hq
end
end Go.Ev

/- What the law leans on, part 3. -/
import Derived.Test.YtgacigcbglflkaaGreatSO2
import Derived.Test.YtgacigcbglflkaaGreatChecked
import Derived.KernelRfl
import Derived.Laws.Externs
set_option linter.unusedSimpArgs false
set_option linter.unusedVariables false
open And renaming intro → Q9
open Array renaming ext_getElem? → Gy, getElem?_toList → Yu
open Bool renaming and_eq_true → Vw, and_self → Xr, and_true → Xz, false_eq_true → Zv, not_false → J1, not_true → Xx, true_and → Xq
open Exists renaming intro → Zt
open Int renaming cast_ofNat_Int → Ww, fdiv → Tw, fdiv_eq_ediv_of_nonneg → Y6, le_of_lt → Q3l, le_refl → Ke, natCast_add → B5, natCast_mul → Uq, natCast_nonneg → Jg, natCast_one → B0, natCast_zero → Xu, pow_pos → Q6t, reduceAdd → Qx, reduceEq → Qp, reduceGE → Q0, reduceGT → Qz, reduceLE → Qo, reduceLT → Qn, reduceMul → Qw, reduceNeg → Qv, reducePow → Qq, reduceSub → Qu, reduceTDiv → Ql, reduceTMod → Qk, reduceToNat → Qd, toNat_natCast → Jh
open List renaming all_cons → J4, all_nil → Kd, append_assoc → Jx, append_nil → Kw, cons_append → Zb, drop_drop → Tv, drop_eq_getElem?_toList_append → Yr, drop_eq_getElem_cons → U0, drop_of_length_le → Yb, drop_zero → Q2, ext_getElem? → Ym, flatten_append → Wa, flatten_cons → Vj, flatten_nil → Ud, getD_eq_getElem?_getD → Xh, getElem?_append_left → Qy, getElem?_append_right → Zh, getElem?_cons_succ → Zp, getElem?_cons_zero → Zq, getElem?_drop → Vx, getElem?_eq_getElem → Q1, getElem?_eq_none → J0, getElem?_eq_some_iff → Q8, getElem?_map → Uw, getElem?_set_ne → Jj, getElem?_set_self → Xp, getElem?_take → Ks, getElem?_toArray → Ms, length_append → Z4, length_cons → Ja, length_nil → Jf, length_set → Xe, length_take → Js, map_append → G6, map_cons → Y9, map_map → Ql4, mem_append → Jb, mem_cons → W0, mem_map → U7, mem_of_getElem? → Zk, mem_of_mem_take → Kp, mem_range'_1 → Ql3, mem_singleton → Bu, nil_append → Za, range' → Gt, replicate → Qa, replicate_succ → Uh, replicate_succ' → Rp, take_add_one → Yf, take_append_drop → W1, take_length → Hu, take_of_length_le → Zl, take_zero → Q3
open Nat renaming Coprime → Q6s, add_assoc → Ka, add_comm → Gb, add_mod → Qfv, add_mul → Kt, add_mul_div_right → Mr, add_mul_mod_self_right → Bt, add_zero → Jr, and_lt_two_pow → Dr, and_two_pow_sub_one_eq_mod → Mu, div_add_mod → Vr, div_div_eq_div_mul → X9, div_eq_of_lt → Wz, div_le_self → W9, div_lt_iff_lt_mul → Qe8, div_one → Wi, dvd_mul_left → Qor, dvd_of_mod_eq_zero → D3, eq_zero_or_pos → Yd, gcd → Qf9, le_of_dvd → Ge, le_of_lt → Wh, le_refl → Zj, lt_irrefl → Xj, lt_of_le_of_lt → Wk, lt_of_lt_of_le → X1, lt_or_ge → V5, min_eq_left → V8, mod_eq_of_lt → Z3, mod_eq_zero_of_dvd → Qd1, mod_lt → Jk, mod_mod → Hh, mod_mod_of_dvd → Dq, mod_mul_mod → Qqy, mod_mul_right_div_self → Ts, mul_add → Hg, mul_assoc → Vo, mul_comm → K7, mul_le_mul → Wg, mul_le_mul_left → Ug, mul_le_mul_right → Vt, mul_left_comm → Wf, mul_lt_mul'' → Qoq, mul_mod → Hf, mul_one → Xy, mul_zero → To, not_lt_zero → Jz, one_mul → Wm, or_lt_two_pow → Qbk, pow_add → Wl, pow_add_one' → Qop, pow_le_pow_right → Vf, pow_mod → Q6r, pow_mul → Yp, pow_pos → Ws, pow_succ → Kq, pow_zero → Ya, reduceAdd → Qf, reduceDiv → Qt, reduceEqDiff → Qb, reduceLT → Qm, reduceLeDiff → Qe, reduceMod → Qs, reduceMul → Qh, reducePow → Qr, reduceSub → Qg, strongRecOn → Qd5, sub_mod_eq_zero_of_mod_eq → Rn, sub_self → Kv, sub_zero → Xw, two_pow_add_eq_or_of_lt → G9, zero_add → Z1, zero_mul → Xi
open Option renaming bind_eq_some_iff → Qc, bind_some → Q4, getD_some → Ub, isNone_none → Jd, isSome_none → Je
set_option linter.unusedSimpArgs false
set_option linter.unusedVariables false
namespace Go.Ev.YtgacigcbglflkaaGreat
open Go Go.Ev
attribute [local congr] Dp
set_option maxRecDepth 100000
def Qp3 (ws:List Nat) (j x:Nat):List Nat:=ws.set (j / 4) (ws.getD (j / 4) 0 ||| x * 2 ^ (8 * (j % 4)))
def ofI (H:List Ob) (id off n c m:Nat) (log:List Nat) (W:Nat → List Nat) (j:Nat):St :=
 ⟨[(3,.slice (some ⟨H.length,0,none⟩) m m),(11,.slice (some ⟨id,off,none⟩) n c),(12,.int .i64 n),(13,.int .i64 j)],H ++ [Ob.fresh (X0 (W j))],log⟩
theorem Q0z {H:List Ob} {id off n c m:Nat} {bs:List Nat} (hr:Row .u8 H id off bs) (hn:bs.length = n) (hm:m = (n + 3) / 4) (hN:n < 2 ^ 40) (hb:∀ x ∈ bs,x < 256)
  (W:Nat → List Nat) (hW:∀ j,(W j).length = m ∧ ∀ x ∈ W j,x < 4294967296) (hstep:∀ j x,bs[j]? = some x → W (j + 1) = Qp3 (W j) j x) {j:Nat} (hj:j < n) :
  Jl T H.length Qck (ofI H id off n c m [] W j) = some (.normal,ofI H id off n c m [] W (j + 1)):=by
 obtain ⟨x,hx⟩:∃ x,bs[j]? = some x:=⟨_,Q1 (by omega)⟩
 have h1:((j:Int) < (n:Int)):=by omega
 have hq:j / 4 < m:=by omega
 obtain ⟨y,hy⟩:∃ y,(W j)[j / 4]? = some y:=⟨_,Q1 (by rw [(hW j).1]; exact hq)⟩
 obtain ⟨o,ho,hc⟩:=hr
 have ho':=Br (l:=[⟨X0 (W j),true,true,true,1⟩]) ho
 have hxc:=hc j x hx
 have hyc:=Bc hy
 have hx256:x < 256:=hb x (Zk hx)
 have e1:IntKind.i64.wrap ((j:Int).tdiv 4) = ((j / 4:Nat):Int):=Vn (n:=j / 4) (by omega)
 have e2:((j:Int).tmod 4) = ((j % 4:Nat):Int):=rfl
 have e3:IntKind.i64.wrap (8 * ((j % 4:Nat):Int)) = ((8 * (j % 4):Nat):Int):=Vn (n:=8 * (j % 4)) (by omega)
 have e4:min (8 * (j % 4)) IntKind.u32.bits = 8 * (j % 4):=V8 (by show _ ≤ 32; omega)
 have e5:IntKind.u32.wrap (x:Int) = (x:Nat):=Wq rfl (by show x < 2 ^ 32; omega)
 have h3:((j / 4:Nat):Int) < (m:Int):=by omega
 have h4:¬ (((8 * (j % 4):Nat):Int) < 0):=by omega
 have hp:x * 2 ^ (8 * (j % 4)) < 4294967296:=by
  have h5:(2:Nat) ^ (8 * (j % 4)) ≤ 2 ^ 24:=Vf (by decide) (by omega)
  have h6:x * 2 ^ (8 * (j % 4)) ≤ 255 * 2 ^ 24:=Wg (by omega) h5
  omega
 have hy32:y < 4294967296:=(hW j).2 y (Zk hy)
 have e6:Vz .or .u32 (y:Nat) (IntKind.u32.wrap ((x:Int) * 2 ^ (8 * (j % 4)))) = ((y ||| x * 2 ^ (8 * (j % 4)):Nat):Int):=by
  have:((x:Int) * 2 ^ (8 * (j % 4))) = ((x * 2 ^ (8 * (j % 4)):Nat):Int):=by simp
  rw [this,Wq rfl hp,Gk rfl hy32 hp]
 have e7:IntKind.i64.wrap ((j:Int) + 1) = ((j + 1:Nat):Int):=Vn (n:=j + 1) (by omega)
 have h5:j / 4 + 1 ≤ (X0 (W j)).length:=by rw [Bb,(hW j).1]; omega
 have hs:W (j + 1) = (W j).set (j / 4) (y ||| x * 2 ^ (8 * (j % 4))):=by rw [hstep j x hx,Qp3,Xh,hy]; rfl
 simp only [ofI,Qck,Z0,Kf,Kn,K5,Xf,Ko,Jq,K6,Kr,Vc,guardOf,Zs,opd,Wj,Vp,Vb,Env.get,Env.put,Yc,Q4,Za,Zb,Xo,Vu,Kd,J4,St.after,Env.keep,if_true,if_false,ite_true,ite_false,Y3,V7,unV,Vy,Va,packed,reduceCtorEq,Jd,Je,Zv,Qf,Qb,Qh,Z1,Ja,Jf,beq_self_eq_true,Xx,J1,Ki,Kh,X8,K0,Kj,X3,K3,Kz,X4,Vg,Kl,J9,Kx,K4,X6,X5,Jw,X7,Ji,Jp,Jo,J7,Ju,J5,Jt,Jn,J8,J6,Xl,Jv,Kg,Xn,Kk,Ky,Xm,Km,Xa,Ob.fresh,Y8,Wp,Wu,Jg,and_self,true_and,and_true,Jh,Xy,Vk,Yn,Vh,Xb,Yk,Xc,Xj,false_and,decide_true,decide_false,Jr,Qp,Qn,Qo,Qd,Qm,Qg,Y1,Xk,Ye,Xz,Xq,Xr,Zq,Zp,Bg,Bf,Be,Bd,Zj,Ke,Jz,Xw,Xi,Ve,J3,h1,ho',hxc,hyc,e1,e2,e3,e4,e5,h3,h4,e6,e7,h5,Bx,hs,Hl]
theorem Rz (v:Value):∀ n,(Qa n [v]).flatten = Qa n v
 | 0 => rfl
 | n + 1 => by rw [Uh,Vj,Rz v n]; rfl
theorem Qn5 (B n:Nat):dig B n 0 = Qa n 0:=by
 symm
 exact Qa8 (by simp) fun i hi => by simp [hi]
theorem Qee (n:Nat):Qa n (Value.int .u32 0) = X0 (dig 4294967296 n 0):=by simp [Qn5,X0]
theorem Qj3 {H:List Ob} {id off n c:Nat} {bs:List Nat} (hr:Row .u8 H id off bs) (hn:bs.length = n) (hN:n < 2 ^ 40) (hb:∀ x ∈ bs,x < 256) :
  V6 T 48 [.slice (some ⟨id,off,none⟩) n c] H = some (.slice (some ⟨H.length,0,none⟩) ((n + 3) / 4) ((n + 3) / 4),H ++ [Ob.fresh (X0 (dig 4294967296 ((n + 3) / 4) (num 256 bs)))],[]):=by
 have hbody:=Wb (T:=T) (base:=H.length) (id:=0) (body:=Qck) (ofI H id off n c ((n + 3) / 4) [] fun j => dig 4294967296 ((n + 3) / 4) (num 256 (bs.take j))) n
  (s':=⟨[(3,.slice (some ⟨H.length,0,none⟩) ((n + 3) / 4) ((n + 3) / 4)),(11,.slice (some ⟨id,off,none⟩) n c),(12,.int .i64 n),(13,.int .i64 n),(14,.bool false)],H ++ [Ob.fresh (X0 (dig 4294967296 ((n + 3) / 4) (num 256 bs)))],[]⟩)
  (fun j hj => Q0z hr hn rfl hN hb _ (fun j => ⟨Kc _ _ _,fun x hx => Gs (by decide) hx⟩) (fun j x hx => by
   have hj:j < bs.length:=(Q8.1 hx).1
   have hlt:num 256 (bs.take j) < 256 ^ j:=by
    have:=num_lt (B:=256) (l:=bs.take j) fun y hy => hb y (Kp hy)
    rwa [Js,V8 (Wh hj)] at this
   rw [Wn hx,Qp3,Qyk (by omega) hlt (hb x (Zk hx))]) hj)
  (by
   have h1:¬ ((n:Int) < (n:Int)):=by omega
   have h2:bs.take n = bs:=by rw [← hn]; exact Hu
   simp only [ofI,Qck,Z0,Kf,Kn,K5,Xf,Ko,Jq,K6,Kr,Vc,guardOf,Zs,opd,Wj,Vp,Vb,Env.get,Env.put,Yc,Q4,Za,Zb,Xo,Vu,Kd,J4,St.after,Env.keep,if_true,if_false,ite_true,ite_false,Y3,V7,unV,Vy,Va,packed,reduceCtorEq,Jd,Je,Zv,Qf,Qb,Qh,Z1,Ja,Jf,beq_self_eq_true,Xx,J1,Ki,Kh,X8,K0,Kj,X3,K3,Kz,X4,Vg,Kl,J9,Kx,K4,X6,X5,Jw,X7,Ji,Jp,Jo,J7,Ju,J5,Jt,Jn,J8,J6,Xl,Jv,Kg,Xn,Kk,Ky,Xm,Km,Xa,Ob.fresh,Y8,Wp,Wu,Jg,and_self,true_and,and_true,Jh,Xy,Vk,Yn,Vh,Xb,Yk,Xc,Xj,false_and,decide_true,decide_false,Jr,Qp,Qn,Qo,Qd,Qm,Qg,Y1,Xk,Ye,Xz,Xq,Xr,Zq,Zp,Bg,Bf,Be,Bd,Zj,Ke,Jz,Xw,Xi,Ve,J3,h1,h2])
 have e1:IntKind.i64.wrap ((n:Int) + 3) = ((n + 3:Nat):Int):=Vn (n:=n + 3) (by omega)
 have e2:IntKind.i64.wrap (((n + 3:Nat):Int).tdiv 4) = (((n + 3) / 4:Nat):Int):=Vn (n:=(n + 3) / 4) (by omega)
 have h1:((((n + 3) / 4:Nat):Int) * ((4:Nat):Int) ≤ 2 ^ 47):=by omega
 have h2:(0:Nat) < 4:=by decide
 rw [Jc (fn:=a40) rfl]
 have hz:ofI H id off n c ((n + 3) / 4) [] (fun j => dig 4294967296 ((n + 3) / 4) (num 256 (bs.take j))) 0 = ⟨[(3,.slice (some ⟨H.length,0,none⟩) ((n + 3) / 4) ((n + 3) / 4)),(11,.slice (some ⟨id,off,none⟩) n c),(12,.int .i64 n),(13,.int .i64 0)],H ++ [Ob.fresh (X0 (dig 4294967296 ((n + 3) / 4) 0))],[]⟩:=by simp [ofI,num]
 rw [hz] at hbody
 simp only [Ob.fresh] at hbody
 simp only [a40,Z0,Kf,Kn,K5,Xf,Ko,Jq,K6,Kr,Vc,guardOf,Zs,opd,Wj,Vp,Vb,Env.get,Env.put,Yc,Q4,Za,Zb,Xo,Vu,Kd,J4,St.after,Env.keep,if_true,if_false,ite_true,ite_false,Y3,V7,unV,Vy,Va,packed,reduceCtorEq,Jd,Je,Zv,Qf,Qb,Qh,Z1,Ja,Jf,beq_self_eq_true,Xx,J1,Ki,Kh,X8,K0,Kj,X3,K3,Kz,X4,Vg,Kl,J9,Kx,K4,X6,X5,Jw,X7,Ji,Jp,Jo,J7,Ju,J5,Jt,Jn,J8,J6,Xl,Jv,Kg,Xn,Kk,Ky,Xm,Km,Xa,Ob.fresh,Y8,Wp,Wu,Jg,and_self,true_and,and_true,Jh,Xy,Vk,Yn,Vh,Xb,Yk,Xc,Xj,false_and,decide_true,decide_false,Jr,Qp,Qn,Qo,Qd,Qm,Qg,Y1,Xk,Ye,Xz,Xq,Xr,Zq,Zp,Bg,Bf,Be,Bd,Zj,Ke,Jz,Xw,Xi,Ve,J3,e1,e2,h1,h2,Ke,Rz,Qee,hbody]
structure MulInv (n m i k A a:Nat) (os out:List Nat) (c:Nat):Prop where
 len:out.length = n + m
 lt:∀ x ∈ out,x < 4294967296
 clt:c < 4294967296
 eq:num 4294967296 out + c * 4294967296 ^ (i + k) = A + a * 4294967296 ^ i * num 4294967296 (os.take k)
 top:∀ j,i + m ≤ j → j < n + m → out[j]? = some 0
theorem MulInv.step {n m i k A a b y c:Nat} {os out:List Nat} (h:MulInv n m i k A a os out c) (ha:a < 4294967296) (hb:os[k]? = some b) (hb':b < 4294967296) (hy:out[i + k]? = some y) (hk:k < m) :
  MulInv n m i (k + 1) A a os (out.set (i + k) ((c + (y + a * b)) % 4294967296)) ((c + (y + a * b)) / 4294967296):=by
 have hy':y < 4294967296:=h.lt y (Zk hy)
 have hc:=h.clt
 refine ⟨by rw [Xe]; exact h.len,Da h.lt (Jk _ (by decide)),?_,?_,?_⟩
 ·have:a * b ≤ 4294967295 * 4294967295:=Wg (by omega) (by omega)
  rw [Qe8 (by decide)]
  show _ < 4294967296 * 4294967296
  omega
 ·have h1:=Gj (B:=4294967296) ((c + (y + a * b)) % 4294967296) hy
  have h2:=h.eq
  rw [Wn hb]
  have h3:=Vr (c + (y + a * b)) 4294967296
  generalize (c + (y + a * b)) / 4294967296 = q at *
  generalize (c + (y + a * b)) % 4294967296 = r at *
  have e1:a * 4294967296 ^ i * (num 4294967296 (os.take k) + b * 4294967296 ^ k) = a * 4294967296 ^ i * num 4294967296 (os.take k) + a * b * 4294967296 ^ (i + k):=by
   rw [Hg,Wl]; congr 1; simp only [Vo,Wf,K7]
  have e2:q * 4294967296 ^ (i + (k + 1)) = 4294967296 * q * 4294967296 ^ (i + k):=by
   rw [← Ka,Kq]; simp only [Vo,Wf,K7]
  rw [e1,e2]
  have e3:(4294967296 * q + r) * 4294967296 ^ (i + k) = (c + (y + a * b)) * 4294967296 ^ (i + k):=by rw [h3]
  rw [Kt,Kt,Kt] at e3
  omega
 ·intro j h1 h2
  rw [Jj (by omega)]
  exact h.top j h1 h2
def Qs8 (H:List Ob) (s1 s2:Value) (n m i a k c:Nat) (out:List Nat):St :=
 ⟨[(1,s2),(5,.slice (some ⟨H.length,0,none⟩) (n + m) (n + m)),(6,.int .i64 i),(7,.int .u32 a),(8,.int .u64 c),(17,s1),(18,.int .i64 n),(19,.int .i64 i),(24,s2),(25,.int .i64 m),(26,.int .i64 k)],H ++ [Ob.fresh (X0 out)],[]⟩
theorem Qs7 {H:List Ob} {s1:Value} {id2 off2 c2 n m i a k c b y:Nat} {os out:List Nat} (hr:Row .u32 H id2 off2 os) (hN:n + m < 2 ^ 40) (hi:i < n) (hk:k < m) (ha:a < 4294967296) (hb:os[k]? = some b) (hb':b < 4294967296) (hl:out.length = n + m) (hy:out[i + k]? = some y) (hy':y < 4294967296) (hc:c < 4294967296) :
  Jl T H.length Qio (Qs8 H s1 (.slice (some ⟨id2,off2,none⟩) m c2) n m i a k c out) = some (.normal,Qs8 H s1 (.slice (some ⟨id2,off2,none⟩) m c2) n m i a (k + 1) ((c + (y + a * b)) / 4294967296) (out.set (i + k) ((c + (y + a * b)) % 4294967296))):=by
 obtain ⟨o,ho,hcell⟩:=hr
 have ho':=Br (l:=[⟨X0 out,true,true,true,1⟩]) ho
 have hxc:=hcell k b hb
 have hyc:=Bc hy
 have hab:a * b ≤ 4294967295 * 4294967295:=Wg (by omega) (by omega)
 have h1:((k:Int) < (m:Int)):=by omega
 have h2:((i + k:Nat):Int) < ((n + m:Nat):Int):=by omega
 have e1:IntKind.i64.wrap ((i:Int) + (k:Int)) = ((i + k:Nat):Int):=Vn (n:=i + k) (by omega)
 have e2:IntKind.u64.wrap (y:Int) = (y:Nat):=Wq rfl (by show y < 2 ^ 64; omega)
 have e3:IntKind.u64.wrap (a:Int) = (a:Nat):=Wq rfl (by show a < 2 ^ 64; omega)
 have e4:IntKind.u64.wrap (b:Int) = (b:Nat):=Wq rfl (by show b < 2 ^ 64; omega)
 have e5:IntKind.u64.wrap ((a:Int) * (b:Int)) = ((a * b:Nat):Int):=Wq (n:=a * b) rfl (by show _ < 2 ^ 64; omega)
 have e6:IntKind.u64.wrap ((y:Int) + ((a * b:Nat):Int)) = ((y + a * b:Nat):Int):=Wq (n:=y + a * b) rfl (by show _ < 2 ^ 64; omega)
 have e7:IntKind.u64.wrap ((c:Int) + ((y + a * b:Nat):Int)) = ((c + (y + a * b):Nat):Int):=Wq (n:=c + (y + a * b)) rfl (by show _ < 2 ^ 64; omega)
 have e8:IntKind.u32.wrap ((c + (y + a * b):Nat):Int) = (((c + (y + a * b)) % 4294967296:Nat):Int):=by rw [wrap_u32]; rfl
 have e9:Tw ((c + (y + a * b):Nat):Int) (2 ^ min 32 IntKind.u64.bits) = (((c + (y + a * b)) / 4294967296:Nat):Int):=by
  rw [Y6 _ (by decide)]; rfl
 have e10:IntKind.i64.wrap ((k:Int) + 1) = ((k + 1:Nat):Int):=Vn (n:=k + 1) (by omega)
 have h5:i + k + 1 ≤ (X0 out).length:=by rw [Bb,hl]; omega
 simp only [Qs8,Qio,Z0,Kf,Kn,K5,Xf,Ko,Jq,K6,Kr,Vc,guardOf,Zs,opd,Wj,Vp,Vb,Env.get,Env.put,Yc,Q4,Za,Zb,Xo,Vu,Kd,J4,St.after,Env.keep,if_true,if_false,ite_true,ite_false,Y3,V7,unV,Vy,Va,packed,reduceCtorEq,Jd,Je,Zv,Qf,Qb,Qh,Z1,Ja,Jf,beq_self_eq_true,Xx,J1,Ki,Kh,X8,K0,Kj,X3,K3,Kz,X4,Vg,Kl,J9,Kx,K4,X6,X5,Jw,X7,Ji,Jp,Jo,J7,Ju,J5,Jt,Jn,J8,J6,Xl,Jv,Kg,Xn,Kk,Ky,Xm,Km,Xa,Ob.fresh,Y8,Wp,Wu,Jg,and_self,true_and,and_true,Jh,Xy,Vk,Yn,Vh,Xb,Yk,Xc,Xj,false_and,decide_true,decide_false,Jr,Qp,Qn,Qo,Qd,Qm,Qg,Y1,Xk,Ye,Xz,Xq,Xr,Zq,Zp,Bg,Bf,Be,Bd,Zj,Ke,Jz,Xw,Xi,Ve,J3,h1,h2,ho',hxc,hyc,e1,e2,e3,e4,e5,e6,e7,e8,e9,e10,h5,Bx,Hl]
structure TimesInv (n m i:Nat) (ws os out:List Nat):Prop where
 len:out.length = n + m
 lt:∀ x ∈ out,x < 4294967296
 eq:num 4294967296 out = num 4294967296 (ws.take i) * num 4294967296 os
 top:∀ j,i + m ≤ j → j < n + m → out[j]? = some 0
def Qef (H:List Ob) (s1 s2:Value) (n m i:Nat) (out:List Nat):St :=
 ⟨[(1,s2),(5,.slice (some ⟨H.length,0,none⟩) (n + m) (n + m)),(17,s1),(18,.int .i64 n),(19,.int .i64 i)],H ++ [Ob.fresh (X0 out)],[]⟩
theorem Qmj {H:List Ob} {id1 off1 c1 id2 off2 c2 n m i a:Nat} {ws os out:List Nat} (hr1:Row .u32 H id1 off1 ws) (hr2:Row .u32 H id2 off2 os) (hm:os.length = m) (hN:n + m < 2 ^ 40) (hi:i < n) (ha:ws[i]? = some a) (ha':a < 4294967296) (hos:∀ x ∈ os,x < 4294967296) (h:TimesInv n m i ws os out) :
  ∃ out',Jl T H.length Qin (Qef H (.slice (some ⟨id1,off1,none⟩) n c1) (.slice (some ⟨id2,off2,none⟩) m c2) n m i out) = some (.normal,Qef H (.slice (some ⟨id1,off1,none⟩) n c1) (.slice (some ⟨id2,off2,none⟩) m c2) n m (i + 1) out') ∧ TimesInv n m (i + 1) ws os out':=by
 have h0:MulInv n m i 0 (num 4294967296 out) a os out 0:=⟨h.len,h.lt,by decide,by simp [num],h.top⟩
 obtain ⟨s',hb,out1,c,rfl,hinv⟩:=Vi (T:=T) (base:=H.length) (id:=2) (body:=Qio)
  (fun k s => ∃ out1 c,s = Qs8 H (.slice (some ⟨id1,off1,none⟩) n c1) (.slice (some ⟨id2,off2,none⟩) m c2) n m i a k c out1 ∧ MulInv n m i k (num 4294967296 out) a os out1 c)
  (Q:=fun s => ∃ out1 c,s = ⟨[(1,.slice (some ⟨id2,off2,none⟩) m c2),(5,.slice (some ⟨H.length,0,none⟩) (n + m) (n + m)),(6,.int .i64 i),(7,.int .u32 a),(8,.int .u64 (c:Nat)),(17,.slice (some ⟨id1,off1,none⟩) n c1),(18,.int .i64 n),(19,.int .i64 i),(24,.slice (some ⟨id2,off2,none⟩) m c2),(25,.int .i64 m),(26,.int .i64 m),(27,.bool false)],H ++ [⟨X0 out1,true,true,true,1⟩],[]⟩ ∧ MulInv n m i m (num 4294967296 out) a os out1 c)
  m ⟨out,0,rfl,h0⟩
  (fun k s hk hs => by
   obtain ⟨out1,c,rfl,hI⟩:=hs
   obtain ⟨b,hbk⟩:∃ b,os[k]? = some b:=⟨_,Q1 (by omega)⟩
   obtain ⟨y,hy⟩:∃ y,out1[i + k]? = some y:=⟨_,Q1 (by rw [hI.len]; omega)⟩
   have hb':=hos b (Zk hbk)
   exact ⟨_,Qs7 hr2 hN hi hk ha' hbk hb' hI.len hy (hI.lt y (Zk hy)) hI.clt,_,_,rfl,hI.step ha' hbk hb' hy hk⟩)
  (fun s hs => by
   obtain ⟨out1,c,rfl,hI⟩:=hs
   have h1:¬ ((m:Int) < (m:Int)):=by omega
   refine ⟨_,?_,out1,c,rfl,hI⟩
   simp only [Qs8,Qio,Z0,Kf,Kn,K5,Xf,Ko,Jq,K6,Kr,Vc,guardOf,Zs,opd,Wj,Vp,Vb,Env.get,Env.put,Yc,Q4,Za,Zb,Xo,Vu,Kd,J4,St.after,Env.keep,if_true,if_false,ite_true,ite_false,Y3,V7,unV,Vy,Va,packed,reduceCtorEq,Jd,Je,Zv,Qf,Qb,Qh,Z1,Ja,Jf,beq_self_eq_true,Xx,J1,Ki,Kh,X8,K0,Kj,X3,K3,Kz,X4,Vg,Kl,J9,Kx,K4,X6,X5,Jw,X7,Ji,Jp,Jo,J7,Ju,J5,Jt,Jn,J8,J6,Xl,Jv,Kg,Xn,Kk,Ky,Xm,Km,Xa,Ob.fresh,Y8,Wp,Wu,Jg,and_self,true_and,and_true,Jh,Xy,Vk,Yn,Vh,Xb,Yk,Xc,Xj,false_and,decide_true,decide_false,Jr,Qp,Qn,Qo,Qd,Qm,Qg,Y1,Xk,Ye,Xz,Xq,Xr,Zq,Zp,Bg,Bf,Be,Bd,Zj,Ke,Jz,Xw,Xi,Ve,J3,h1])
 rw [show Qs8 H (.slice (some ⟨id1,off1,none⟩) n c1) (.slice (some ⟨id2,off2,none⟩) m c2) n m i a 0 0 out = ⟨[(1,.slice (some ⟨id2,off2,none⟩) m c2),(5,.slice (some ⟨H.length,0,none⟩) (n + m) (n + m)),(6,.int .i64 i),(7,.int .u32 a),(8,.int .u64 0),(17,.slice (some ⟨id1,off1,none⟩) n c1),(18,.int .i64 n),(19,.int .i64 i),(24,.slice (some ⟨id2,off2,none⟩) m c2),(25,.int .i64 m),(26,.int .i64 0)],H ++ [⟨X0 out,true,true,true,1⟩],[]⟩ from rfl] at hb
 obtain ⟨o,ho,hcell⟩:=hr1
 have ho':=Br (l:=[⟨X0 out,true,true,true,1⟩]) ho
 have hxc:=hcell i a ha
 have hz:out1[i + m]? = some 0:=hinv.top (i + m) (Zj _) (by omega)
 have h1:((i:Int) < (n:Int)):=by omega
 have h2:((i + m:Nat):Int) < ((n + m:Nat):Int):=by omega
 have e1:IntKind.i64.wrap ((i:Int) + (m:Int)) = ((i + m:Nat):Int):=Vn (n:=i + m) (by omega)
 have e2:IntKind.u32.wrap (c:Int) = (c:Nat):=Wq rfl hinv.clt
 have e10:IntKind.i64.wrap ((i:Int) + 1) = ((i + 1:Nat):Int):=Vn (n:=i + 1) (by omega)
 have h5:i + m + 1 ≤ (X0 out1).length:=by rw [Bb,hinv.len]; omega
 refine ⟨out1.set (i + m) c,?_,?_⟩
 ·simp only [Qef,Qin,Z0,Kf,Kn,K5,Xf,Ko,Jq,K6,Kr,Vc,guardOf,Zs,opd,Wj,Vp,Vb,Env.get,Env.put,Yc,Q4,Za,Zb,Xo,Vu,Kd,J4,St.after,Env.keep,if_true,if_false,ite_true,ite_false,Y3,V7,unV,Vy,Va,packed,reduceCtorEq,Jd,Je,Zv,Qf,Qb,Qh,Z1,Ja,Jf,beq_self_eq_true,Xx,J1,Ki,Kh,X8,K0,Kj,X3,K3,Kz,X4,Vg,Kl,J9,Kx,K4,X6,X5,Jw,X7,Ji,Jp,Jo,J7,Ju,J5,Jt,Jn,J8,J6,Xl,Jv,Kg,Xn,Kk,Ky,Xm,Km,Xa,Ob.fresh,Y8,Wp,Wu,Jg,and_self,true_and,and_true,Jh,Xy,Vk,Yn,Vh,Xb,Yk,Xc,Xj,false_and,decide_true,decide_false,Jr,Qp,Qn,Qo,Qd,Qm,Qg,Y1,Xk,Ye,Xz,Xq,Xr,Zq,Zp,Bg,Bf,Be,Bd,Zj,Ke,Jz,Xw,Xi,Ve,J3,h1,h2,ho',hxc,hb,e1,e2,e10,h5,Bx,Hl]
 ·refine ⟨by rw [Xe]; exact hinv.len,Da hinv.lt hinv.clt,?_,?_⟩
  ·have h6:=Gj (B:=4294967296) c hz
   have h7:=hinv.eq
   rw [show os.take m = os by rw [← hm]; exact Hu,h.eq] at h7
   rw [Wn ha,Kt]
   omega
  ·intro j h6 h7
   rw [Jj (by omega)]
   exact hinv.top j (by omega) h7
theorem Qu5 {H:List Ob} {id1 off1 c1 id2 off2 c2 n m:Nat} {ws os:List Nat} (hr1:Row .u32 H id1 off1 ws) (hr2:Row .u32 H id2 off2 os) (hn:ws.length = n) (hm:os.length = m) (hN:n + m < 2 ^ 40) (hws:∀ x ∈ ws,x < 4294967296) (hos:∀ x ∈ os,x < 4294967296) :
  V6 T 49 [.slice (some ⟨id1,off1,none⟩) n c1,.slice (some ⟨id2,off2,none⟩) m c2] H = some (.slice (some ⟨H.length,0,none⟩) (n + m) (n + m),H ++ [Ob.fresh (X0 (dig 4294967296 (n + m) (num 4294967296 ws * num 4294967296 os)))],[]):=by
 have h0:TimesInv n m 0 ws os (dig 4294967296 (n + m) 0):=⟨Kc _ _ _,fun x hx => Gs (by decide) hx,by rw [U5 (by decide)]; simp [num],fun j _ h => by rw [Uz h]; simp⟩
 obtain ⟨s',hb,out,rfl,hinv⟩:=Vi (T:=T) (base:=H.length) (id:=0) (body:=Qin)
  (fun i s => ∃ out,s = Qef H (.slice (some ⟨id1,off1,none⟩) n c1) (.slice (some ⟨id2,off2,none⟩) m c2) n m i out ∧ TimesInv n m i ws os out)
  (Q:=fun s => ∃ out,s = ⟨[(1,.slice (some ⟨id2,off2,none⟩) m c2),(5,.slice (some ⟨H.length,0,none⟩) (n + m) (n + m)),(17,.slice (some ⟨id1,off1,none⟩) n c1),(18,.int .i64 n),(19,.int .i64 n),(20,.bool false)],H ++ [⟨X0 out,true,true,true,1⟩],[]⟩ ∧ TimesInv n m n ws os out)
  n ⟨_,rfl,h0⟩
  (fun i s hi hs => by
   obtain ⟨out,rfl,hI⟩:=hs
   obtain ⟨a,ha⟩:∃ a,ws[i]? = some a:=⟨_,Q1 (by omega)⟩
   obtain ⟨out',g1,g2⟩:=Qmj (c1:=c1) (c2:=c2) hr1 hr2 hm hN hi ha (hws a (Zk ha)) hos hI
   exact ⟨_,g1,_,rfl,g2⟩)
  (fun s hs => by
   obtain ⟨out,rfl,hI⟩:=hs
   have h1:¬ ((n:Int) < (n:Int)):=by omega
   refine ⟨_,?_,out,rfl,hI⟩
   simp only [Qef,Qin,Z0,Kf,Kn,K5,Xf,Ko,Jq,K6,Kr,Vc,guardOf,Zs,opd,Wj,Vp,Vb,Env.get,Env.put,Yc,Q4,Za,Zb,Xo,Vu,Kd,J4,St.after,Env.keep,if_true,if_false,ite_true,ite_false,Y3,V7,unV,Vy,Va,packed,reduceCtorEq,Jd,Je,Zv,Qf,Qb,Qh,Z1,Ja,Jf,beq_self_eq_true,Xx,J1,Ki,Kh,X8,K0,Kj,X3,K3,Kz,X4,Vg,Kl,J9,Kx,K4,X6,X5,Jw,X7,Ji,Jp,Jo,J7,Ju,J5,Jt,Jn,J8,J6,Xl,Jv,Kg,Xn,Kk,Ky,Xm,Km,Xa,Ob.fresh,Y8,Wp,Wu,Jg,and_self,true_and,and_true,Jh,Xy,Vk,Yn,Vh,Xb,Yk,Xc,Xj,false_and,decide_true,decide_false,Jr,Qp,Qn,Qo,Qd,Qm,Qg,Y1,Xk,Ye,Xz,Xq,Xr,Zq,Zp,Bg,Bf,Be,Bd,Zj,Ke,Jz,Xw,Xi,Ve,J3,h1])
 rw [show Qef H (.slice (some ⟨id1,off1,none⟩) n c1) (.slice (some ⟨id2,off2,none⟩) m c2) n m 0 (dig 4294967296 (n + m) 0) = ⟨[(1,.slice (some ⟨id2,off2,none⟩) m c2),(5,.slice (some ⟨H.length,0,none⟩) (n + m) (n + m)),(17,.slice (some ⟨id1,off1,none⟩) n c1),(18,.int .i64 n),(19,.int .i64 0)],H ++ [⟨X0 (dig 4294967296 (n + m) 0),true,true,true,1⟩],[]⟩ from rfl] at hb
 have hout:dig 4294967296 (n + m) (num 4294967296 ws * num 4294967296 os) = out:=by
  have h1:=hinv.eq
  rw [show ws.take n = ws by rw [← hn]; exact Hu] at h1
  rw [← h1,← hinv.len,D1 (by decide) hinv.lt]
 have e1:IntKind.i64.wrap ((n:Int) + (m:Int)) = ((n + m:Nat):Int):=Vn (n:=n + m) (by omega)
 have h1:(((n + m:Nat):Int) * ((4:Nat):Int) ≤ 2 ^ 47):=by omega
 have h2:(0:Nat) < 4:=by decide
 rw [Jc (fn:=a44) rfl,hout]
 simp only [a44,Z0,Kf,Kn,K5,Xf,Ko,Jq,K6,Kr,Vc,guardOf,Zs,opd,Wj,Vp,Vb,Env.get,Env.put,Yc,Q4,Za,Zb,Xo,Vu,Kd,J4,St.after,Env.keep,if_true,if_false,ite_true,ite_false,Y3,V7,unV,Vy,Va,packed,reduceCtorEq,Jd,Je,Zv,Qf,Qb,Qh,Z1,Ja,Jf,beq_self_eq_true,Xx,J1,Ki,Kh,X8,K0,Kj,X3,K3,Kz,X4,Vg,Kl,J9,Kx,K4,X6,X5,Jw,X7,Ji,Jp,Jo,J7,Ju,J5,Jt,Jn,J8,J6,Xl,Jv,Kg,Xn,Kk,Ky,Xm,Km,Xa,Ob.fresh,Y8,Wp,Wu,Jg,and_self,true_and,and_true,Jh,Xy,Vk,Yn,Vh,Xb,Yk,Xc,Xj,false_and,decide_true,decide_false,Jr,Qp,Qn,Qo,Qd,Qm,Qg,Y1,Xk,Ye,Xz,Xq,Xr,Zq,Zp,Bg,Bf,Be,Bd,Zj,Ke,Jz,Xw,Xi,Ve,J3,e1,h1,h2,Ke,Rz,Qee,hb]
structure PlusInv (n i A:Nat) (os out:List Nat) (c:Nat):Prop where
 len:out.length = n + 1
 lt:∀ x ∈ out,x < 4294967296
 cle:c ≤ 1
 eq:num 4294967296 out + c * 4294967296 ^ i = A + num 4294967296 (os.take i)
theorem Qi6 {B:Nat} (l:List Nat) (i:Nat):num B (l.take (i + 1)) = num B (l.take i) + l.getD i 0 * B ^ i:=by
 cases h:l[i]? with
 | some x => rw [Wn h,Xh,h]; rfl
 | none =>
  have:=List.getElem?_eq_none_iff.1 h
  rw [Xh,h,Zl this,Zl (by omega)]
  simp
theorem PlusInv.step {n i A c y:Nat} {os out:List Nat} (h:PlusInv n i A os out c) (hos:∀ x ∈ os,x < 4294967296) (hy:out[i]? = some y):PlusInv n (i + 1) A os (out.set i (Qok y (os.getD i 0) c)) (Qol y (os.getD i 0) c):=by
 have hy':y < 4294967296:=h.lt y (Zk hy)
 have hc:=h.cle
 have hx:os.getD i 0 < 4294967296:=by
  rw [Xh]
  cases hh:os[i]? with
  | some x => exact hos x (Zk hh)
  | none => decide
 refine ⟨by rw [Xe]; exact h.len,Da h.lt (Jk _ (by decide)),?_,?_⟩
 ·unfold Qol; omega
 ·have h1:=Gj (B:=4294967296) (Qok y (os.getD i 0) c) hy
  have h2:=h.eq
  rw [Qi6]
  have h3:4294967296 * Qol y (os.getD i 0) c + Qok y (os.getD i 0) c = y + os.getD i 0 + c:=Vr _ _
  generalize Qol y (os.getD i 0) c = q at *
  generalize Qok y (os.getD i 0) c = r at *
  have e2:q * 4294967296 ^ (i + 1) = 4294967296 * q * 4294967296 ^ i:=by
   rw [Kq]; simp only [Vo,Wf,K7]
  have e3:(4294967296 * q + r) * 4294967296 ^ i = (y + os.getD i 0 + c) * 4294967296 ^ i:=by rw [h3]
  rw [Kt,Kt,Kt] at e3
  rw [e2]
  omega
def Qg3 (H:List Ob) (s2:Value) (n i c:Nat) (out:List Nat):St :=
 ⟨[(1,s2),(5,.slice (some ⟨H.length,0,none⟩) (n + 1) (n + 1)),(6,.int .u32 c),(19,.int .i64 ((n + 1:Nat):Int)),(20,.int .i64 i)],H ++ [⟨X0 out,true,true,true,1⟩,⟨[.int .u32 0],true,true,true,1⟩],[]⟩
theorem Qsw {H:List Ob} {id2 off2 c2 n m i c y:Nat} {os out:List Nat} (hr:Row .u32 H id2 off2 os) (hm:os.length = m) (hN:n < 2 ^ 40) (hmn:m < 2 ^ 40) (hi:i < n + 1) (hos:∀ x ∈ os,x < 4294967296) (hl:out.length = n + 1) (hy:out[i]? = some y) (hy':y < 4294967296) (hc:c ≤ 1) :
  Jl T H.length Qaq (Qg3 H (.slice (some ⟨id2,off2,none⟩) m c2) n i c out) = some (.normal,Qg3 H (.slice (some ⟨id2,off2,none⟩) m c2) n (i + 1) (Qol y (os.getD i 0) c) (out.set i (Qok y (os.getD i 0) c))):=by
 obtain ⟨o,ho,hcell⟩:=hr
 have ho':=Br (l:=[⟨X0 out,true,true,true,1⟩,⟨[.int .u32 0],true,true,true,1⟩]) ho
 have hyc:=Bc hy
 have h1:((i:Int) < ((n + 1:Nat):Int)):=by omega
 have e10:IntKind.i64.wrap ((i:Int) + 1) = ((i + 1:Nat):Int):=Vn (n:=i + 1) (by omega)
 have h5:i + 1 ≤ (X0 out).length:=by rw [Bb,hl]; omega
 by_cases him:i < m
 ·obtain ⟨b,hb⟩:∃ b,os[i]? = some b:=⟨_,Q1 (by omega)⟩
  have hd:os.getD i 0 = b:=by rw [Xh,hb]; rfl
  have hxc:=hcell i b hb
  have h2:((i:Int) < (m:Int)):=by omega
  have hadd:=Qom hy' (hos b (Zk hb)) hc
  rw [hd]
  simp only [Qg3,Qaq,Z0,Kf,Kn,K5,Xf,Ko,Jq,K6,Kr,Vc,guardOf,Zs,opd,Wj,Vp,Vb,Env.get,Env.put,Yc,Q4,Za,Zb,Xo,Vu,Kd,J4,St.after,Env.keep,if_true,if_false,ite_true,ite_false,Y3,V7,unV,Vy,Va,packed,reduceCtorEq,Jd,Je,Zv,Qf,Qb,Qh,Z1,Ja,Jf,beq_self_eq_true,Xx,J1,Ki,Kh,X8,K0,Kj,X3,K3,Kz,X4,Vg,Kl,J9,Kx,K4,X6,X5,Jw,X7,Ji,Jp,Jo,J7,Ju,J5,Jt,Jn,J8,J6,Xl,Jv,Kg,Xn,Kk,Ky,Xm,Km,Xa,Ob.fresh,Y8,Wp,Wu,Jg,and_self,true_and,and_true,Jh,Xy,Vk,Yn,Vh,Xb,Yk,Xc,Xj,false_and,decide_true,decide_false,Jr,Qp,Qn,Qo,Qd,Qm,Qg,Y1,Xk,Ye,Xz,Xq,Xr,Zq,Zp,Bg,Bf,Be,Bd,Zj,Ke,Jz,Xw,Xi,Ve,J3,h1,h2,ho',hxc,hyc,e10,h5,Bx,Hl,hadd]
 ·have hd:os.getD i 0 = 0:=by rw [Xh,J0 (by omega)]; rfl
  have h2:¬ ((i:Int) < (m:Int)):=by omega
  have hadd:V6 T 88 [.int .u32 (y:Nat),.int .u32 0,.int .u32 (c:Nat)] [] = _:=Qom hy' (by decide:0 < 4294967296) hc
  rw [hd]
  simp only [Qg3,Qaq,Z0,Kf,Kn,K5,Xf,Ko,Jq,K6,Kr,Vc,guardOf,Zs,opd,Wj,Vp,Vb,Env.get,Env.put,Yc,Q4,Za,Zb,Xo,Vu,Kd,J4,St.after,Env.keep,if_true,if_false,ite_true,ite_false,Y3,V7,unV,Vy,Va,packed,reduceCtorEq,Jd,Je,Zv,Qf,Qb,Qh,Z1,Ja,Jf,beq_self_eq_true,Xx,J1,Ki,Kh,X8,K0,Kj,X3,K3,Kz,X4,Vg,Kl,J9,Kx,K4,X6,X5,Jw,X7,Ji,Jp,Jo,J7,Ju,J5,Jt,Jn,J8,J6,Xl,Jv,Kg,Xn,Kk,Ky,Xm,Km,Xa,Ob.fresh,Y8,Wp,Wu,Jg,and_self,true_and,and_true,Jh,Xy,Vk,Yn,Vh,Xb,Yk,Xc,Xj,false_and,decide_true,decide_false,Jr,Qp,Qn,Qo,Qd,Qm,Qg,Y1,Xk,Ye,Xz,Xq,Xr,Zq,Zp,Bg,Bf,Be,Bd,Zj,Ke,Jz,Xw,Xi,Ve,J3,h1,h2,hyc,e10,h5,Bx,Hl,hadd]
theorem Q0d {ws:List Nat} {n:Nat} (hn:ws.length = n):splice (X0 (dig 4294967296 (n + 1) 0)) 0 (X0 ws) = X0 (ws ++ [0]):=by
 rw [Mc _ _ _ (by rw [Bb,Bb,Kc]; omega),Bb,hn,Qn5]
 simp only [Q3,Za,Z1,X0,G6,List.map_replicate,List.drop_replicate]
 rw [show n + 1 - n = 1 by omega]; rfl
theorem Q0c {ws:List Nat} {n:Nat} (hn:ws.length = n):splice (X0 (ws ++ [0])) n [.int .u32 0] = X0 (ws ++ [0]):=by
 rw [Xc]
 apply Ym
 intro i
 by_cases hi:i = n
 ·subst hi
  rw [Xp (by rw [Bb,Z4,hn]; simp),Bc (x:=0) (by rw [Zh (by omega),hn]; simp)]; rfl
 ·rw [Jj (Ne.symm hi)]
theorem Q0g {H:List Ob} {id1 off1 c1 n:Nat} {ws:List Nat} (hr1:Row .u32 H id1 off1 ws) (hn:ws.length = n) (hn0:0 < n) (hN:n < 2 ^ 40) :
  Y4 1 4 (H ++ [⟨X0 (dig 4294967296 (n + 1) 0),true,true,true,1⟩]) (.slice (some ⟨H.length,0,none⟩) 0 (n + 1)) (.slice (some ⟨id1,off1,none⟩) n c1) = some (.slice (some ⟨H.length,0,none⟩) n (n + 1),H ++ [⟨X0 (ws ++ [0]),true,true,true,1⟩],none,[H.length]):=by
 have h:=Qfq (H:=H) (r:=[]) (es:=1) (bytes:=4) (len:=0) (cap:=n + 1) (cs:=X0 (dig 4294967296 (n + 1) 0)) (x := .slice (some ⟨id1,off1,none⟩) n c1) (n:=n) (new:=X0 ws) rfl (by rw [← hn]; exact (hr1.app).elems (by omega)) hn0 (by omega) (by omega) (by decide) (by decide) (by rw [Bb,Bb,Kc]; omega)
 rw [Xi,Q0d hn,Z1] at h
 exact h
theorem Q0f {H:List Ob} {n:Nat} {ws:List Nat} (hn:ws.length = n) (hN:n < 2 ^ 40) :
  Y4 1 4 (H ++ [⟨X0 (ws ++ [0]),true,true,true,1⟩,⟨[.int .u32 0],true,true,true,1⟩]) (.slice (some ⟨H.length,0,none⟩) n (n + 1)) (.slice (some ⟨H.length + 1,0,none⟩) 1 1) = some (.slice (some ⟨H.length,0,none⟩) (n + 1) (n + 1),H ++ [⟨X0 (ws ++ [0]),true,true,true,1⟩,⟨[.int .u32 0],true,true,true,1⟩],none,[H.length]):=by
 have h:=Qfq (H:=H) (r:=[⟨[.int .u32 0],true,true,true,1⟩]) (es:=1) (bytes:=4) (len:=n) (cap:=n + 1) (cs:=X0 (ws ++ [0])) (x := .slice (some ⟨H.length + 1,0,none⟩) 1 1) (n:=1) (new:=[.int .u32 0]) rfl (by simp [elemsOf,Wp]) (by decide) (by omega) (by omega) (by decide) (by decide) (by rw [Bb,Z4,hn]; simp)
 rw [Xy,Q0c hn] at h
 exact h
theorem Qwe {n m A:Nat} {os out:List Nat} {c:Nat} (hinv:PlusInv n (n + 1) A os out c) (hm:os.length = m) (hmn:m ≤ n) (hA:A < 4294967296 ^ n) (hos:∀ x ∈ os,x < 4294967296):dig 4294967296 (n + 1) (A + num 4294967296 os) = out:=by
  have h1:=hinv.eq
  rw [show os.take (n + 1) = os from Zl (by omega)] at h1
  have h3:=num_lt hos
  rw [hm] at h3
  have h4:4294967296 ^ m ≤ 4294967296 ^ n:=Vf (by decide) hmn
  have h5:c = 0:=by
   have hc:=hinv.cle
   rcases V5 0 c with h | h
   ·have:c = 1:=by omega
    subst this
    rw [Kq] at h1
    omega
   ·omega
  subst h5
  rw [Xi,Jr] at h1
  rw [← h1,← hinv.len,D1 (by decide) hinv.lt]
theorem Qsv {H:List Ob} {id1 off1 id2 off2 c2 n m:Nat} {ws os:List Nat} (hr1:Row .u32 H id1 off1 ws) (hr2:Row .u32 H id2 off2 os) (hn:ws.length = n) (hm:os.length = m) (hn0:0 < n) (hmn:m ≤ n) (hN:n < 2 ^ 40) (hws:∀ x ∈ ws,x < 4294967296) (hos:∀ x ∈ os,x < 4294967296) :
  ∃ out c,Jl T H.length (.block 0 (.loop Qaq)) ⟨[(1,.slice (some ⟨id2,off2,none⟩) m c2),(5,.slice (some ⟨H.length,0,none⟩) (n + 1) (n + 1)),(6,.int .u32 0),(19,.int .i64 ((n + 1:Nat):Int)),(20,.int .i64 0)],H ++ [⟨X0 (ws ++ [0]),true,true,true,1⟩,⟨[.int .u32 0],true,true,true,1⟩],[]⟩ = some (.normal,⟨[(1,.slice (some ⟨id2,off2,none⟩) m c2),(5,.slice (some ⟨H.length,0,none⟩) (n + 1) (n + 1)),(6,.int .u32 (c:Nat)),(19,.int .i64 ((n + 1:Nat):Int)),(20,.int .i64 ((n + 1:Nat):Int)),(21,.bool false)],H ++ [⟨X0 out,true,true,true,1⟩,⟨[.int .u32 0],true,true,true,1⟩],[]⟩) ∧ PlusInv n (n + 1) (num 4294967296 ws) os out c:=by
 have h0:PlusInv n 0 (num 4294967296 ws) os (ws ++ [0]) 0:=⟨by simp [hn],fun x hx => by
  rcases Jb.1 hx with h | h
  ·exact hws x h
  ·simp at h; omega,by decide,by rw [B9]; simp [num]⟩
 obtain ⟨s',hb,out,c,rfl,hinv⟩:=Vi (T:=T) (base:=H.length) (id:=0) (body:=Qaq)
  (fun i s => ∃ out c,s = Qg3 H (.slice (some ⟨id2,off2,none⟩) m c2) n i c out ∧ PlusInv n i (num 4294967296 ws) os out c)
  (Q:=fun s => ∃ out c,s = ⟨[(1,.slice (some ⟨id2,off2,none⟩) m c2),(5,.slice (some ⟨H.length,0,none⟩) (n + 1) (n + 1)),(6,.int .u32 (c:Nat)),(19,.int .i64 ((n + 1:Nat):Int)),(20,.int .i64 ((n + 1:Nat):Int)),(21,.bool false)],H ++ [⟨X0 out,true,true,true,1⟩,⟨[.int .u32 0],true,true,true,1⟩],[]⟩ ∧ PlusInv n (n + 1) (num 4294967296 ws) os out c)
  (n + 1) ⟨_,_,rfl,h0⟩
  (fun i s hi hs => by
   obtain ⟨out,c,rfl,hI⟩:=hs
   obtain ⟨y,hy⟩:∃ y,out[i]? = some y:=⟨_,Q1 (by rw [hI.len]; omega)⟩
   exact ⟨_,Qsw hr2 hm hN (by omega) hi hos hI.len hy (hI.lt y (Zk hy)) hI.cle,_,_,rfl,hI.step hos hy⟩)
  (fun s hs => by
   obtain ⟨out,c,rfl,hI⟩:=hs
   have h1:¬ (((n + 1:Nat):Int) < ((n + 1:Nat):Int)):=by omega
   refine ⟨_,?_,out,c,rfl,hI⟩
   simp only [Qg3,Qaq,Z0,Kf,Kn,K5,Xf,Ko,Jq,K6,Kr,Vc,guardOf,Zs,opd,Wj,Vp,Vb,Env.get,Env.put,Yc,Q4,Za,Zb,Xo,Vu,Kd,J4,St.after,Env.keep,if_true,if_false,ite_true,ite_false,Y3,V7,unV,Vy,Va,packed,reduceCtorEq,Jd,Je,Zv,Qf,Qb,Qh,Z1,Ja,Jf,beq_self_eq_true,Xx,J1,Ki,Kh,X8,K0,Kj,X3,K3,Kz,X4,Vg,Kl,J9,Kx,K4,X6,X5,Jw,X7,Ji,Jp,Jo,J7,Ju,J5,Jt,Jn,J8,J6,Xl,Jv,Kg,Xn,Kk,Ky,Xm,Km,Xa,Ob.fresh,Y8,Wp,Wu,Jg,and_self,true_and,and_true,Jh,Xy,Vk,Yn,Vh,Xb,Yk,Xc,Xj,false_and,decide_true,decide_false,Jr,Qp,Qn,Qo,Qd,Qm,Qg,Y1,Xk,Ye,Xz,Xq,Xr,Zq,Zp,Bg,Bf,Be,Bd,Zj,Ke,Jz,Xw,Xi,Ve,J3,h1])
 rw [show Qg3 H (.slice (some ⟨id2,off2,none⟩) m c2) n 0 0 (ws ++ [0]) = ⟨[(1,.slice (some ⟨id2,off2,none⟩) m c2),(5,.slice (some ⟨H.length,0,none⟩) (n + 1) (n + 1)),(6,.int .u32 0),(19,.int .i64 ((n + 1:Nat):Int)),(20,.int .i64 0)],H ++ [⟨X0 (ws ++ [0]),true,true,true,1⟩,⟨[.int .u32 0],true,true,true,1⟩],[]⟩ from rfl] at hb
 exact ⟨out,c,hb,hinv⟩
theorem Q6j {k:Nat} (h:k < 2 ^ 41):((k:Nat):Int) * ((4:Nat):Int) ≤ 2 ^ 47:=by omega
theorem Qwf {H:List Ob} {k n m c:Nat} {id1 off1 c1 id2 off2 c2:Nat} {ws out:List Nat} (e1:IntKind.i64.wrap ((n:Int) + 1) = ((k:Nat):Int)) (h1:((k:Nat):Int) * ((4:Nat):Int) ≤ 2 ^ 47)
  (ha1:Y4 1 4 (H ++ [⟨X0 (dig 4294967296 k 0),true,true,true,1⟩]) (.slice (some ⟨H.length,0,none⟩) 0 k) (.slice (some ⟨id1,off1,none⟩) n c1) = some (.slice (some ⟨H.length,0,none⟩) n k,H ++ [⟨X0 (ws ++ [0]),true,true,true,1⟩],none,[H.length]))
  (ha2:Y4 1 4 (H ++ [⟨X0 (ws ++ [0]),true,true,true,1⟩,⟨[.int .u32 0],true,true,true,1⟩]) (.slice (some ⟨H.length,0,none⟩) n k) (.slice (some ⟨H.length + 1,0,none⟩) 1 1) = some (.slice (some ⟨H.length,0,none⟩) k k,H ++ [⟨X0 (ws ++ [0]),true,true,true,1⟩,⟨[.int .u32 0],true,true,true,1⟩],none,[H.length]))
  (hb:Jl T H.length (.block 0 (.loop Qaq)) ⟨[(1,.slice (some ⟨id2,off2,none⟩) m c2),(5,.slice (some ⟨H.length,0,none⟩) (k) (k)),(6,.int .u32 0),(19,.int .i64 ((k:Nat):Int)),(20,.int .i64 0)],H ++ [⟨X0 (ws ++ [0]),true,true,true,1⟩,⟨[.int .u32 0],true,true,true,1⟩],[]⟩ = some (.normal,⟨[(1,.slice (some ⟨id2,off2,none⟩) m c2),(5,.slice (some ⟨H.length,0,none⟩) (k) (k)),(6,.int .u32 (c:Nat)),(19,.int .i64 ((k:Nat):Int)),(20,.int .i64 ((k:Nat):Int)),(21,.bool false)],H ++ [⟨X0 out,true,true,true,1⟩,⟨[.int .u32 0],true,true,true,1⟩],[]⟩)) :
  V6 T 50 [.slice (some ⟨id1,off1,none⟩) n c1,.slice (some ⟨id2,off2,none⟩) m c2] H = some (.slice (some ⟨H.length,0,none⟩) k k,H ++ [⟨X0 out,true,true,true,1⟩,⟨[.int .u32 0],true,true,true,1⟩],[]):=by
 have h2:(0:Nat) < 4:=by decide
 have hfill:fillL [Value.int .u32 0] [(0,1,.int .u32 0)] = some [.int .u32 0]:=rfl
 rw [Jc (fn:=a45) rfl]
 simp only [a45,Z0,Kf,Kn,K5,Xf,Ko,Jq,K6,Kr,Vc,guardOf,Zs,opd,Wj,Vp,Vb,Env.get,Env.put,Yc,Q4,Za,Zb,Xo,Vu,Kd,J4,St.after,Env.keep,if_true,if_false,ite_true,ite_false,Y3,V7,unV,Vy,Va,packed,reduceCtorEq,Jd,Je,Zv,Qf,Qb,Qh,Z1,Ja,Jf,beq_self_eq_true,Xx,J1,Ki,Kh,X8,K0,Kj,X3,K3,Kz,X4,Vg,Kl,J9,Kx,K4,X6,X5,Jw,X7,Ji,Jp,Jo,J7,Ju,J5,Jt,Jn,J8,J6,Xl,Jv,Kg,Xn,Kk,Ky,Xm,Km,Xa,Ob.fresh,Y8,Wp,Wu,Jg,and_self,true_and,and_true,Jh,Xy,Vk,Yn,Vh,Xb,Yk,Xc,Xj,false_and,decide_true,decide_false,Jr,Qp,Qn,Qo,Qd,Qm,Qg,Y1,Xk,Ye,Xz,Xq,Xr,Zq,Zp,Bg,Bf,Be,Bd,Zj,Ke,Jz,Xw,Xi,Ve,J3,e1,h1,h2,Ke,Rz,Qee,hfill,Z4,Jx,ha1,ha2,hb]
theorem Q0e {H:List Ob} {id1 off1 c1 id2 off2 c2 n m:Nat} {ws os:List Nat} (hr1:Row .u32 H id1 off1 ws) (hr2:Row .u32 H id2 off2 os) (hn:ws.length = n) (hm:os.length = m) (hn0:0 < n) (hmn:m ≤ n) (hN:n < 2 ^ 40) (hws:∀ x ∈ ws,x < 4294967296) (hos:∀ x ∈ os,x < 4294967296) :
  V6 T 50 [.slice (some ⟨id1,off1,none⟩) n c1,.slice (some ⟨id2,off2,none⟩) m c2] H = some (.slice (some ⟨H.length,0,none⟩) (n + 1) (n + 1),H ++ [⟨X0 (dig 4294967296 (n + 1) (num 4294967296 ws + num 4294967296 os)),true,true,true,1⟩,⟨[.int .u32 0],true,true,true,1⟩],[]):=by
 obtain ⟨out,c,hb,hinv⟩:=Qsv (c2:=c2) hr1 hr2 hn hm hn0 hmn hN hws hos
 have hout:=Qwe hinv hm hmn (by rw [← hn]; exact num_lt hws) hos
 rw [hout]
 exact Qwf (Vn (n:=n + 1) (by omega)) (Q6j (by omega)) (Q0g hr1 hn hn0 hN) (Q0f hn hN) hb
def ell:Nat:=7237005577332262213973186563042994240857116359379907606001950938285454250989
theorem Qr1:num 4294967296 orderW = ell:=by decide
theorem Qc3:∀ x ∈ orderW,x < 4294967296:=by decide
structure ShInv (k c0:Nat) (r0 r:List Nat) (c:Nat):Prop where
 len:r.length = 8
 lt:∀ x ∈ r,x < 4294967296
 cle:c ≤ 1
 eq:num 4294967296 r + c * 4294967296 ^ k = num 4294967296 r0 + num 4294967296 (r0.take k) + c0
 rest:∀ j,k ≤ j → r[j]? = r0[j]?
theorem ShInv.step {k c0 c x:Nat} {r0 r:List Nat} (h:ShInv k c0 r0 r c) (hx:r[k]? = some x):ShInv (k + 1) c0 r0 (r.set k ((2 * x + c) % 4294967296)) (x / 2147483648):=by
 have hx':x < 4294967296:=h.lt x (Zk hx)
 have hc:=h.cle
 refine ⟨by rw [Xe]; exact h.len,Da h.lt (Jk _ (by decide)),by omega,?_,?_⟩
 ·have h1:=Gj (B:=4294967296) ((2 * x + c) % 4294967296) hx
  have h2:=h.eq
  rw [Wn (by rw [← h.rest k (Zj _)]; exact hx)]
  have h3:4294967296 * (x / 2147483648) + (2 * x + c) % 4294967296 = 2 * x + c:=by omega
  generalize (2 * x + c) % 4294967296 = y at *
  generalize x / 2147483648 = q at *
  have e2:q * 4294967296 ^ (k + 1) = 4294967296 * q * 4294967296 ^ k:=by
   rw [Kq]; simp only [Vo,Wf,K7]
  have e3:(4294967296 * q + y) * 4294967296 ^ k = (2 * x + c) * 4294967296 ^ k:=by rw [h3]
  rw [Kt,Kt,Vo 2] at e3
  rw [e2]
  omega
 ·intro j hj
  rw [Jj (by omega)]
  exact h.rest j (by omega)
structure SbInv (k:Nat) (r nx:List Nat) (b:Nat):Prop where
 len:nx.length = 8
 lt:∀ x ∈ nx,x < 4294967296
 ble:b ≤ 1
 eq:num 4294967296 (r.take k) + b * 4294967296 ^ k = num 4294967296 (orderW.take k) + num 4294967296 (nx.take k)
theorem Qi2 {l:List Nat} {k y:Nat}:(l.set k y).take k = l.take k:=by
 apply Ym
 intro i
 rw [Ks,Ks]
 by_cases h:i < k
 ·rw [if_pos h,if_pos h,Jj (by omega)]
 ·rw [if_neg h,if_neg h]
theorem SbInv.step {k b x l:Nat} {r nx:List Nat} (h:SbInv k r nx b) (hr:∀ x ∈ r,x < 4294967296) (hk:k < 8) (hx:r[k]? = some x) (hl:orderW[k]? = some l):SbInv (k + 1) r (nx.set k (Qbm x l b)) (Qbn x l b):=by
 have hx':x < 4294967296:=hr x (Zk hx)
 have hl':l < 4294967296:=Qc3 l (Zk hl)
 have hb:=h.ble
 have hd:Qbm x l b < 4294967296 ∧ x + 4294967296 * Qbn x l b = l + b + Qbm x l b ∧ Qbn x l b ≤ 1:=by
  unfold Qbm Qbn; split <;> omega
 refine ⟨by rw [Xe]; exact h.len,Da h.lt hd.1,hd.2.2,?_⟩
 have h2:=h.eq
 have hy:(nx.set k (Qbm x l b))[k]? = some (Qbm x l b):=Xp (by rw [h.len]; exact hk)
 rw [Wn hx,Wn hl,Wn hy,Qi2]
 have h3:=hd.2.1
 generalize Qbm x l b = d at *
 generalize Qbn x l b = q at *
 have e2:q * 4294967296 ^ (k + 1) = 4294967296 * q * 4294967296 ^ k:=by
  rw [Kq]; simp only [Vo,Wf,K7]
 have e3:(x + 4294967296 * q) * 4294967296 ^ k = (l + b + d) * 4294967296 ^ k:=by rw [h3]
 rw [Kt,Kt,Kt] at e3
 rw [e2]
 omega
theorem Qvd {H:List Ob} {s v:Value} {k c x:Nat} {r nx:List Nat} (hk:k < 8) (hl:r.length = 8) (hx:r[k]? = some x) (hx':x < 4294967296) (hc:c ≤ 1) :
  Jl T H.length Mp (⟨[(0,s),(3,(.slice (some ⟨H.length,0,none⟩) 8 8)),(4,(.slice (some ⟨H.length + 1,0,none⟩) 8 8)),(5,(.slice (some ⟨(H.length + 2),0,none⟩) 8 8)),(6,v),(7,.int .u32 ((c:Nat))),(32,.int .i64 8),(33,.int .i64 ((k:Nat)))],H ++ [⟨X0 (r),true,true,true,1⟩,⟨X0 orderW,true,true,true,1⟩,⟨X0 (nx),true,true,true,1⟩],[]⟩:St) = some (.normal,(⟨[(0,s),(3,(.slice (some ⟨H.length,0,none⟩) 8 8)),(4,(.slice (some ⟨H.length + 1,0,none⟩) 8 8)),(5,(.slice (some ⟨(H.length + 2),0,none⟩) 8 8)),(6,v),(7,.int .u32 (((x / 2147483648:Nat):Int))),(32,.int .i64 8),(33,.int .i64 (((k + 1:Nat):Int)))],H ++ [⟨X0 (r.set k ((2 * x + c) % 4294967296)),true,true,true,1⟩,⟨X0 orderW,true,true,true,1⟩,⟨X0 (nx),true,true,true,1⟩],[]⟩:St)):=by
 have hxc:=Bc hx
 have h1:((k:Int) < (8:Int)):=by omega
 have h1':((k:Int) < ((8:Nat):Int)):=by omega
 have e1:IntKind.u32.wrap ((x:Int) * 2 ^ min 1 IntKind.u32.bits) = ((2 * x % 4294967296:Nat):Int):=by
  rw [wrap_u32,show min 1 IntKind.u32.bits = 1 from rfl]; omega
 have e2:Vz .or .u32 ((2 * x % 4294967296:Nat):Int) (c:Int) = (((2 * x + c) % 4294967296:Nat):Int):=by
  rw [Gk (k := .u32) (a:=2 * x % 4294967296) (b:=c) rfl (Jk _ (by decide)) (by show c < 2 ^ 32; omega)]
  congr 1
  have h2:2 * x % 4294967296 = 2 ^ 1 * (x % 2147483648):=by omega
  rw [h2,← G9 (by omega:c < 2 ^ 1)]
  omega
 have e3:Tw (x:Int) (2 ^ min 31 IntKind.u32.bits) = ((x / 2147483648:Nat):Int):=by
  rw [Y6 _ (by decide)]; rfl
 have e10:IntKind.i64.wrap ((k:Int) + 1) = ((k + 1:Nat):Int):=Vn (n:=k + 1) (by omega)
 have h5:k + 1 ≤ (X0 r).length:=by rw [Bb,hl]; omega
 simp only [Mp,Z0,Kf,Kn,K5,Xf,Ko,Jq,K6,Kr,Vc,guardOf,Zs,opd,Wj,Vp,Vb,Env.get,Env.put,Yc,Q4,Za,Zb,Xo,Vu,Kd,J4,St.after,Env.keep,if_true,if_false,ite_true,ite_false,Y3,V7,unV,Vy,Va,packed,reduceCtorEq,Jd,Je,Zv,Qf,Qb,Qh,Z1,Ja,Jf,beq_self_eq_true,Xx,J1,Ki,Kh,X8,K0,Kj,X3,K3,Kz,X4,Vg,Kl,J9,Kx,K4,X6,X5,Jw,X7,Ji,Jp,Jo,J7,Ju,J5,Jt,Jn,J8,J6,Xl,Jv,Kg,Xn,Kk,Ky,Xm,Km,Xa,Ob.fresh,Y8,Wp,Wu,Jg,and_self,true_and,and_true,Jh,Xy,Vk,Yn,Vh,Xb,Yk,Xc,Xj,false_and,decide_true,decide_false,Jr,Qp,Qn,Qo,Qd,Qm,Qg,Y1,Xk,Ye,Xz,Xq,Xr,Zq,Zp,Bg,Bf,Be,Bd,Zj,Ke,Jz,Xw,Xi,Ve,J3,h1,h1',hxc,e1,e2,e3,e10,h5,Bx,Hl]
theorem Qvi {H:List Ob} {s v:Value} {k b x l:Nat} {r nx:List Nat} (hk:k < 8) (hl:nx.length = 8) (hx:r[k]? = some x) (hx':x < 4294967296) (ho:orderW[k]? = some l) (hb:b ≤ 1) :
  Jl T H.length Mq (⟨[(0,s),(3,(.slice (some ⟨H.length,0,none⟩) 8 8)),(4,(.slice (some ⟨H.length + 1,0,none⟩) 8 8)),(5,(.slice (some ⟨(H.length + 2),0,none⟩) 8 8)),(6,v),(9,.int .u32 ((b:Nat))),(53,.int .i64 8),(54,.int .i64 ((k:Nat)))],H ++ [⟨X0 (r),true,true,true,1⟩,⟨X0 orderW,true,true,true,1⟩,⟨X0 (nx),true,true,true,1⟩],[]⟩:St) = some (.normal,(⟨[(0,s),(3,(.slice (some ⟨H.length,0,none⟩) 8 8)),(4,(.slice (some ⟨H.length + 1,0,none⟩) 8 8)),(5,(.slice (some ⟨(H.length + 2),0,none⟩) 8 8)),(6,v),(9,.int .u32 (((Qbn x l b:Nat):Int))),(53,.int .i64 8),(54,.int .i64 (((k + 1:Nat):Int)))],H ++ [⟨X0 (r),true,true,true,1⟩,⟨X0 orderW,true,true,true,1⟩,⟨X0 (nx.set k (Qbm x l b)),true,true,true,1⟩],[]⟩:St)):=by
 have hxc:=Bc hx
 have hlc:=Bc ho
 have h1:((k:Int) < (8:Int)):=by omega
 have h1':((k:Int) < ((8:Nat):Int)):=by omega
 have hsub:=Qgj hx' (Qc3 l (Zk ho)) hb
 have e10:IntKind.i64.wrap ((k:Int) + 1) = ((k + 1:Nat):Int):=Vn (n:=k + 1) (by omega)
 have h5:k + 1 ≤ (X0 nx).length:=by rw [Bb,hl]; omega
 simp only [Mq,Z0,Kf,Kn,K5,Xf,Ko,Jq,K6,Kr,Vc,guardOf,Zs,opd,Wj,Vp,Vb,Env.get,Env.put,Yc,Q4,Za,Zb,Xo,Vu,Kd,J4,St.after,Env.keep,if_true,if_false,ite_true,ite_false,Y3,V7,unV,Vy,Va,packed,reduceCtorEq,Jd,Je,Zv,Qf,Qb,Qh,Z1,Ja,Jf,beq_self_eq_true,Xx,J1,Ki,Kh,X8,K0,Kj,X3,K3,Kz,X4,Vg,Kl,J9,Kx,K4,X6,X5,Jw,X7,Ji,Jp,Jo,J7,Ju,J5,Jt,Jn,J8,J6,Xl,Jv,Kg,Xn,Kk,Ky,Xm,Km,Xa,Ob.fresh,Y8,Wp,Wu,Jg,and_self,true_and,and_true,Jh,Xy,Vk,Yn,Vh,Xb,Yk,Xc,Xj,false_and,decide_true,decide_false,Jr,Qp,Qn,Qo,Qd,Qm,Qg,Y1,Xk,Ye,Xz,Xq,Xr,Zq,Zp,Bg,Bf,Be,Bd,Zj,Ke,Jz,Xw,Xi,Ve,J3,h1,h1',hxc,hlc,hsub,e10,h5,Qml,Hl]
theorem Qvb {H:List Ob} {s v:Value} {c:Nat} {r nx:List Nat} (hl:r.length = 8) (hr:∀ x ∈ r,x < 4294967296) (hc:c ≤ 1) :
  ∃ r' c',Jl T H.length (.block 2 (.loop Mp)) (⟨[(0,s),(3,(.slice (some ⟨H.length,0,none⟩) 8 8)),(4,(.slice (some ⟨H.length + 1,0,none⟩) 8 8)),(5,(.slice (some ⟨(H.length + 2),0,none⟩) 8 8)),(6,v),(7,.int .u32 ((c:Nat))),(32,.int .i64 8),(33,.int .i64 (0))],H ++ [⟨X0 (r),true,true,true,1⟩,⟨X0 orderW,true,true,true,1⟩,⟨X0 (nx),true,true,true,1⟩],[]⟩:St) = some (.normal,(⟨[(0,s),(3,(.slice (some ⟨H.length,0,none⟩) 8 8)),(4,(.slice (some ⟨H.length + 1,0,none⟩) 8 8)),(5,(.slice (some ⟨(H.length + 2),0,none⟩) 8 8)),(6,v),(7,.int .u32 ((c':Nat))),(32,.int .i64 8),(33,.int .i64 (8)),(34,.bool false)],H ++ [⟨X0 (r'),true,true,true,1⟩,⟨X0 orderW,true,true,true,1⟩,⟨X0 (nx),true,true,true,1⟩],[]⟩:St)) ∧ ShInv 8 c r r' c':=by
 obtain ⟨s',hb,r',c',rfl,hinv⟩:=Vi (T:=T) (base:=H.length) (id:=2) (body:=Mp)
  (fun k s1 => ∃ r' c',s1 = (⟨[(0,s),(3,(.slice (some ⟨H.length,0,none⟩) 8 8)),(4,(.slice (some ⟨H.length + 1,0,none⟩) 8 8)),(5,(.slice (some ⟨(H.length + 2),0,none⟩) 8 8)),(6,v),(7,.int .u32 ((c':Nat))),(32,.int .i64 8),(33,.int .i64 ((k:Nat)))],H ++ [⟨X0 (r'),true,true,true,1⟩,⟨X0 orderW,true,true,true,1⟩,⟨X0 (nx),true,true,true,1⟩],[]⟩:St) ∧ ShInv k c r r' c')
  (Q:=fun s1 => ∃ r' c',s1 = (⟨[(0,s),(3,(.slice (some ⟨H.length,0,none⟩) 8 8)),(4,(.slice (some ⟨H.length + 1,0,none⟩) 8 8)),(5,(.slice (some ⟨(H.length + 2),0,none⟩) 8 8)),(6,v),(7,.int .u32 ((c':Nat))),(32,.int .i64 8),(33,.int .i64 (8)),(34,.bool false)],H ++ [⟨X0 (r'),true,true,true,1⟩,⟨X0 orderW,true,true,true,1⟩,⟨X0 (nx),true,true,true,1⟩],[]⟩:St) ∧ ShInv 8 c r r' c')
  8 (s:=(⟨[(0,s),(3,(.slice (some ⟨H.length,0,none⟩) 8 8)),(4,(.slice (some ⟨H.length + 1,0,none⟩) 8 8)),(5,(.slice (some ⟨(H.length + 2),0,none⟩) 8 8)),(6,v),(7,.int .u32 ((c:Nat))),(32,.int .i64 8),(33,.int .i64 (((0:Nat):Int)))],H ++ [⟨X0 (r),true,true,true,1⟩,⟨X0 orderW,true,true,true,1⟩,⟨X0 (nx),true,true,true,1⟩],[]⟩:St)) ⟨_,_,rfl,⟨hl,hr,hc,by simp [num],fun _ _ => rfl⟩⟩
  (fun k s1 hk hs => by
   obtain ⟨r',c',rfl,hI⟩:=hs
   obtain ⟨x,hx⟩:∃ x,r'[k]? = some x:=⟨_,Q1 (by rw [hI.len]; omega)⟩
   exact ⟨_,Qvd hk hI.len hx (hI.lt x (Zk hx)) hI.cle,_,_,rfl,hI.step hx⟩)
  (fun s1 hs => by
   obtain ⟨r',c',rfl,hI⟩:=hs
   have h1:¬ (((8:Nat):Int) < (8:Int)):=by omega
   refine ⟨_,?_,r',c',rfl,hI⟩
   simp only [Mp,Z0,Kf,Kn,K5,Xf,Ko,Jq,K6,Kr,Vc,guardOf,Zs,opd,Wj,Vp,Vb,Env.get,Env.put,Yc,Q4,Za,Zb,Xo,Vu,Kd,J4,St.after,Env.keep,if_true,if_false,ite_true,ite_false,Y3,V7,unV,Vy,Va,packed,reduceCtorEq,Jd,Je,Zv,Qf,Qb,Qh,Z1,Ja,Jf,beq_self_eq_true,Xx,J1,Ki,Kh,X8,K0,Kj,X3,K3,Kz,X4,Vg,Kl,J9,Kx,K4,X6,X5,Jw,X7,Ji,Jp,Jo,J7,Ju,J5,Jt,Jn,J8,J6,Xl,Jv,Kg,Xn,Kk,Ky,Xm,Km,Xa,Ob.fresh,Y8,Wp,Wu,Jg,and_self,true_and,and_true,Jh,Xy,Vk,Yn,Vh,Xb,Yk,Xc,Xj,false_and,decide_true,decide_false,Jr,Qp,Qn,Qo,Qd,Qm,Qg,Y1,Xk,Ye,Xz,Xq,Xr,Zq,Zp,Bg,Bf,Be,Bd,Zj,Ke,Jz,Xw,Xi,Ve,J3,h1]
   rfl)
 exact ⟨r',c',hb,hinv⟩
theorem Qvg {H:List Ob} {s v:Value} {r nx:List Nat} (hl:r.length = 8) (hr:∀ x ∈ r,x < 4294967296) (hl2:nx.length = 8) (hr2:∀ x ∈ nx,x < 4294967296) :
  ∃ nx' b,Jl T H.length (.block 4 (.loop Mq)) (⟨[(0,s),(3,(.slice (some ⟨H.length,0,none⟩) 8 8)),(4,(.slice (some ⟨H.length + 1,0,none⟩) 8 8)),(5,(.slice (some ⟨(H.length + 2),0,none⟩) 8 8)),(6,v),(9,.int .u32 (0)),(53,.int .i64 8),(54,.int .i64 (0))],H ++ [⟨X0 (r),true,true,true,1⟩,⟨X0 orderW,true,true,true,1⟩,⟨X0 (nx),true,true,true,1⟩],[]⟩:St) = some (.normal,(⟨[(0,s),(3,(.slice (some ⟨H.length,0,none⟩) 8 8)),(4,(.slice (some ⟨H.length + 1,0,none⟩) 8 8)),(5,(.slice (some ⟨(H.length + 2),0,none⟩) 8 8)),(6,v),(9,.int .u32 ((b:Nat))),(53,.int .i64 8),(54,.int .i64 (8)),(55,.bool false)],H ++ [⟨X0 (r),true,true,true,1⟩,⟨X0 orderW,true,true,true,1⟩,⟨X0 (nx'),true,true,true,1⟩],[]⟩:St)) ∧ SbInv 8 r nx' b:=by
 obtain ⟨s',hb,nx',b,rfl,hinv⟩:=Vi (T:=T) (base:=H.length) (id:=4) (body:=Mq)
  (fun k s1 => ∃ nx' b,s1 = (⟨[(0,s),(3,(.slice (some ⟨H.length,0,none⟩) 8 8)),(4,(.slice (some ⟨H.length + 1,0,none⟩) 8 8)),(5,(.slice (some ⟨(H.length + 2),0,none⟩) 8 8)),(6,v),(9,.int .u32 ((b:Nat))),(53,.int .i64 8),(54,.int .i64 ((k:Nat)))],H ++ [⟨X0 (r),true,true,true,1⟩,⟨X0 orderW,true,true,true,1⟩,⟨X0 (nx'),true,true,true,1⟩],[]⟩:St) ∧ SbInv k r nx' b)
  (Q:=fun s1 => ∃ nx' b,s1 = (⟨[(0,s),(3,(.slice (some ⟨H.length,0,none⟩) 8 8)),(4,(.slice (some ⟨H.length + 1,0,none⟩) 8 8)),(5,(.slice (some ⟨(H.length + 2),0,none⟩) 8 8)),(6,v),(9,.int .u32 ((b:Nat))),(53,.int .i64 8),(54,.int .i64 (8)),(55,.bool false)],H ++ [⟨X0 (r),true,true,true,1⟩,⟨X0 orderW,true,true,true,1⟩,⟨X0 (nx'),true,true,true,1⟩],[]⟩:St) ∧ SbInv 8 r nx' b)
  8 (s:=(⟨[(0,s),(3,(.slice (some ⟨H.length,0,none⟩) 8 8)),(4,(.slice (some ⟨H.length + 1,0,none⟩) 8 8)),(5,(.slice (some ⟨(H.length + 2),0,none⟩) 8 8)),(6,v),(9,.int .u32 (((0:Nat):Int))),(53,.int .i64 8),(54,.int .i64 (((0:Nat):Int)))],H ++ [⟨X0 (r),true,true,true,1⟩,⟨X0 orderW,true,true,true,1⟩,⟨X0 (nx),true,true,true,1⟩],[]⟩:St)) ⟨_,_,rfl,⟨hl2,hr2,by decide,by simp [num]⟩⟩
  (fun k s1 hk hs => by
   obtain ⟨nx',b,rfl,hI⟩:=hs
   obtain ⟨x,hx⟩:∃ x,r[k]? = some x:=⟨_,Q1 (by omega)⟩
   obtain ⟨l,hlk⟩:∃ l,orderW[k]? = some l:=⟨_,Q1 (show k < orderW.length from hk)⟩
   exact ⟨_,Qvi hk hI.len hx (hr x (Zk hx)) hlk hI.ble,_,_,rfl,hI.step hr hk hx hlk⟩)
  (fun s1 hs => by
   obtain ⟨nx',b,rfl,hI⟩:=hs
   have h1:¬ (((8:Nat):Int) < (8:Int)):=by omega
   refine ⟨_,?_,nx',b,rfl,hI⟩
   simp only [Mq,Z0,Kf,Kn,K5,Xf,Ko,Jq,K6,Kr,Vc,guardOf,Zs,opd,Wj,Vp,Vb,Env.get,Env.put,Yc,Q4,Za,Zb,Xo,Vu,Kd,J4,St.after,Env.keep,if_true,if_false,ite_true,ite_false,Y3,V7,unV,Vy,Va,packed,reduceCtorEq,Jd,Je,Zv,Qf,Qb,Qh,Z1,Ja,Jf,beq_self_eq_true,Xx,J1,Ki,Kh,X8,K0,Kj,X3,K3,Kz,X4,Vg,Kl,J9,Kx,K4,X6,X5,Jw,X7,Ji,Jp,Jo,J7,Ju,J5,Jt,Jn,J8,J6,Xl,Jv,Kg,Xn,Kk,Ky,Xm,Km,Xa,Ob.fresh,Y8,Wp,Wu,Jg,and_self,true_and,and_true,Jh,Xy,Vk,Yn,Vh,Xb,Yk,Xc,Xj,false_and,decide_true,decide_false,Jr,Qp,Qn,Qo,Qd,Qm,Qg,Y1,Xk,Ye,Xz,Xq,Xr,Zq,Zp,Bg,Bf,Be,Bd,Zj,Ke,Jz,Xw,Xi,Ve,J3,h1]
   rfl)
 exact ⟨nx',b,hb,hinv⟩
theorem Qvc {H:List Ob} {s v:Value} {k c x:Nat} {r nx:List Nat} (hk:k < 8) (hl:r.length = 8) (hx:r[k]? = some x) (hx':x < 4294967296) (hc:c ≤ 1) :
  Jl T H.length Mp (⟨[(0,s),(3,(.slice (some ⟨(H.length + 2),0,none⟩) 8 8)),(4,(.slice (some ⟨H.length + 1,0,none⟩) 8 8)),(5,(.slice (some ⟨H.length,0,none⟩) 8 8)),(6,v),(7,.int .u32 ((c:Nat))),(32,.int .i64 8),(33,.int .i64 ((k:Nat)))],H ++ [⟨X0 (nx),true,true,true,1⟩,⟨X0 orderW,true,true,true,1⟩,⟨X0 (r),true,true,true,1⟩],[]⟩:St) = some (.normal,(⟨[(0,s),(3,(.slice (some ⟨(H.length + 2),0,none⟩) 8 8)),(4,(.slice (some ⟨H.length + 1,0,none⟩) 8 8)),(5,(.slice (some ⟨H.length,0,none⟩) 8 8)),(6,v),(7,.int .u32 (((x / 2147483648:Nat):Int))),(32,.int .i64 8),(33,.int .i64 (((k + 1:Nat):Int)))],H ++ [⟨X0 (nx),true,true,true,1⟩,⟨X0 orderW,true,true,true,1⟩,⟨X0 (r.set k ((2 * x + c) % 4294967296)),true,true,true,1⟩],[]⟩:St)):=by
 have hxc:=Bc hx
 have h1:((k:Int) < (8:Int)):=by omega
 have h1':((k:Int) < ((8:Nat):Int)):=by omega
 have e1:IntKind.u32.wrap ((x:Int) * 2 ^ min 1 IntKind.u32.bits) = ((2 * x % 4294967296:Nat):Int):=by
  rw [wrap_u32,show min 1 IntKind.u32.bits = 1 from rfl]; omega
 have e2:Vz .or .u32 ((2 * x % 4294967296:Nat):Int) (c:Int) = (((2 * x + c) % 4294967296:Nat):Int):=by
  rw [Gk (k := .u32) (a:=2 * x % 4294967296) (b:=c) rfl (Jk _ (by decide)) (by show c < 2 ^ 32; omega)]
  congr 1
  have h2:2 * x % 4294967296 = 2 ^ 1 * (x % 2147483648):=by omega
  rw [h2,← G9 (by omega:c < 2 ^ 1)]
  omega
 have e3:Tw (x:Int) (2 ^ min 31 IntKind.u32.bits) = ((x / 2147483648:Nat):Int):=by
  rw [Y6 _ (by decide)]; rfl
 have e10:IntKind.i64.wrap ((k:Int) + 1) = ((k + 1:Nat):Int):=Vn (n:=k + 1) (by omega)
 have h5:k + 1 ≤ (X0 r).length:=by rw [Bb,hl]; omega
 simp only [Mp,Z0,Kf,Kn,K5,Xf,Ko,Jq,K6,Kr,Vc,guardOf,Zs,opd,Wj,Vp,Vb,Env.get,Env.put,Yc,Q4,Za,Zb,Xo,Vu,Kd,J4,St.after,Env.keep,if_true,if_false,ite_true,ite_false,Y3,V7,unV,Vy,Va,packed,reduceCtorEq,Jd,Je,Zv,Qf,Qb,Qh,Z1,Ja,Jf,beq_self_eq_true,Xx,J1,Ki,Kh,X8,K0,Kj,X3,K3,Kz,X4,Vg,Kl,J9,Kx,K4,X6,X5,Jw,X7,Ji,Jp,Jo,J7,Ju,J5,Jt,Jn,J8,J6,Xl,Jv,Kg,Xn,Kk,Ky,Xm,Km,Xa,Ob.fresh,Y8,Wp,Wu,Jg,and_self,true_and,and_true,Jh,Xy,Vk,Yn,Vh,Xb,Yk,Xc,Xj,false_and,decide_true,decide_false,Jr,Qp,Qn,Qo,Qd,Qm,Qg,Y1,Xk,Ye,Xz,Xq,Xr,Zq,Zp,Bg,Bf,Be,Bd,Zj,Ke,Jz,Xw,Xi,Ve,J3,h1,h1',hxc,e1,e2,e3,e10,h5,Qml,Hl]
theorem Qvh {H:List Ob} {s v:Value} {k b x l:Nat} {r nx:List Nat} (hk:k < 8) (hl:nx.length = 8) (hx:r[k]? = some x) (hx':x < 4294967296) (ho:orderW[k]? = some l) (hb:b ≤ 1) :
  Jl T H.length Mq (⟨[(0,s),(3,(.slice (some ⟨(H.length + 2),0,none⟩) 8 8)),(4,(.slice (some ⟨H.length + 1,0,none⟩) 8 8)),(5,(.slice (some ⟨H.length,0,none⟩) 8 8)),(6,v),(9,.int .u32 ((b:Nat))),(53,.int .i64 8),(54,.int .i64 ((k:Nat)))],H ++ [⟨X0 (nx),true,true,true,1⟩,⟨X0 orderW,true,true,true,1⟩,⟨X0 (r),true,true,true,1⟩],[]⟩:St) = some (.normal,(⟨[(0,s),(3,(.slice (some ⟨(H.length + 2),0,none⟩) 8 8)),(4,(.slice (some ⟨H.length + 1,0,none⟩) 8 8)),(5,(.slice (some ⟨H.length,0,none⟩) 8 8)),(6,v),(9,.int .u32 (((Qbn x l b:Nat):Int))),(53,.int .i64 8),(54,.int .i64 (((k + 1:Nat):Int)))],H ++ [⟨X0 (nx.set k (Qbm x l b)),true,true,true,1⟩,⟨X0 orderW,true,true,true,1⟩,⟨X0 (r),true,true,true,1⟩],[]⟩:St)):=by
 have hxc:=Bc hx
 have hlc:=Bc ho
 have h1:((k:Int) < (8:Int)):=by omega
 have h1':((k:Int) < ((8:Nat):Int)):=by omega
 have hsub:=Qgj hx' (Qc3 l (Zk ho)) hb
 have e10:IntKind.i64.wrap ((k:Int) + 1) = ((k + 1:Nat):Int):=Vn (n:=k + 1) (by omega)
 have h5:k + 1 ≤ (X0 nx).length:=by rw [Bb,hl]; omega
 simp only [Mq,Z0,Kf,Kn,K5,Xf,Ko,Jq,K6,Kr,Vc,guardOf,Zs,opd,Wj,Vp,Vb,Env.get,Env.put,Yc,Q4,Za,Zb,Xo,Vu,Kd,J4,St.after,Env.keep,if_true,if_false,ite_true,ite_false,Y3,V7,unV,Vy,Va,packed,reduceCtorEq,Jd,Je,Zv,Qf,Qb,Qh,Z1,Ja,Jf,beq_self_eq_true,Xx,J1,Ki,Kh,X8,K0,Kj,X3,K3,Kz,X4,Vg,Kl,J9,Kx,K4,X6,X5,Jw,X7,Ji,Jp,Jo,J7,Ju,J5,Jt,Jn,J8,J6,Xl,Jv,Kg,Xn,Kk,Ky,Xm,Km,Xa,Ob.fresh,Y8,Wp,Wu,Jg,and_self,true_and,and_true,Jh,Xy,Vk,Yn,Vh,Xb,Yk,Xc,Xj,false_and,decide_true,decide_false,Jr,Qp,Qn,Qo,Qd,Qm,Qg,Y1,Xk,Ye,Xz,Xq,Xr,Zq,Zp,Bg,Bf,Be,Bd,Zj,Ke,Jz,Xw,Xi,Ve,J3,h1,h1',hxc,hlc,hsub,e10,h5,Bx,Hl]
theorem Qva {H:List Ob} {s v:Value} {c:Nat} {r nx:List Nat} (hl:r.length = 8) (hr:∀ x ∈ r,x < 4294967296) (hc:c ≤ 1) :
  ∃ r' c',Jl T H.length (.block 2 (.loop Mp)) (⟨[(0,s),(3,(.slice (some ⟨(H.length + 2),0,none⟩) 8 8)),(4,(.slice (some ⟨H.length + 1,0,none⟩) 8 8)),(5,(.slice (some ⟨H.length,0,none⟩) 8 8)),(6,v),(7,.int .u32 ((c:Nat))),(32,.int .i64 8),(33,.int .i64 (0))],H ++ [⟨X0 (nx),true,true,true,1⟩,⟨X0 orderW,true,true,true,1⟩,⟨X0 (r),true,true,true,1⟩],[]⟩:St) = some (.normal,(⟨[(0,s),(3,(.slice (some ⟨(H.length + 2),0,none⟩) 8 8)),(4,(.slice (some ⟨H.length + 1,0,none⟩) 8 8)),(5,(.slice (some ⟨H.length,0,none⟩) 8 8)),(6,v),(7,.int .u32 ((c':Nat))),(32,.int .i64 8),(33,.int .i64 (8)),(34,.bool false)],H ++ [⟨X0 (nx),true,true,true,1⟩,⟨X0 orderW,true,true,true,1⟩,⟨X0 (r'),true,true,true,1⟩],[]⟩:St)) ∧ ShInv 8 c r r' c':=by
 obtain ⟨s',hb,r',c',rfl,hinv⟩:=Vi (T:=T) (base:=H.length) (id:=2) (body:=Mp)
  (fun k s1 => ∃ r' c',s1 = (⟨[(0,s),(3,(.slice (some ⟨(H.length + 2),0,none⟩) 8 8)),(4,(.slice (some ⟨H.length + 1,0,none⟩) 8 8)),(5,(.slice (some ⟨H.length,0,none⟩) 8 8)),(6,v),(7,.int .u32 ((c':Nat))),(32,.int .i64 8),(33,.int .i64 ((k:Nat)))],H ++ [⟨X0 (nx),true,true,true,1⟩,⟨X0 orderW,true,true,true,1⟩,⟨X0 (r'),true,true,true,1⟩],[]⟩:St) ∧ ShInv k c r r' c')
  (Q:=fun s1 => ∃ r' c',s1 = (⟨[(0,s),(3,(.slice (some ⟨(H.length + 2),0,none⟩) 8 8)),(4,(.slice (some ⟨H.length + 1,0,none⟩) 8 8)),(5,(.slice (some ⟨H.length,0,none⟩) 8 8)),(6,v),(7,.int .u32 ((c':Nat))),(32,.int .i64 8),(33,.int .i64 (8)),(34,.bool false)],H ++ [⟨X0 (nx),true,true,true,1⟩,⟨X0 orderW,true,true,true,1⟩,⟨X0 (r'),true,true,true,1⟩],[]⟩:St) ∧ ShInv 8 c r r' c')
  8 (s:=(⟨[(0,s),(3,(.slice (some ⟨(H.length + 2),0,none⟩) 8 8)),(4,(.slice (some ⟨H.length + 1,0,none⟩) 8 8)),(5,(.slice (some ⟨H.length,0,none⟩) 8 8)),(6,v),(7,.int .u32 ((c:Nat))),(32,.int .i64 8),(33,.int .i64 (((0:Nat):Int)))],H ++ [⟨X0 (nx),true,true,true,1⟩,⟨X0 orderW,true,true,true,1⟩,⟨X0 (r),true,true,true,1⟩],[]⟩:St)) ⟨_,_,rfl,⟨hl,hr,hc,by simp [num],fun _ _ => rfl⟩⟩
  (fun k s1 hk hs => by
   obtain ⟨r',c',rfl,hI⟩:=hs
   obtain ⟨x,hx⟩:∃ x,r'[k]? = some x:=⟨_,Q1 (by rw [hI.len]; omega)⟩
   exact ⟨_,Qvc hk hI.len hx (hI.lt x (Zk hx)) hI.cle,_,_,rfl,hI.step hx⟩)
  (fun s1 hs => by
   obtain ⟨r',c',rfl,hI⟩:=hs
   have h1:¬ (((8:Nat):Int) < (8:Int)):=by omega
   refine ⟨_,?_,r',c',rfl,hI⟩
   simp only [Mp,Z0,Kf,Kn,K5,Xf,Ko,Jq,K6,Kr,Vc,guardOf,Zs,opd,Wj,Vp,Vb,Env.get,Env.put,Yc,Q4,Za,Zb,Xo,Vu,Kd,J4,St.after,Env.keep,if_true,if_false,ite_true,ite_false,Y3,V7,unV,Vy,Va,packed,reduceCtorEq,Jd,Je,Zv,Qf,Qb,Qh,Z1,Ja,Jf,beq_self_eq_true,Xx,J1,Ki,Kh,X8,K0,Kj,X3,K3,Kz,X4,Vg,Kl,J9,Kx,K4,X6,X5,Jw,X7,Ji,Jp,Jo,J7,Ju,J5,Jt,Jn,J8,J6,Xl,Jv,Kg,Xn,Kk,Ky,Xm,Km,Xa,Ob.fresh,Y8,Wp,Wu,Jg,and_self,true_and,and_true,Jh,Xy,Vk,Yn,Vh,Xb,Yk,Xc,Xj,false_and,decide_true,decide_false,Jr,Qp,Qn,Qo,Qd,Qm,Qg,Y1,Xk,Ye,Xz,Xq,Xr,Zq,Zp,Bg,Bf,Be,Bd,Zj,Ke,Jz,Xw,Xi,Ve,J3,h1]
   rfl)
 exact ⟨r',c',hb,hinv⟩
theorem Qvf {H:List Ob} {s v:Value} {r nx:List Nat} (hl:r.length = 8) (hr:∀ x ∈ r,x < 4294967296) (hl2:nx.length = 8) (hr2:∀ x ∈ nx,x < 4294967296) :
  ∃ nx' b,Jl T H.length (.block 4 (.loop Mq)) (⟨[(0,s),(3,(.slice (some ⟨(H.length + 2),0,none⟩) 8 8)),(4,(.slice (some ⟨H.length + 1,0,none⟩) 8 8)),(5,(.slice (some ⟨H.length,0,none⟩) 8 8)),(6,v),(9,.int .u32 (0)),(53,.int .i64 8),(54,.int .i64 (0))],H ++ [⟨X0 (nx),true,true,true,1⟩,⟨X0 orderW,true,true,true,1⟩,⟨X0 (r),true,true,true,1⟩],[]⟩:St) = some (.normal,(⟨[(0,s),(3,(.slice (some ⟨(H.length + 2),0,none⟩) 8 8)),(4,(.slice (some ⟨H.length + 1,0,none⟩) 8 8)),(5,(.slice (some ⟨H.length,0,none⟩) 8 8)),(6,v),(9,.int .u32 ((b:Nat))),(53,.int .i64 8),(54,.int .i64 (8)),(55,.bool false)],H ++ [⟨X0 (nx'),true,true,true,1⟩,⟨X0 orderW,true,true,true,1⟩,⟨X0 (r),true,true,true,1⟩],[]⟩:St)) ∧ SbInv 8 r nx' b:=by
 obtain ⟨s',hb,nx',b,rfl,hinv⟩:=Vi (T:=T) (base:=H.length) (id:=4) (body:=Mq)
  (fun k s1 => ∃ nx' b,s1 = (⟨[(0,s),(3,(.slice (some ⟨(H.length + 2),0,none⟩) 8 8)),(4,(.slice (some ⟨H.length + 1,0,none⟩) 8 8)),(5,(.slice (some ⟨H.length,0,none⟩) 8 8)),(6,v),(9,.int .u32 ((b:Nat))),(53,.int .i64 8),(54,.int .i64 ((k:Nat)))],H ++ [⟨X0 (nx'),true,true,true,1⟩,⟨X0 orderW,true,true,true,1⟩,⟨X0 (r),true,true,true,1⟩],[]⟩:St) ∧ SbInv k r nx' b)
  (Q:=fun s1 => ∃ nx' b,s1 = (⟨[(0,s),(3,(.slice (some ⟨(H.length + 2),0,none⟩) 8 8)),(4,(.slice (some ⟨H.length + 1,0,none⟩) 8 8)),(5,(.slice (some ⟨H.length,0,none⟩) 8 8)),(6,v),(9,.int .u32 ((b:Nat))),(53,.int .i64 8),(54,.int .i64 (8)),(55,.bool false)],H ++ [⟨X0 (nx'),true,true,true,1⟩,⟨X0 orderW,true,true,true,1⟩,⟨X0 (r),true,true,true,1⟩],[]⟩:St) ∧ SbInv 8 r nx' b)
  8 (s:=(⟨[(0,s),(3,(.slice (some ⟨(H.length + 2),0,none⟩) 8 8)),(4,(.slice (some ⟨H.length + 1,0,none⟩) 8 8)),(5,(.slice (some ⟨H.length,0,none⟩) 8 8)),(6,v),(9,.int .u32 (((0:Nat):Int))),(53,.int .i64 8),(54,.int .i64 (((0:Nat):Int)))],H ++ [⟨X0 (nx),true,true,true,1⟩,⟨X0 orderW,true,true,true,1⟩,⟨X0 (r),true,true,true,1⟩],[]⟩:St)) ⟨_,_,rfl,⟨hl2,hr2,by decide,by simp [num]⟩⟩
  (fun k s1 hk hs => by
   obtain ⟨nx',b,rfl,hI⟩:=hs
   obtain ⟨x,hx⟩:∃ x,r[k]? = some x:=⟨_,Q1 (by omega)⟩
   obtain ⟨l,hlk⟩:∃ l,orderW[k]? = some l:=⟨_,Q1 (show k < orderW.length from hk)⟩
   exact ⟨_,Qvh hk hI.len hx (hr x (Zk hx)) hlk hI.ble,_,_,rfl,hI.step hr hk hx hlk⟩)
  (fun s1 hs => by
   obtain ⟨nx',b,rfl,hI⟩:=hs
   have h1:¬ (((8:Nat):Int) < (8:Int)):=by omega
   refine ⟨_,?_,nx',b,rfl,hI⟩
   simp only [Mq,Z0,Kf,Kn,K5,Xf,Ko,Jq,K6,Kr,Vc,guardOf,Zs,opd,Wj,Vp,Vb,Env.get,Env.put,Yc,Q4,Za,Zb,Xo,Vu,Kd,J4,St.after,Env.keep,if_true,if_false,ite_true,ite_false,Y3,V7,unV,Vy,Va,packed,reduceCtorEq,Jd,Je,Zv,Qf,Qb,Qh,Z1,Ja,Jf,beq_self_eq_true,Xx,J1,Ki,Kh,X8,K0,Kj,X3,K3,Kz,X4,Vg,Kl,J9,Kx,K4,X6,X5,Jw,X7,Ji,Jp,Jo,J7,Ju,J5,Jt,Jn,J8,J6,Xl,Jv,Kg,Xn,Kk,Ky,Xm,Km,Xa,Ob.fresh,Y8,Wp,Wu,Jg,and_self,true_and,and_true,Jh,Xy,Vk,Yn,Vh,Xb,Yk,Xc,Xj,false_and,decide_true,decide_false,Jr,Qp,Qn,Qo,Qd,Qm,Qg,Y1,Xk,Ye,Xz,Xq,Xr,Zq,Zp,Bg,Bf,Be,Bd,Zj,Ke,Jz,Xw,Xi,Ve,J3,h1]
   rfl)
 exact ⟨nx',b,hb,hinv⟩
end Go.Ev.YtgacigcbglflkaaGreat
set_option linter.unusedSimpArgs false
set_option linter.unusedVariables false
namespace Go.Ev.YtgacigcbglflkaaGreat
open Go Go.Ev
attribute [local congr] Dp
set_option maxRecDepth 100000
structure RInv (V:Nat) (r nx:List Nat):Prop where
 len:r.length = 8
 lt:∀ x ∈ r,x < 4294967296
 len2:nx.length = 8
 lt2:∀ x ∈ nx,x < 4294967296
 eq:num 4294967296 r = V % ell
theorem Q10:2 * ell + 1 < 4294967296 ^ 8:=by decide
theorem D0:0 < ell:=by decide
theorem RInv.step {V c c' b:Nat} {r nx r' nx':List Nat} (h:RInv V r nx) (hc:c ≤ 1) (h1:ShInv 8 c r r' c') (h2:SbInv 8 r' nx' b):(b = 0 → RInv (2 * V + c) nx' r') ∧ (b ≠ 0 → RInv (2 * V + c) r' nx'):=by
 have e1:=h1.eq
 have e2:=h2.eq
 have l1:=h.len
 have l2:=h1.len
 have l3:=h2.len
 rw [Zl (by omega)] at e1
 rw [Zl (by omega),Zl (show orderW.length ≤ 8 from Zj _),Zl (by omega),Qr1] at e2
 have b1:=num_lt h1.lt
 have b2:=num_lt h2.lt
 rw [l2] at b1
 rw [l3] at b2
 have hp:=Q10
 have hr:num 4294967296 r < ell:=by rw [h.eq]; exact Jk _ D0
 have hV:(2 * V + c) % ell = (2 * num 4294967296 r + c) % ell:=by
  rw [h.eq,Qfv,Hf,Qfv (2 * (V % ell)),Hf 2 (V % ell),Hh]
 have hle:=h1.cle
 have hbe:=h2.ble
 generalize 4294967296 ^ 8 = W at *
 have hc0:c' = 0:=by
  rcases V5 0 c' with hh | hh
  ·have:c' = 1:=by omega
   subst this
   omega
  ·omega
 subst hc0
 generalize num 4294967296 r = x at *
 generalize hyy:num 4294967296 r' = y at *
 generalize hz:num 4294967296 nx' = z at *
 have hy:y = 2 * x + c:=by omega
 subst hy
 refine ⟨fun h0 => ⟨l3,h2.lt,l2,h1.lt,?_⟩,fun h0 => ⟨l2,h1.lt,l3,h2.lt,?_⟩⟩
 ·subst h0
  rw [hV,show 2 * x + c = z + ell by omega,Nat.add_mod_right,Z3 (by omega)]
  exact hz
 ·have:b = 1:=by omega
  subst this
  have hlt:2 * x + c < ell:=by omega
  rw [hV,Z3 hlt]
  exact hyy
theorem Qp7 {H:List Ob} {id off n cap i w V:Nat} {ws r nx:List Nat} (hr:Row .u32 H id off ws) (hn:ws.length = n) (hN:n < 2 ^ 40) (hi:i < 32 * n) (hw:ws[i / 32]? = some w) (hw':w < 4294967296) (h:RInv V r nx) :
  ∃ r' nx',RInv (2 * V + w / 2 ^ (i % 32) % 2) r' nx' ∧ (Jl T H.length Hb (⟨[(0,(.slice (some ⟨id,off,none⟩) n cap)),(3,(.slice (some ⟨H.length,0,none⟩) 8 8)),(4,(.slice (some ⟨H.length + 1,0,none⟩) 8 8)),(5,(.slice (some ⟨(H.length + 2),0,none⟩) 8 8)),(6,.int .i64 ((i:Nat)))],H ++ [⟨X0 (r),true,true,true,1⟩,⟨X0 orderW,true,true,true,1⟩,⟨X0 (nx),true,true,true,1⟩],[]⟩:St) = some (.normal,(⟨[(0,(.slice (some ⟨id,off,none⟩) n cap)),(3,(.slice (some ⟨H.length,0,none⟩) 8 8)),(4,(.slice (some ⟨H.length + 1,0,none⟩) 8 8)),(5,(.slice (some ⟨(H.length + 2),0,none⟩) 8 8)),(6,.int .i64 ((i:Int) - 1))],H ++ [⟨X0 (r'),true,true,true,1⟩,⟨X0 orderW,true,true,true,1⟩,⟨X0 (nx'),true,true,true,1⟩],[]⟩:St)) ∨ Jl T H.length Hb (⟨[(0,(.slice (some ⟨id,off,none⟩) n cap)),(3,(.slice (some ⟨H.length,0,none⟩) 8 8)),(4,(.slice (some ⟨H.length + 1,0,none⟩) 8 8)),(5,(.slice (some ⟨(H.length + 2),0,none⟩) 8 8)),(6,.int .i64 ((i:Nat)))],H ++ [⟨X0 (r),true,true,true,1⟩,⟨X0 orderW,true,true,true,1⟩,⟨X0 (nx),true,true,true,1⟩],[]⟩:St) = some (.normal,(⟨[(0,(.slice (some ⟨id,off,none⟩) n cap)),(3,(.slice (some ⟨(H.length + 2),0,none⟩) 8 8)),(4,(.slice (some ⟨H.length + 1,0,none⟩) 8 8)),(5,(.slice (some ⟨H.length,0,none⟩) 8 8)),(6,.int .i64 ((i:Int) - 1))],H ++ [⟨X0 (nx'),true,true,true,1⟩,⟨X0 orderW,true,true,true,1⟩,⟨X0 (r'),true,true,true,1⟩],[]⟩:St))):=by
 have hc:w / 2 ^ (i % 32) % 2 ≤ 1:=by omega
 obtain ⟨r1,c1,hb1,i1⟩:=Qvb (H:=H) (s:=(.slice (some ⟨id,off,none⟩) n cap)) (v := .int .i64 (i:Nat)) (nx:=nx) h.len h.lt hc
 obtain ⟨nx1,b,hb2,i2⟩:=Qvg (H:=H) (s:=(.slice (some ⟨id,off,none⟩) n cap)) (v := .int .i64 (i:Nat)) (r:=r1) (nx:=nx) i1.len i1.lt h.len2 h.lt2
 obtain ⟨o,ho,hcell⟩:=hr
 have ho':=Br (l:=[⟨X0 (r),true,true,true,1⟩,⟨X0 orderW,true,true,true,1⟩,⟨X0 (nx),true,true,true,1⟩]) ho
 have hwc:=hcell (i / 32) w hw
 have h1:((i:Int) ≥ 0):=by omega
 have h2:((i / 32:Nat):Int) < (n:Int):=by omega
 have h4:¬ (((i % 32:Nat):Int) < 0):=by omega
 have e1:IntKind.i64.wrap ((i:Int).tdiv 32) = ((i / 32:Nat):Int):=Vn (n:=i / 32) (by omega)
 have e2:((i:Int).tmod 32) = ((i % 32:Nat):Int):=rfl
 have e3:Tw (w:Int) (2 ^ min (i % 32) IntKind.u32.bits) = ((w / 2 ^ (i % 32):Nat):Int):=by
  rw [V8 (by show _ ≤ 32; omega),Y6 _ (Q3l (Q6t (by decide)))]; simp
 have e4:Vz .and .u32 ((w / 2 ^ (i % 32):Nat):Int) 1 = ((w / 2 ^ (i % 32) % 2:Nat):Int):=by
  rw [show (1:Int) = ((1:Nat):Int) from rfl,R4 (k := .u32) (a:=w / 2 ^ (i % 32)) (b:=1) rfl (Wk (W9 _ _) hw') (by decide),Nat.and_one_is_mod]
 have e5:IntKind.i64.wrap ((i:Int) - 1) = (i:Int) - 1:=K9 (by omega) (by omega)
 have e8:((8:Nat):Int) = 8:=rfl
 have hst:=h.step hc i1 i2
 generalize w / 2 ^ (i % 32) % 2 = c at *
 by_cases hb0:b = 0
 ·subst hb0
  have e6:(((0:Nat):Int) == 0) = true:=rfl
  refine ⟨nx1,r1,hst.1 rfl,.inr ?_⟩
  simp only [Hb,Z0,Kf,Kn,K5,Xf,Ko,Jq,K6,Kr,Vc,guardOf,Zs,opd,Wj,Vp,Vb,Env.get,Env.put,Yc,Q4,Za,Zb,Xo,Vu,Kd,J4,St.after,Env.keep,if_true,if_false,ite_true,ite_false,Y3,V7,unV,Vy,Va,packed,reduceCtorEq,Jd,Je,Zv,Qf,Qb,Qh,Z1,Ja,Jf,beq_self_eq_true,Xx,J1,Ki,Kh,X8,K0,Kj,X3,K3,Kz,X4,Vg,Kl,J9,Kx,K4,X6,X5,Jw,X7,Ji,Jp,Jo,J7,Ju,J5,Jt,Jn,J8,J6,Xl,Jv,Kg,Xn,Kk,Ky,Xm,Km,Xa,Ob.fresh,Y8,Wp,Wu,Jg,and_self,true_and,and_true,Jh,Xy,Vk,Yn,Vh,Xb,Yk,Xc,Xj,false_and,decide_true,decide_false,Jr,Qp,Qn,Qo,Qd,Qm,Qg,Y1,Xk,Ye,Xz,Xq,Xr,Zq,Zp,Bg,Bf,Be,Bd,Zj,Ke,Jz,Xw,Xi,Ve,J3,h1,h2,h4,ho',hwc,e1,e2,e3,e4,e5,e6,e8,hb1,hb2]
 ·have hb1':b = 1:=by have:=i2.ble; omega
  subst hb1'
  have e6:(((1:Nat):Int) == 0) = false:=rfl
  refine ⟨r1,nx1,hst.2 (by decide),.inl ?_⟩
  simp only [Hb,Z0,Kf,Kn,K5,Xf,Ko,Jq,K6,Kr,Vc,guardOf,Zs,opd,Wj,Vp,Vb,Env.get,Env.put,Yc,Q4,Za,Zb,Xo,Vu,Kd,J4,St.after,Env.keep,if_true,if_false,ite_true,ite_false,Y3,V7,unV,Vy,Va,packed,reduceCtorEq,Jd,Je,Zv,Qf,Qb,Qh,Z1,Ja,Jf,beq_self_eq_true,Xx,J1,Ki,Kh,X8,K0,Kj,X3,K3,Kz,X4,Vg,Kl,J9,Kx,K4,X6,X5,Jw,X7,Ji,Jp,Jo,J7,Ju,J5,Jt,Jn,J8,J6,Xl,Jv,Kg,Xn,Kk,Ky,Xm,Km,Xa,Ob.fresh,Y8,Wp,Wu,Jg,and_self,true_and,and_true,Jh,Xy,Vk,Yn,Vh,Xb,Yk,Xc,Xj,false_and,decide_true,decide_false,Jr,Qp,Qn,Qo,Qd,Qm,Qg,Y1,Xk,Ye,Xz,Xq,Xr,Zq,Zp,Bg,Bf,Be,Bd,Zj,Ke,Jz,Xw,Xi,Ve,J3,h1,h2,h4,ho',hwc,e1,e2,e3,e4,e5,e6,e8,hb1,hb2]
theorem Qp6 {H:List Ob} {id off n cap i w V:Nat} {ws r nx:List Nat} (hr:Row .u32 H id off ws) (hn:ws.length = n) (hN:n < 2 ^ 40) (hi:i < 32 * n) (hw:ws[i / 32]? = some w) (hw':w < 4294967296) (h:RInv V r nx) :
  ∃ r' nx',RInv (2 * V + w / 2 ^ (i % 32) % 2) r' nx' ∧ (Jl T H.length Hb (⟨[(0,(.slice (some ⟨id,off,none⟩) n cap)),(3,(.slice (some ⟨(H.length + 2),0,none⟩) 8 8)),(4,(.slice (some ⟨H.length + 1,0,none⟩) 8 8)),(5,(.slice (some ⟨H.length,0,none⟩) 8 8)),(6,.int .i64 ((i:Nat)))],H ++ [⟨X0 (nx),true,true,true,1⟩,⟨X0 orderW,true,true,true,1⟩,⟨X0 (r),true,true,true,1⟩],[]⟩:St) = some (.normal,(⟨[(0,(.slice (some ⟨id,off,none⟩) n cap)),(3,(.slice (some ⟨(H.length + 2),0,none⟩) 8 8)),(4,(.slice (some ⟨H.length + 1,0,none⟩) 8 8)),(5,(.slice (some ⟨H.length,0,none⟩) 8 8)),(6,.int .i64 ((i:Int) - 1))],H ++ [⟨X0 (nx'),true,true,true,1⟩,⟨X0 orderW,true,true,true,1⟩,⟨X0 (r'),true,true,true,1⟩],[]⟩:St)) ∨ Jl T H.length Hb (⟨[(0,(.slice (some ⟨id,off,none⟩) n cap)),(3,(.slice (some ⟨(H.length + 2),0,none⟩) 8 8)),(4,(.slice (some ⟨H.length + 1,0,none⟩) 8 8)),(5,(.slice (some ⟨H.length,0,none⟩) 8 8)),(6,.int .i64 ((i:Nat)))],H ++ [⟨X0 (nx),true,true,true,1⟩,⟨X0 orderW,true,true,true,1⟩,⟨X0 (r),true,true,true,1⟩],[]⟩:St) = some (.normal,(⟨[(0,(.slice (some ⟨id,off,none⟩) n cap)),(3,(.slice (some ⟨H.length,0,none⟩) 8 8)),(4,(.slice (some ⟨H.length + 1,0,none⟩) 8 8)),(5,(.slice (some ⟨(H.length + 2),0,none⟩) 8 8)),(6,.int .i64 ((i:Int) - 1))],H ++ [⟨X0 (r'),true,true,true,1⟩,⟨X0 orderW,true,true,true,1⟩,⟨X0 (nx'),true,true,true,1⟩],[]⟩:St))):=by
 have hc:w / 2 ^ (i % 32) % 2 ≤ 1:=by omega
 obtain ⟨r1,c1,hb1,i1⟩:=Qva (H:=H) (s:=(.slice (some ⟨id,off,none⟩) n cap)) (v := .int .i64 (i:Nat)) (nx:=nx) h.len h.lt hc
 obtain ⟨nx1,b,hb2,i2⟩:=Qvf (H:=H) (s:=(.slice (some ⟨id,off,none⟩) n cap)) (v := .int .i64 (i:Nat)) (r:=r1) (nx:=nx) i1.len i1.lt h.len2 h.lt2
 obtain ⟨o,ho,hcell⟩:=hr
 have ho':=Br (l:=[⟨X0 (nx),true,true,true,1⟩,⟨X0 orderW,true,true,true,1⟩,⟨X0 (r),true,true,true,1⟩]) ho
 have hwc:=hcell (i / 32) w hw
 have h1:((i:Int) ≥ 0):=by omega
 have h2:((i / 32:Nat):Int) < (n:Int):=by omega
 have h4:¬ (((i % 32:Nat):Int) < 0):=by omega
 have e1:IntKind.i64.wrap ((i:Int).tdiv 32) = ((i / 32:Nat):Int):=Vn (n:=i / 32) (by omega)
 have e2:((i:Int).tmod 32) = ((i % 32:Nat):Int):=rfl
 have e3:Tw (w:Int) (2 ^ min (i % 32) IntKind.u32.bits) = ((w / 2 ^ (i % 32):Nat):Int):=by
  rw [V8 (by show _ ≤ 32; omega),Y6 _ (Q3l (Q6t (by decide)))]; simp
 have e4:Vz .and .u32 ((w / 2 ^ (i % 32):Nat):Int) 1 = ((w / 2 ^ (i % 32) % 2:Nat):Int):=by
  rw [show (1:Int) = ((1:Nat):Int) from rfl,R4 (k := .u32) (a:=w / 2 ^ (i % 32)) (b:=1) rfl (Wk (W9 _ _) hw') (by decide),Nat.and_one_is_mod]
 have e5:IntKind.i64.wrap ((i:Int) - 1) = (i:Int) - 1:=K9 (by omega) (by omega)
 have e8:((8:Nat):Int) = 8:=rfl
 have hst:=h.step hc i1 i2
 generalize w / 2 ^ (i % 32) % 2 = c at *
 by_cases hb0:b = 0
 ·subst hb0
  have e6:(((0:Nat):Int) == 0) = true:=rfl
  refine ⟨nx1,r1,hst.1 rfl,.inr ?_⟩
  simp only [Hb,Z0,Kf,Kn,K5,Xf,Ko,Jq,K6,Kr,Vc,guardOf,Zs,opd,Wj,Vp,Vb,Env.get,Env.put,Yc,Q4,Za,Zb,Xo,Vu,Kd,J4,St.after,Env.keep,if_true,if_false,ite_true,ite_false,Y3,V7,unV,Vy,Va,packed,reduceCtorEq,Jd,Je,Zv,Qf,Qb,Qh,Z1,Ja,Jf,beq_self_eq_true,Xx,J1,Ki,Kh,X8,K0,Kj,X3,K3,Kz,X4,Vg,Kl,J9,Kx,K4,X6,X5,Jw,X7,Ji,Jp,Jo,J7,Ju,J5,Jt,Jn,J8,J6,Xl,Jv,Kg,Xn,Kk,Ky,Xm,Km,Xa,Ob.fresh,Y8,Wp,Wu,Jg,and_self,true_and,and_true,Jh,Xy,Vk,Yn,Vh,Xb,Yk,Xc,Xj,false_and,decide_true,decide_false,Jr,Qp,Qn,Qo,Qd,Qm,Qg,Y1,Xk,Ye,Xz,Xq,Xr,Zq,Zp,Bg,Bf,Be,Bd,Zj,Ke,Jz,Xw,Xi,Ve,J3,h1,h2,h4,ho',hwc,e1,e2,e3,e4,e5,e6,e8,hb1,hb2]
 ·have hb1':b = 1:=by have:=i2.ble; omega
  subst hb1'
  have e6:(((1:Nat):Int) == 0) = false:=rfl
  refine ⟨r1,nx1,hst.2 (by decide),.inl ?_⟩
  simp only [Hb,Z0,Kf,Kn,K5,Xf,Ko,Jq,K6,Kr,Vc,guardOf,Zs,opd,Wj,Vp,Vb,Env.get,Env.put,Yc,Q4,Za,Zb,Xo,Vu,Kd,J4,St.after,Env.keep,if_true,if_false,ite_true,ite_false,Y3,V7,unV,Vy,Va,packed,reduceCtorEq,Jd,Je,Zv,Qf,Qb,Qh,Z1,Ja,Jf,beq_self_eq_true,Xx,J1,Ki,Kh,X8,K0,Kj,X3,K3,Kz,X4,Vg,Kl,J9,Kx,K4,X6,X5,Jw,X7,Ji,Jp,Jo,J7,Ju,J5,Jt,Jn,J8,J6,Xl,Jv,Kg,Xn,Kk,Ky,Xm,Km,Xa,Ob.fresh,Y8,Wp,Wu,Jg,and_self,true_and,and_true,Jh,Xy,Vk,Yn,Vh,Xb,Yk,Xc,Xj,false_and,decide_true,decide_false,Jr,Qp,Qn,Qo,Qd,Qm,Qg,Y1,Xk,Ye,Xz,Xq,Xr,Zq,Zp,Bg,Bf,Be,Bd,Zj,Ke,Jz,Xw,Xi,Ve,J3,h1,h2,h4,ho',hwc,e1,e2,e3,e4,e5,e6,e8,hb1,hb2]
def Qhd (H:List Ob) (s:Value) (p:Bool) (v:Int) (r nx:List Nat):St:=match p with
 | false => (⟨[(0,s),(3,(.slice (some ⟨H.length,0,none⟩) 8 8)),(4,(.slice (some ⟨H.length + 1,0,none⟩) 8 8)),(5,(.slice (some ⟨(H.length + 2),0,none⟩) 8 8)),(6,.int .i64 (v))],H ++ [⟨X0 (r),true,true,true,1⟩,⟨X0 orderW,true,true,true,1⟩,⟨X0 (nx),true,true,true,1⟩],[]⟩:St)
 | true => (⟨[(0,s),(3,(.slice (some ⟨(H.length + 2),0,none⟩) 8 8)),(4,(.slice (some ⟨H.length + 1,0,none⟩) 8 8)),(5,(.slice (some ⟨H.length,0,none⟩) 8 8)),(6,.int .i64 (v))],H ++ [⟨X0 (nx),true,true,true,1⟩,⟨X0 orderW,true,true,true,1⟩,⟨X0 (r),true,true,true,1⟩],[]⟩:St)
def Qhe (H:List Ob) (s:Value) (p:Bool) (r nx:List Nat):St:=match p with
 | false => (⟨[(0,s),(3,(.slice (some ⟨H.length,0,none⟩) 8 8)),(4,(.slice (some ⟨H.length + 1,0,none⟩) 8 8)),(5,(.slice (some ⟨(H.length + 2),0,none⟩) 8 8)),(6,.int .i64 (-1)),(19,.bool false)],H ++ [⟨X0 (r),true,true,true,1⟩,⟨X0 orderW,true,true,true,1⟩,⟨X0 (nx),true,true,true,1⟩],[]⟩:St)
 | true => (⟨[(0,s),(3,(.slice (some ⟨(H.length + 2),0,none⟩) 8 8)),(4,(.slice (some ⟨H.length + 1,0,none⟩) 8 8)),(5,(.slice (some ⟨H.length,0,none⟩) 8 8)),(6,.int .i64 (-1)),(19,.bool false)],H ++ [⟨X0 (nx),true,true,true,1⟩,⟨X0 orderW,true,true,true,1⟩,⟨X0 (r),true,true,true,1⟩],[]⟩:St)
theorem Qtb {H:List Ob} {id off n cap i w V:Nat} {ws r nx:List Nat} (p:Bool) (hr:Row .u32 H id off ws) (hn:ws.length = n) (hN:n < 2 ^ 40) (hi:i < 32 * n) (hw:ws[i / 32]? = some w) (hw':w < 4294967296) (h:RInv V r nx) :
  ∃ q r' nx',RInv (2 * V + w / 2 ^ (i % 32) % 2) r' nx' ∧ Jl T H.length Hb (Qhd H (.slice (some ⟨id,off,none⟩) n cap) p (i:Nat) r nx) = some (.normal,Qhd H (.slice (some ⟨id,off,none⟩) n cap) q ((i:Int) - 1) r' nx'):=by
 cases p with
 | false =>
  obtain ⟨r',nx',h1,h2⟩:=Qp7 (cap:=cap) hr hn hN hi hw hw' h
  rcases h2 with h2 | h2
  ·exact ⟨false,r',nx',h1,h2⟩
  ·exact ⟨true,r',nx',h1,h2⟩
 | true =>
  obtain ⟨r',nx',h1,h2⟩:=Qp6 (cap:=cap) hr hn hN hi hw hw' h
  rcases h2 with h2 | h2
  ·exact ⟨true,r',nx',h1,h2⟩
  ·exact ⟨false,r',nx',h1,h2⟩
theorem Q6l {ws:List Nat} {i w:Nat} (hws:∀ x ∈ ws,x < 4294967296) (hw:ws[i / 32]? = some w):2 * (num 4294967296 ws / 2 ^ (i + 1)) + w / 2 ^ (i % 32) % 2 = num 4294967296 ws / 2 ^ i:=by
 have h1:=Bv (B:=4294967296) (by decide) hws hw
 generalize num 4294967296 ws = v at *
 have h2:w / 2 ^ (i % 32) % 2 = v / 2 ^ i % 2:=by
  have e1:(4294967296:Nat) ^ (i / 32) = 2 ^ (32 * (i / 32)):=by rw [show (4294967296:Nat) = 2 ^ 32 from rfl,← Yp]
  rw [← h1,e1]
  have e2:(2:Nat) ^ i = 2 ^ (32 * (i / 32)) * 2 ^ (i % 32):=by rw [← Wl]; congr 1; omega
  rw [e2,← X9]
  generalize v / 2 ^ (32 * (i / 32)) = u
  have e3:(4294967296:Nat) = 2 ^ (i % 32) * 2 ^ (32 - i % 32):=by rw [← Wl]; rw [show i % 32 + (32 - i % 32) = 32 by omega]
  rw [e3,Ts,Dq]
  exact ⟨2 ^ (31 - i % 32),by rw [← Qop]; congr 1; omega⟩
 rw [h2,Kq,← X9]
 omega
theorem Qp8 {H:List Ob} {id off n cap:Nat} {ws:List Nat} (hr:Row .u32 H id off ws) (hn:ws.length = n) (hn0:0 < n) (hN:n < 2 ^ 40) (hws:∀ x ∈ ws,x < 4294967296) :
  ∃ k l,V6 T 51 [.slice (some ⟨id,off,none⟩) n cap] H = some (.slice (some ⟨k,0,none⟩) 8 8,H ++ l,[]) ∧ Row .u32 (H ++ l) k 0 (dig 4294967296 8 (num 4294967296 ws % ell)):=by
 have h0:RInv (num 4294967296 ws / 2 ^ (32 * n)) (dig 4294967296 8 0) (dig 4294967296 8 0):=by
  refine ⟨Kc _ _ _,fun x hx => Gs (by decide) hx,Kc _ _ _,fun x hx => Gs (by decide) hx,?_⟩
  have h1:=num_lt hws
  rw [hn,show (4294967296:Nat) = 2 ^ 32 from rfl,← Yp] at h1
  rw [U5 (by decide),show (4294967296:Nat) = 2 ^ 32 from rfl,Wz h1]
  simp
 obtain ⟨s',hb,q,r,nx,rfl,hinv⟩:=Vi (T:=T) (base:=H.length) (id:=0) (body:=Hb)
  (fun j s => ∃ p r nx,s = Qhd H (.slice (some ⟨id,off,none⟩) n cap) p (((32 * n - j:Nat):Int) - 1) r nx ∧ RInv (num 4294967296 ws / 2 ^ (32 * n - j)) r nx)
  (Q:=fun s => ∃ p r nx,s = Qhe H (.slice (some ⟨id,off,none⟩) n cap) p r nx ∧ RInv (num 4294967296 ws) r nx)
  (32 * n) (s:=Qhd H (.slice (some ⟨id,off,none⟩) n cap) false (((32 * n - 0:Nat):Int) - 1) (dig 4294967296 8 0) (dig 4294967296 8 0)) ⟨false,_,_,rfl,h0⟩
  (fun j s hj hs => by
   obtain ⟨p,r,nx,rfl,hI⟩:=hs
   obtain ⟨i,hi⟩:∃ i,32 * n - j = i + 1:=⟨32 * n - j - 1,by omega⟩
   obtain ⟨w,hw⟩:∃ w,ws[i / 32]? = some w:=⟨_,Q1 (by omega)⟩
   rw [hi] at hI
   obtain ⟨q,r',nx',g1,g2⟩:=Qtb (cap:=cap) p hr hn hN (by omega) hw (hws w (Zk hw)) hI
   rw [Q6l hws hw] at g1
   refine ⟨_,?_,q,r',nx',rfl,by rw [show 32 * n - (j + 1) = i by omega]; exact g1⟩
   rw [hi,show 32 * n - (j + 1) = i by omega,show (((i + 1:Nat):Int) - 1) = (i:Nat) by omega]
   exact g2)
  (fun s hs => by
   obtain ⟨p,r,nx,rfl,hI⟩:=hs
   rw [Kv,Ya,Wi] at hI
   refine ⟨_,?_,p,r,nx,rfl,hI⟩
   rw [Kv]
   have h1:¬ ((-1:Int) ≥ 0):=by decide
   cases p with
   | false =>
    rw [show Qhd H (.slice (some ⟨id,off,none⟩) n cap) false (((0:Nat):Int) - 1) r nx = (⟨[(0,.slice (some ⟨id,off,none⟩) n cap),(3,(.slice (some ⟨H.length,0,none⟩) 8 8)),(4,(.slice (some ⟨H.length + 1,0,none⟩) 8 8)),(5,(.slice (some ⟨(H.length + 2),0,none⟩) 8 8)),(6,.int .i64 (-1))],H ++ [⟨X0 (r),true,true,true,1⟩,⟨X0 orderW,true,true,true,1⟩,⟨X0 (nx),true,true,true,1⟩],[]⟩:St) from rfl]
    simp only [Hb,Z0,Kf,Kn,K5,Xf,Ko,Jq,K6,Kr,Vc,guardOf,Zs,opd,Wj,Vp,Vb,Env.get,Env.put,Yc,Q4,Za,Zb,Xo,Vu,Kd,J4,St.after,Env.keep,if_true,if_false,ite_true,ite_false,Y3,V7,unV,Vy,Va,packed,reduceCtorEq,Jd,Je,Zv,Qf,Qb,Qh,Z1,Ja,Jf,beq_self_eq_true,Xx,J1,Ki,Kh,X8,K0,Kj,X3,K3,Kz,X4,Vg,Kl,J9,Kx,K4,X6,X5,Jw,X7,Ji,Jp,Jo,J7,Ju,J5,Jt,Jn,J8,J6,Xl,Jv,Kg,Xn,Kk,Ky,Xm,Km,Xa,Ob.fresh,Y8,Wp,Wu,Jg,and_self,true_and,and_true,Jh,Xy,Vk,Yn,Vh,Xb,Yk,Xc,Xj,false_and,decide_true,decide_false,Jr,Qp,Qn,Qo,Qd,Qm,Qg,Y1,Xk,Ye,Xz,Xq,Xr,Zq,Zp,Bg,Bf,Be,Bd,Zj,Ke,Jz,Xw,Xi,Ve,J3,h1,Qhe]
   | true =>
    rw [show Qhd H (.slice (some ⟨id,off,none⟩) n cap) true (((0:Nat):Int) - 1) r nx = (⟨[(0,.slice (some ⟨id,off,none⟩) n cap),(3,(.slice (some ⟨(H.length + 2),0,none⟩) 8 8)),(4,(.slice (some ⟨H.length + 1,0,none⟩) 8 8)),(5,(.slice (some ⟨H.length,0,none⟩) 8 8)),(6,.int .i64 (-1))],H ++ [⟨X0 (nx),true,true,true,1⟩,⟨X0 orderW,true,true,true,1⟩,⟨X0 (r),true,true,true,1⟩],[]⟩:St) from rfl]
    simp only [Hb,Z0,Kf,Kn,K5,Xf,Ko,Jq,K6,Kr,Vc,guardOf,Zs,opd,Wj,Vp,Vb,Env.get,Env.put,Yc,Q4,Za,Zb,Xo,Vu,Kd,J4,St.after,Env.keep,if_true,if_false,ite_true,ite_false,Y3,V7,unV,Vy,Va,packed,reduceCtorEq,Jd,Je,Zv,Qf,Qb,Qh,Z1,Ja,Jf,beq_self_eq_true,Xx,J1,Ki,Kh,X8,K0,Kj,X3,K3,Kz,X4,Vg,Kl,J9,Kx,K4,X6,X5,Jw,X7,Ji,Jp,Jo,J7,Ju,J5,Jt,Jn,J8,J6,Xl,Jv,Kg,Xn,Kk,Ky,Xm,Km,Xa,Ob.fresh,Y8,Wp,Wu,Jg,and_self,true_and,and_true,Jh,Xy,Vk,Yn,Vh,Xb,Yk,Xc,Xj,false_and,decide_true,decide_false,Jr,Qp,Qn,Qo,Qd,Qm,Qg,Y1,Xk,Ye,Xz,Xq,Xr,Zq,Zp,Bg,Bf,Be,Bd,Zj,Ke,Jz,Xw,Xi,Ve,J3,h1,Qhe])
 obtain ⟨m,hm⟩:∃ m:Int,m = ((32 * n - 0:Nat):Int) - 1:=⟨_,rfl⟩
 rw [← hm,show Qhd H (.slice (some ⟨id,off,none⟩) n cap) false m (dig 4294967296 8 0) (dig 4294967296 8 0) = (⟨[(0,.slice (some ⟨id,off,none⟩) n cap),(3,(.slice (some ⟨H.length,0,none⟩) 8 8)),(4,(.slice (some ⟨H.length + 1,0,none⟩) 8 8)),(5,(.slice (some ⟨(H.length + 2),0,none⟩) 8 8)),(6,.int .i64 (m))],H ++ [⟨X0 (dig 4294967296 8 0),true,true,true,1⟩,⟨X0 orderW,true,true,true,1⟩,⟨X0 (dig 4294967296 8 0),true,true,true,1⟩],[]⟩:St) from rfl] at hb
 have e1:IntKind.i64.wrap (IntKind.i64.wrap (32 * (n:Int)) - 1) = m:=by rw [K9 (x:=32 * (n:Int)) (by omega) (by omega),K9 (by omega) (by omega)]; omega
 have h1:((8:Int) * ((4:Nat):Int) ≤ 2 ^ 47):=by decide
 have h2:(0:Nat) < 4:=by decide
 have h3:((0:Int) ≤ 8):=by decide
 have hz:Qa 8 (Value.int .u32 0) = X0 (dig 4294967296 8 0):=rfl
 have horder:=Qg6 (H ++ [⟨X0 (dig 4294967296 8 0),true,true,true,1⟩])
 simp only [Z4,Ja,Jf,Z1,Jx,Zb,Za,Ob.fresh] at horder
 have hdig:r = dig 4294967296 8 (num 4294967296 ws % ell):=by rw [← hinv.eq,← hinv.len,D1 (by decide) hinv.lt]
 cases q with
 | false =>
  refine ⟨H.length,[⟨X0 r,true,true,true,1⟩,⟨X0 orderW,true,true,true,1⟩,⟨X0 nx,true,true,true,1⟩],?_,?_⟩
  ·rw [Jc (fn:=a41) rfl]
   simp only [a41,Z0,Kf,Kn,K5,Xf,Ko,Jq,K6,Kr,Vc,guardOf,Zs,opd,Wj,Vp,Vb,Env.get,Env.put,Yc,Q4,Za,Zb,Xo,Vu,Kd,J4,St.after,Env.keep,if_true,if_false,ite_true,ite_false,Y3,V7,unV,Vy,Va,packed,reduceCtorEq,Jd,Je,Zv,Qf,Qb,Qh,Z1,Ja,Jf,beq_self_eq_true,Xx,J1,Ki,Kh,X8,K0,Kj,X3,K3,Kz,X4,Vg,Kl,J9,Kx,K4,X6,X5,Jw,X7,Ji,Jp,Jo,J7,Ju,J5,Jt,Jn,J8,J6,Xl,Jv,Kg,Xn,Kk,Ky,Xm,Km,Xa,Ob.fresh,Y8,Wp,Wu,Jg,and_self,true_and,and_true,Jh,Xy,Vk,Yn,Vh,Xb,Yk,Xc,Xj,false_and,decide_true,decide_false,Jr,Qp,Qn,Qo,Qd,Qm,Qg,Y1,Xk,Ye,Xz,Xq,Xr,Zq,Zp,Bg,Bf,Be,Bd,Zj,Ke,Jz,Xw,Xi,Ve,J3,e1,h1,h2,h3,Ke,Rz,hz,horder,Z4,Jx,hb,Qhe]
  ·exact ⟨_,Y8,fun i x hx => by rw [Z1]; exact Bc (by rw [hdig]; exact hx)⟩
 | true =>
  refine ⟨H.length + 2,[⟨X0 nx,true,true,true,1⟩,⟨X0 orderW,true,true,true,1⟩,⟨X0 r,true,true,true,1⟩],?_,?_⟩
  ·rw [Jc (fn:=a41) rfl]
   simp only [a41,Z0,Kf,Kn,K5,Xf,Ko,Jq,K6,Kr,Vc,guardOf,Zs,opd,Wj,Vp,Vb,Env.get,Env.put,Yc,Q4,Za,Zb,Xo,Vu,Kd,J4,St.after,Env.keep,if_true,if_false,ite_true,ite_false,Y3,V7,unV,Vy,Va,packed,reduceCtorEq,Jd,Je,Zv,Qf,Qb,Qh,Z1,Ja,Jf,beq_self_eq_true,Xx,J1,Ki,Kh,X8,K0,Kj,X3,K3,Kz,X4,Vg,Kl,J9,Kx,K4,X6,X5,Jw,X7,Ji,Jp,Jo,J7,Ju,J5,Jt,Jn,J8,J6,Xl,Jv,Kg,Xn,Kk,Ky,Xm,Km,Xa,Ob.fresh,Y8,Wp,Wu,Jg,and_self,true_and,and_true,Jh,Xy,Vk,Yn,Vh,Xb,Yk,Xc,Xj,false_and,decide_true,decide_false,Jr,Qp,Qn,Qo,Qd,Qm,Qg,Y1,Xk,Ye,Xz,Xq,Xr,Zq,Zp,Bg,Bf,Be,Bd,Zj,Ke,Jz,Xw,Xi,Ve,J3,e1,h1,h2,h3,Ke,Rz,hz,horder,Z4,Jx,hb,Qhe]
  ·exact ⟨_,Wu,fun i x hx => by rw [Z1]; exact Bc (by rw [hdig]; exact hx)⟩
theorem R9 {cs v:List Value} (h:v.length = cs.length):splice cs 0 v = v:=by
 rw [Mc _ _ _ (by omega),Q3,Za,Z1,h,List.drop_length,Kw]
theorem Q13 {v w i:Nat} (hw:v / 4294967296 ^ (i / 4) % 4294967296 = w):w / 2 ^ (8 * (i % 4)) % 256 = v / 256 ^ i % 256:=by
 subst hw
 have e1:(4294967296:Nat) ^ (i / 4) = 2 ^ (32 * (i / 4)):=by rw [show (4294967296:Nat) = 2 ^ 32 from rfl,← Yp]
 have e2:(256:Nat) ^ i = 2 ^ (32 * (i / 4)) * 2 ^ (8 * (i % 4)):=by
  rw [show (256:Nat) = 2 ^ 8 from rfl,← Yp,← Wl]; congr 1; omega
 rw [e1,e2,← X9]
 generalize v / 2 ^ (32 * (i / 4)) = u
 have e3:(4294967296:Nat) = 2 ^ (8 * (i % 4)) * 2 ^ (32 - 8 * (i % 4)):=by rw [← Wl]; rw [show 8 * (i % 4) + (32 - 8 * (i % 4)) = 32 by omega]
 rw [e3,Ts,Dq]
 exact ⟨2 ^ (24 - 8 * (i % 4)),by rw [show (256:Nat) = 2 ^ 8 from rfl,← Wl]; congr 1; omega⟩
def byI (H:List Ob) (s:Value) (i:Int) (k:List Nat) (ex:Env):St :=
 ⟨[(0,s),(2,.pointer (some ⟨H.length,0,none⟩)),(3,.pointer (some ⟨H.length + 1,0,none⟩)),(5,.int .i64 i)] ++ ex,H ++ [⟨u8s (dig 256 32 0),true,true,true,1⟩,⟨u8s k,true,true,true,1⟩],[]⟩
theorem Q14 {H:List Ob} {id off cap i w:Nat} {ws k:List Nat} (hr:Row .u32 H id off ws) (hn:ws.length = 8) (hi:i < 32) (hw:ws[i / 4]? = some w) (hl:k.length = 32) :
  Jl T H.length Qis (byI H (.slice (some ⟨id,off,none⟩) 8 cap) (i:Nat) k []) = some (.normal,byI H (.slice (some ⟨id,off,none⟩) 8 cap) ((i + 1:Nat):Int) (k.set i (w / 2 ^ (8 * (i % 4)) % 256)) []):=by
 obtain ⟨o,ho,hcell⟩:=hr
 have ho':=Br (l:=[⟨u8s (dig 256 32 0),true,true,true,1⟩,⟨u8s k,true,true,true,1⟩]) ho
 have hwc:=hcell (i / 4) w hw
 have h1:((i:Int) < 32):=by omega
 have h1':((i:Int) < ((32:Nat):Int)):=by omega
 have h2:((i / 4:Nat):Int) < ((8:Nat):Int):=by omega
 have h2':((i / 4:Nat):Int) < (8:Int):=by omega
 have h4:¬ (((8 * (i % 4):Nat):Int) < 0):=by omega
 have e1:IntKind.i64.wrap ((i:Int).tdiv 4) = ((i / 4:Nat):Int):=Vn (n:=i / 4) (by omega)
 have e2:((i:Int).tmod 4) = ((i % 4:Nat):Int):=rfl
 have e3:IntKind.i64.wrap (8 * ((i % 4:Nat):Int)) = ((8 * (i % 4):Nat):Int):=Vn (n:=8 * (i % 4)) (by omega)
 have e4:Tw (w:Int) (2 ^ min (8 * (i % 4)) IntKind.u32.bits) = ((w / 2 ^ (8 * (i % 4)):Nat):Int):=by
  rw [V8 (by show _ ≤ 32; omega),Y6 _ (Q3l (Q6t (by decide)))]; simp
 have e5:IntKind.u8.wrap ((w / 2 ^ (8 * (i % 4)):Nat):Int) = ((w / 2 ^ (8 * (i % 4)) % 256:Nat):Int):=by rw [wrap_u8]; rfl
 have e6:IntKind.i64.wrap ((i:Int) + 1) = ((i + 1:Nat):Int):=Vn (n:=i + 1) (by omega)
 have h5:i + 1 ≤ (u8s k).length:=by rw [X2,hl]; omega
 simp only [byI,Qis,Z0,Kf,Kn,K5,Xf,Ko,Jq,K6,Kr,Vc,guardOf,Zs,opd,Wj,Vp,Vb,Env.get,Env.put,Yc,Q4,Za,Zb,Xo,Vu,Kd,J4,St.after,Env.keep,if_true,if_false,ite_true,ite_false,Y3,V7,unV,Vy,Va,packed,reduceCtorEq,Jd,Je,Zv,Qf,Qb,Qh,Z1,Ja,Jf,beq_self_eq_true,Xx,J1,Ki,Kh,X8,K0,Kj,X3,K3,Kz,X4,Vg,Kl,J9,Kx,K4,X6,X5,Jw,X7,Ji,Jp,Jo,J7,Ju,J5,Jt,Jn,J8,J6,Xl,Jv,Kg,Xn,Kk,Ky,Xm,Km,Xa,Ob.fresh,Y8,Wp,Wu,Jg,and_self,true_and,and_true,Jh,Xy,Vk,Yn,Vh,Xb,Yk,Xc,Xj,false_and,decide_true,decide_false,Jr,Qp,Qn,Qo,Qd,Qm,Qg,Y1,Xk,Ye,Xz,Xq,Xr,Zq,Zp,Bg,Bf,Be,Bd,Zj,Ke,Jz,Xw,Xi,Ve,J3,h1,h1',h2,h2',h4,ho',hwc,e1,e2,e3,e4,e5,e6,h5,Qmm,U3]
theorem Qdj {H:List Ob} {id off cap v:Nat} (hr:Row .u32 H id off (dig 4294967296 8 v)) :
  ∃ l,V6 T 52 [.slice (some ⟨id,off,none⟩) 8 cap] H = some (.agg (u8s (dig 256 32 v)).toArray,H ++ l,[]):=by
 obtain ⟨s',hb,k,rfl,hlen,hk⟩:=Vi (T:=T) (base:=H.length) (id:=0) (body:=Qis)
  (fun i s => ∃ k,s = byI H (.slice (some ⟨id,off,none⟩) 8 cap) (i:Nat) k [] ∧ k.length = 32 ∧ ∀ t,t < i → k[t]? = some (v / 256 ^ t % 256))
  (Q:=fun s => ∃ k,s = byI H (.slice (some ⟨id,off,none⟩) 8 cap) 32 k [(6,.bool false)] ∧ k.length = 32 ∧ ∀ t,t < 32 → k[t]? = some (v / 256 ^ t % 256))
  32 (s:=byI H (.slice (some ⟨id,off,none⟩) 8 cap) ((0:Nat):Int) (dig 256 32 0) []) ⟨_,rfl,Kc _ _ _,fun t ht => by omega⟩
  (fun i s hi hs => by
   obtain ⟨k,rfl,hl,hk⟩:=hs
   refine ⟨_,Q14 hr (Kc _ _ _) hi (Uz (by omega)) hl,_,rfl,by rw [Xe]; exact hl,fun t ht => ?_⟩
   by_cases h:t = i
   ·subst h
    rw [Xp (by omega),Q13 rfl]
   ·rw [Jj (by omega)]
    exact hk t (by omega))
  (fun s hs => by
   obtain ⟨k,rfl,hl,hk⟩:=hs
   have h1:¬ (((32:Nat):Int) < (32:Int)):=by omega
   refine ⟨_,?_,k,rfl,hl,hk⟩
   simp only [byI,Qis,Z0,Kf,Kn,K5,Xf,Ko,Jq,K6,Kr,Vc,guardOf,Zs,opd,Wj,Vp,Vb,Env.get,Env.put,Yc,Q4,Za,Zb,Xo,Vu,Kd,J4,St.after,Env.keep,if_true,if_false,ite_true,ite_false,Y3,V7,unV,Vy,Va,packed,reduceCtorEq,Jd,Je,Zv,Qf,Qb,Qh,Z1,Ja,Jf,beq_self_eq_true,Xx,J1,Ki,Kh,X8,K0,Kj,X3,K3,Kz,X4,Vg,Kl,J9,Kx,K4,X6,X5,Jw,X7,Ji,Jp,Jo,J7,Ju,J5,Jt,Jn,J8,J6,Xl,Jv,Kg,Xn,Kk,Ky,Xm,Km,Xa,Ob.fresh,Y8,Wp,Wu,Jg,and_self,true_and,and_true,Jh,Xy,Vk,Yn,Vh,Xb,Yk,Xc,Xj,false_and,decide_true,decide_false,Jr,Qp,Qn,Qo,Qd,Qm,Qg,Y1,Xk,Ye,Xz,Xq,Xr,Zq,Zp,Bg,Bf,Be,Bd,Zj,Ke,Jz,Xw,Xi,Ve,J3,h1]
   rfl)
 have hkk:k = dig 256 32 v:=Qa8 hlen fun i hi => hk i hi
 subst hkk
 have hz:Qa 32 (Value.int .u8 0) = u8s (dig 256 32 0):=rfl
 have h1:0 + 32 ≤ (u8s (dig 256 32 v)).length:=by rw [X2,Kc]; omega
 have h1':32 ≤ (u8s (dig 256 32 v)).length:=by rw [X2,Kc]; omega
 have h2:((u8s (dig 256 32 v)).drop 0).take 32 = u8s (dig 256 32 v):=by rw [Q2,Zl (by rw [X2,Kc]; omega)]
 have h3:(u8s (dig 256 32 v)).length = 32:=by rw [X2,Kc]
 have h4:0 + (u8s (dig 256 32 v)).length ≤ (u8s (dig 256 32 0)).length:=by rw [X2,X2,Kc,Kc]; omega
 have h5:splice (u8s (dig 256 32 0)) 0 (u8s (dig 256 32 v)) = u8s (dig 256 32 v):=R9 (by rw [X2,X2,Kc,Kc])
 have h6:=Bx (H:=H) (r:=[⟨u8s (dig 256 32 v),true,true,true,1⟩]) (e:=true) (s:=1) h4
 rw [h5] at h6
 refine ⟨[⟨u8s (dig 256 32 v),true,true,true,1⟩,⟨u8s (dig 256 32 v),true,true,true,1⟩],?_⟩
 rw [show byI H (.slice (some ⟨id,off,none⟩) 8 cap) ((0:Nat):Int) (dig 256 32 0) [] = ⟨[(0,.slice (some ⟨id,off,none⟩) 8 cap),(2,.pointer (some ⟨H.length,0,none⟩)),(3,.pointer (some ⟨H.length + 1,0,none⟩)),(5,.int .i64 0)],H ++ [⟨u8s (dig 256 32 0),true,true,true,1⟩,⟨u8s (dig 256 32 0),true,true,true,1⟩],[]⟩ from rfl] at hb
 rw [Jc (fn:=a42) rfl]
 simp only [a42,Z0,Kf,Kn,K5,Xf,Ko,Jq,K6,Kr,Vc,guardOf,Zs,opd,Wj,Vp,Vb,Env.get,Env.put,Yc,Q4,Za,Zb,Xo,Vu,Kd,J4,St.after,Env.keep,if_true,if_false,ite_true,ite_false,Y3,V7,unV,Vy,Va,packed,reduceCtorEq,Jd,Je,Zv,Qf,Qb,Qh,Z1,Ja,Jf,beq_self_eq_true,Xx,J1,Ki,Kh,X8,K0,Kj,X3,K3,Kz,X4,Vg,Kl,J9,Kx,K4,X6,X5,Jw,X7,Ji,Jp,Jo,J7,Ju,J5,Jt,Jn,J8,J6,Xl,Jv,Kg,Xn,Kk,Ky,Xm,Km,Xa,Ob.fresh,Y8,Wp,Wu,Jg,and_self,true_and,and_true,Jh,Xy,Vk,Yn,Vh,Xb,Yk,Xc,Xj,false_and,decide_true,decide_false,Jr,Qp,Qn,Qo,Qd,Qm,Qg,Y1,Xk,Ye,Xz,Xq,Xr,Zq,Zp,Bg,Bf,Be,Bd,Zj,Ke,Jz,Xw,Xi,Ve,J3,hz,hb,byI,h1,h1',h2,Ve,J3,h3,h6,Z4,Jx]
theorem My {H:List Ob} {ws:List Nat}:Row .u32 (H ++ [Ob.fresh (X0 ws)]) H.length 0 ws:=⟨_,Y8,fun i x hx => by rw [Z1]; exact Bc hx⟩
theorem Qvs {H:List Ob} {ws:List Nat} {o:Ob}:Row .u32 (H ++ [⟨X0 ws,true,true,true,1⟩,o]) H.length 0 ws:=⟨_,Y8,fun i x hx => by rw [Z1]; exact Bc hx⟩
def Qti (l:List Nat):Value := .agg (u8s l).toArray
theorem Q3z:W4 32 32 none none none = some (0,32,32):=rfl
theorem M8 {n v:Nat}:∀ x ∈ dig 4294967296 n v,x < 4294967296:=fun x hx => Gs (by decide) hx
theorem Qf4 {l:List Nat} (hl:l.length = 32) (h:∀ x ∈ l,x < 256):num 256 l < 4294967296 ^ 8:=by
 have:=num_lt h
 rw [hl] at this
 rw [show (4294967296:Nat) ^ 8 = 256 ^ 32 from by decide]; exact this
theorem Qp5 {H:List Ob} {a b c:List Nat} (ha:Row .u8 H 0 0 a) (hb:Row .u8 H 1 0 b) (hc:Row .u8 H 2 0 c) (la:a.length = 32) (lb:b.length = 32) (lc:c.length = 32)
    (xa:∀ x ∈ a,x < 256) (xb:∀ x ∈ b,x < 256) (xc:∀ x ∈ c,x < 256) :
    ∃ k l l2,V6 T 48 [.slice (some ⟨0,0,none⟩) 32 32] H = some (.slice (some ⟨H.length,0,none⟩) 8 8,H ++ [Ob.fresh (X0 (dig 4294967296 8 (num 256 a)))],[]) ∧
      (let H5:=H ++ [Ob.fresh (X0 (dig 4294967296 8 (num 256 a)))]
       let H6:=H5 ++ [Ob.fresh (X0 (dig 4294967296 8 (num 256 b)))]
       let H7:=H6 ++ [Ob.fresh (X0 (dig 4294967296 16 (num 256 a * num 256 b)))]
       let H8:=H7 ++ [Ob.fresh (X0 (dig 4294967296 8 (num 256 c)))]
       let H10:=H8 ++ [⟨X0 (dig 4294967296 17 (num 256 a * num 256 b + num 256 c)),true,true,true,1⟩,⟨[.int .u32 0],true,true,true,1⟩]
       V6 T 48 [.slice (some ⟨1,0,none⟩) 32 32] H5 = some (.slice (some ⟨H5.length,0,none⟩) 8 8,H6,[]) ∧
       V6 T 49 [.slice (some ⟨H.length,0,none⟩) 8 8,.slice (some ⟨H5.length,0,none⟩) 8 8] H6 = some (.slice (some ⟨H6.length,0,none⟩) 16 16,H7,[]) ∧
       V6 T 48 [.slice (some ⟨2,0,none⟩) 32 32] H7 = some (.slice (some ⟨H7.length,0,none⟩) 8 8,H8,[]) ∧
       V6 T 50 [.slice (some ⟨H6.length,0,none⟩) 16 16,.slice (some ⟨H7.length,0,none⟩) 8 8] H8 = some (.slice (some ⟨H8.length,0,none⟩) 17 17,H10,[]) ∧
       V6 T 51 [.slice (some ⟨H8.length,0,none⟩) 17 17] H10 = some (.slice (some ⟨k,0,none⟩) 8 8,H10 ++ l,[]) ∧
       V6 T 52 [.slice (some ⟨k,0,none⟩) 8 8] (H10 ++ l) = some (Qti (dig 256 32 ((num 256 a * num 256 b + num 256 c) % ell)),H10 ++ l ++ l2,[])):=by
  have na:=Qf4 la xa
  have nb:=Qf4 lb xb
  have nc:=Qf4 lc xc
  have h1:=Qj3 (c:=32) ha la (by decide) xa
  have h2:=Qj3 (c:=32) (hb.app (l:=[Ob.fresh (X0 (dig 4294967296 8 (num 256 a)))])) lb (by decide) xb
  have r1:=(My (H:=H) (ws:=dig 4294967296 8 (num 256 a))).app (l:=[Ob.fresh (X0 (dig 4294967296 8 (num 256 b)))])
  have r2:=My (H:=H ++ [Ob.fresh (X0 (dig 4294967296 8 (num 256 a)))]) (ws:=dig 4294967296 8 (num 256 b))
  have h3:=Qu5 (c1:=8) (c2:=8) r1 r2 (Kc _ _ _) (Kc _ _ _) (by decide) M8 M8
  rw [U5 (by decide),U5 (by decide),Z3 na,Z3 nb] at h3
  have h4:=Qj3 (c:=32) (((hc.app (l:=[Ob.fresh (X0 (dig 4294967296 8 (num 256 a)))])).app (l:=[Ob.fresh (X0 (dig 4294967296 8 (num 256 b)))])).app (l:=[Ob.fresh (X0 (dig 4294967296 16 (num 256 a * num 256 b)))])) lc (by decide) xc
  have r3:=(My (H:=H ++ [Ob.fresh (X0 (dig 4294967296 8 (num 256 a)))] ++ [Ob.fresh (X0 (dig 4294967296 8 (num 256 b)))]) (ws:=dig 4294967296 16 (num 256 a * num 256 b))).app (l:=[Ob.fresh (X0 (dig 4294967296 8 (num 256 c)))])
  have r4:=My (H:=H ++ [Ob.fresh (X0 (dig 4294967296 8 (num 256 a)))] ++ [Ob.fresh (X0 (dig 4294967296 8 (num 256 b)))] ++ [Ob.fresh (X0 (dig 4294967296 16 (num 256 a * num 256 b)))]) (ws:=dig 4294967296 8 (num 256 c))
  have h5:=Q0e (c1:=16) (c2:=8) r3 r4 (Kc _ _ _) (Kc _ _ _) (by decide) (by decide) (by decide) M8 M8
  have nab:num 256 a * num 256 b < 4294967296 ^ 16:=by
    rw [show (4294967296:Nat) ^ 16 = 4294967296 ^ 8 * 4294967296 ^ 8 from by decide]
    exact Qoq na nb
  rw [U5 (by decide),U5 (by decide),Z3 nab,Z3 nc] at h5
  have r5:=Qvs (H:=H ++ [Ob.fresh (X0 (dig 4294967296 8 (num 256 a)))] ++ [Ob.fresh (X0 (dig 4294967296 8 (num 256 b)))] ++ [Ob.fresh (X0 (dig 4294967296 16 (num 256 a * num 256 b)))] ++ [Ob.fresh (X0 (dig 4294967296 8 (num 256 c)))]) (ws:=dig 4294967296 17 (num 256 a * num 256 b + num 256 c)) (o:=⟨[.int .u32 0],true,true,true,1⟩)
  obtain ⟨k,l,h6,r6⟩:=Qp8 (cap:=17) r5 (Kc _ _ _) (by decide) (by decide) M8
  have nabc:num 256 a * num 256 b + num 256 c < 4294967296 ^ 17:=by
    have:(4294967296:Nat) ^ 16 + 4294967296 ^ 8 ≤ 4294967296 ^ 17:=by decide
    omega
  rw [U5 (by decide),Z3 nabc] at r6
  obtain ⟨l2,h7⟩:=Qdj (cap:=8) r6
  exact ⟨k,l,l2,h1,h2,h3,h4,h5,h6,h7⟩
theorem Qta {a b c:List Nat} (la:a.length = 32) (lb:b.length = 32) (lc:c.length = 32) (xa:∀ x ∈ a,x < 256) (xb:∀ x ∈ b,x < 256) (xc:∀ x ∈ c,x < 256) :
  ∃ l,V6 T 18 [Qti a,Qti b,Qti c] [] = some (Qti (dig 256 32 ((num 256 a * num 256 b + num 256 c) % ell)),l,[]):=by
 have hz:Qa 32 (Value.int .u8 0) = u8s (dig 256 32 0):=rfl
 obtain ⟨H,hH⟩:∃ H:List Ob,H = [⟨u8s a,true,true,true,1⟩,⟨u8s b,true,true,true,1⟩,⟨u8s c,true,true,true,1⟩,⟨u8s (dig 256 32 0),true,true,true,1⟩]:=⟨_,rfl⟩
 have ra:Row .u8 H 0 0 a:=by subst hH; exact ⟨_,rfl,fun i x hx => by rw [Z1]; exact Wo hx⟩
 have rb:Row .u8 H 1 0 b:=by subst hH; exact ⟨_,rfl,fun i x hx => by rw [Z1]; exact Wo hx⟩
 have rc:Row .u8 H 2 0 c:=by subst hH; exact ⟨_,rfl,fun i x hx => by rw [Z1]; exact Wo hx⟩
 obtain ⟨k,l,l2,h1,h2,h3,h4,h5,h6,h7⟩:=Qp5 ra rb rc la lb lc xa xb xc
 generalize hR:dig 256 32 ((num 256 a * num 256 b + num 256 c) % ell) = R at *
 have lR:(u8s R).length = 32:=by rw [X2,← hR,Kc]
 generalize hH5:H ++ [Ob.fresh (X0 (dig 4294967296 8 (num 256 a)))] = H5 at h1 h2 h3 h4 h5 h6 h7
 generalize hH6:H5 ++ [Ob.fresh (X0 (dig 4294967296 8 (num 256 b)))] = H6 at h2 h3 h4 h5 h6 h7
 generalize hH7:H6 ++ [Ob.fresh (X0 (dig 4294967296 16 (num 256 a * num 256 b)))] = H7 at h3 h4 h5 h6 h7
 generalize hH8:H7 ++ [Ob.fresh (X0 (dig 4294967296 8 (num 256 c)))] = H8 at h4 h5 h6 h7
 generalize hH10:H8 ++ [⟨X0 (dig 4294967296 17 (num 256 a * num 256 b + num 256 c)),true,true,true,1⟩,⟨[.int .u32 0],true,true,true,1⟩] = H10 at h5 h6 h7
 generalize hH11:H10 ++ l = H11 at h6 h7
 generalize hG:H11 ++ l2 = G at h7
 obtain ⟨t,hGt⟩:∃ t,G = ⟨u8s a,true,true,true,1⟩ :: ⟨u8s b,true,true,true,1⟩ :: ⟨u8s c,true,true,true,1⟩ :: ⟨u8s (dig 256 32 0),true,true,true,1⟩ :: t:=by
  rw [← hG,← hH11,← hH10,← hH8,← hH7,← hH6,← hH5,hH]; exact ⟨_,rfl⟩
 have hst:storeAt G ⟨3,0,none⟩ (u8s R) = some (⟨u8s a,true,true,true,1⟩ :: ⟨u8s b,true,true,true,1⟩ :: ⟨u8s c,true,true,true,1⟩ :: ⟨u8s R,true,true,true,1⟩ :: t):=by
  rw [hGt]
  have h8:=Bx (H:=[⟨u8s a,true,true,true,1⟩,⟨u8s b,true,true,true,1⟩,⟨u8s c,true,true,true,1⟩]) (r:=t) (cs:=u8s (dig 256 32 0)) (e:=true) (s:=1) (off:=0) (v:=u8s R) (by rw [lR,X2,Kc]; omega)
  rw [R9 (by rw [lR,X2,Kc])] at h8
  exact h8
 have hlv:liveAt (⟨u8s a,true,true,true,1⟩ :: ⟨u8s b,true,true,true,1⟩ :: ⟨u8s c,true,true,true,1⟩ :: ⟨u8s R,true,true,true,1⟩ :: t) 3 = some ⟨u8s R,true,true,true,1⟩:=rfl
 have h9:((u8s R).drop 0).take 32 = u8s R:=by rw [Q2,Zl (by omega)]
 refine ⟨⟨u8s a,true,true,true,1⟩ :: ⟨u8s b,true,true,true,1⟩ :: ⟨u8s c,true,true,true,1⟩ :: ⟨u8s R,true,true,true,1⟩ :: t,?_⟩
 rw [Jc (fn:=a19) rfl]
 simp only [Qti] at h7 ⊢
 simp only [a19,Z0,Kf,Kn,K5,Xf,Ko,Jq,K6,Kr,Vc,guardOf,Zs,opd,Wj,Vp,Vb,Env.get,Env.put,Yc,Q4,Za,Zb,Xo,Vu,Kd,J4,St.after,Env.keep,if_true,if_false,ite_true,ite_false,Y3,V7,unV,Vy,Va,packed,reduceCtorEq,Jd,Je,Zv,Qf,Qb,Qh,Z1,Ja,Jf,beq_self_eq_true,Xx,J1,Ki,Kh,X8,K0,Kj,X3,K3,Kz,X4,Vg,Kl,J9,Kx,K4,X6,X5,Jw,X7,Ji,Jp,Jo,J7,Ju,J5,Jt,Jn,J8,J6,Xl,Jv,Kg,Xn,Kk,Ky,Xm,Km,Xa,Ob.fresh,Y8,Wp,Wu,Jg,and_self,true_and,and_true,Jh,Xy,Vk,Yn,Vh,Xb,Yk,Xc,Xj,false_and,decide_true,decide_false,Jr,Qp,Qn,Qo,Qd,Qm,Qg,Y1,Xk,Ye,Xz,Xq,Xr,Zq,Zp,Bg,Bf,Be,Bd,Zj,Ke,Jz,Xw,Xi,Ve,J3,hz,← hH,Q3z,h1,h2,h3,h4,h5,h6,h7,lR,hst,hlv,h9]
def k1 (n:Nat):List Nat:=n :: Qa 31 0
def Gh (a:List Nat) (x y:Nat):List Nat:=(a.set 0 (x &&& 248)).set 31 ((y &&& 127) ||| 64)
theorem Q2s {a b:Nat} (h:a < 256):a &&& b < 256:=Wk Nat.and_le_left h
theorem Qym {a:List Nat} {x y:Nat} (la:a.length = 32) (hx:a[0]? = some x) (hy:a[31]? = some y) (hx':x < 256) (hy':y < 256) :
  ∃ l,V6 T 36 [.agg (u8s a).toArray] [] = some (.agg (u8s (Gh a x y)).toArray,l,[]):=by
 have hz:Qa 32 (Value.int .u8 0) = u8s (dig 256 32 0):=rfl
 have hxc:=Wo hx
 have hyc:=Wo (l:=a.set 0 (x &&& 248)) (i:=31) (x:=y) (by rw [Jj (by decide)]; exact hy)
 have e1:Vz .and .u8 (x:Int) 248 = ((x &&& 248:Nat):Int):=R4 (k := .u8) (a:=x) (b:=248) rfl hx' (by decide)
 have e2:Vz .and .u8 (y:Int) 127 = ((y &&& 127:Nat):Int):=R4 (k := .u8) (a:=y) (b:=127) rfl hy' (by decide)
 have e3:Vz .or .u8 ((y &&& 127:Nat):Int) 64 = (((y &&& 127) ||| 64:Nat):Int):=Gk (k := .u8) (a:=y &&& 127) (b:=64) rfl (Q2s hy') (by decide)
 have l1:(u8s a).length = 32:=by rw [X2,la]
 have l2:(u8s (a.set 0 (x &&& 248))).length = 32:=by rw [X2,Xe,la]
 have l3:(u8s (Gh a x y)).length = 32:=by rw [X2,Gh,Xe,Xe,la]
 have s1:=Bx (H:=[]) (r:=[⟨u8s (dig 256 32 0),true,true,true,1⟩]) (cs:=u8s a) (e:=true) (s:=1) (off:=0) (v:=[.int .u8 ((x &&& 248:Nat):Int)]) (by rw [l1]; simp)
 rw [Xc,U3] at s1
 have s2:=Bx (H:=[]) (r:=[⟨u8s (dig 256 32 0),true,true,true,1⟩]) (cs:=u8s (a.set 0 (x &&& 248))) (e:=true) (s:=1) (off:=31) (v:=[.int .u8 (((y &&& 127) ||| 64:Nat):Int)]) (by rw [l2]; simp)
 rw [Xc,U3] at s2
 have s3:=Qmm (H:=[]) (a:=⟨u8s (Gh a x y),true,true,true,1⟩) (r:=[]) (cs:=u8s (dig 256 32 0)) (e:=true) (s:=1) (off:=0) (v:=u8s (Gh a x y)) (by rw [l3,X2,Kc]; decide)
 rw [R9 (by rw [l3,X2,Kc])] at s3
 have t3:((u8s (Gh a x y)).drop 0).take 32 = u8s (Gh a x y):=by rw [Q2,Zl (by omega)]
 have v0:∀ (p q:List Value),liveAt [⟨p,true,true,true,1⟩,⟨q,true,true,true,1⟩] 0 = some ⟨p,true,true,true,1⟩:=fun _ _ => rfl
 have v1:∀ (p q:List Value),liveAt [⟨p,true,true,true,1⟩,⟨q,true,true,true,1⟩] 1 = some ⟨q,true,true,true,1⟩:=fun _ _ => rfl
 have i0:((0:Int) < ((32:Nat):Int)):=by decide
 have i31:((31:Int) < ((32:Nat):Int)):=by decide
 simp only [Za,Jf] at s1 s2 s3
 rw [show (a.set 0 (x &&& 248)).set 31 ((y &&& 127) ||| 64) = Gh a x y from rfl] at s2
 simp only [Z1] at s3
 refine ⟨[⟨u8s (Gh a x y),true,true,true,1⟩,⟨u8s (Gh a x y),true,true,true,1⟩],?_⟩
 rw [Jc (fn:=a16) rfl]
 simp only [a16,Z0,Kf,Kn,K5,Xf,Ko,Jq,K6,Kr,Vc,guardOf,Zs,opd,Wj,Vp,Vb,Env.get,Env.put,Yc,Q4,Za,Zb,Xo,Vu,Kd,J4,St.after,Env.keep,if_true,if_false,ite_true,ite_false,Y3,V7,unV,Vy,Va,packed,reduceCtorEq,Jd,Je,Zv,Qf,Qb,Qh,Z1,Ja,Jf,beq_self_eq_true,Xx,J1,Ki,Kh,X8,K0,Kj,X3,K3,Kz,X4,Vg,Kl,J9,Kx,K4,X6,X5,Jw,X7,Ji,Jp,Jo,J7,Ju,J5,Jt,Jn,J8,J6,Xl,Jv,Kg,Xn,Kk,Ky,Xm,Km,Xa,Ob.fresh,Y8,Wp,Wu,Jg,and_self,true_and,and_true,Jh,Xy,Vk,Yn,Vh,Xb,Yk,Xc,Xj,false_and,decide_true,decide_false,Jr,Qp,Qn,Qo,Qd,Qm,Qg,Y1,Xk,Ye,Xz,Xq,Xr,Zq,Zp,Bg,Bf,Be,Bd,Zj,Ke,Jz,Xw,Xi,Ve,J3,hz,hxc,hyc,e1,e2,e3,i0,i31,v0,v1,s1,s2,l3,t3,s3]
theorem Qrd (b:Bool):rf (.bool b) = true:=rfl
theorem v0 (p q:List Value):liveAt [⟨p,true,true,true,1⟩,⟨q,true,true,true,1⟩] 0 = some ⟨p,true,true,true,1⟩:=rfl
theorem v1 (p q:List Value):liveAt [⟨p,true,true,true,1⟩,⟨q,true,true,true,1⟩] 1 = some ⟨q,true,true,true,1⟩:=rfl
end Go.Ev.YtgacigcbglflkaaGreat
namespace Go.Ev.YtgacigcbglflkaaGreat
open Go Go.Ev
attribute [local congr] Dp
set_option maxRecDepth 100000
structure LessInv (k:Nat) (ws os:List Nat) (b:Nat):Prop where
 ble:b ≤ 1
 eq:∃ z,z < 4294967296 ^ k ∧ num 4294967296 (ws.take k) + b * 4294967296 ^ k = num 4294967296 (os.take k) + z
theorem LessInv.step {k b x y:Nat} {ws os:List Nat} (h:LessInv k ws os b) (hx:ws[k]? = some x) (hy:os[k]? = some y) (hx':x < 4294967296) (hy':y < 4294967296):LessInv (k + 1) ws os (Qbn x y b):=by
 have hb:=h.ble
 have hd:Qbm x y b < 4294967296 ∧ x + 4294967296 * Qbn x y b = y + b + Qbm x y b ∧ Qbn x y b ≤ 1:=by
  unfold Qbm Qbn; split <;> omega
 refine ⟨hd.2.2,?_⟩
 obtain ⟨z,hz,h2⟩:=h.eq
 rw [Wn hx,Wn hy]
 have h3:=hd.2.1
 have h4:=hd.1
 generalize Qbm x y b = d at *
 generalize Qbn x y b = q at *
 refine ⟨z + d * 4294967296 ^ k,?_,?_⟩
 ·have:(d + 1) * 4294967296 ^ k ≤ 4294967296 * 4294967296 ^ k:=Vt _ h4
  rw [Kt,Wm] at this
  rw [Kq,K7 (4294967296 ^ k)]
  omega
 ·have e2:q * 4294967296 ^ (k + 1) = 4294967296 * q * 4294967296 ^ k:=by
   rw [Kq]; simp only [Vo,Wf,K7]
  have e3:(x + 4294967296 * q) * 4294967296 ^ k = (y + b + d) * 4294967296 ^ k:=by rw [h3]
  rw [Kt,Kt,Kt] at e3
  rw [e2]
  omega
def Qc9 (H:List Ob) (s1 s2:Value) (n b k:Nat) (ex:Env):St:=⟨[(0,s1),(1,s2),(5,.int .u32 b),(8,.int .i64 n),(9,.int .i64 k)] ++ ex,H,[]⟩
theorem Qtg {H:List Ob} {id1 off1 c1 id2 off2 c2 n b k x y:Nat} {ws os:List Nat} (hr1:Row .u32 H id1 off1 ws) (hr2:Row .u32 H id2 off2 os) (hN:n < 2 ^ 40) (hk:k < n) (hx:ws[k]? = some x) (hy:os[k]? = some y) (hx':x < 4294967296) (hy':y < 4294967296) (hb:b ≤ 1) :
  Jl T H.length Qim (Qc9 H (.slice (some ⟨id1,off1,none⟩) n c1) (.slice (some ⟨id2,off2,none⟩) n c2) n b k []) = some (.normal,Qc9 H (.slice (some ⟨id1,off1,none⟩) n c1) (.slice (some ⟨id2,off2,none⟩) n c2) n (Qbn x y b) (k + 1) []):=by
 obtain ⟨o1,ho1,hc1⟩:=hr1
 obtain ⟨o2,ho2,hc2⟩:=hr2
 have hxc:=hc1 k x hx
 have hyc:=hc2 k y hy
 have h1:((k:Int) < (n:Int)):=by omega
 have hsub:=Qgj hx' hy' hb
 have e10:IntKind.i64.wrap ((k:Int) + 1) = ((k + 1:Nat):Int):=Vn (n:=k + 1) (by omega)
 simp only [Qc9,Qim,Z0,Kf,Kn,K5,Xf,Ko,Jq,K6,Kr,Vc,guardOf,Zs,opd,Wj,Vp,Vb,Env.get,Env.put,Yc,Q4,Za,Zb,Xo,Vu,Kd,J4,St.after,Env.keep,if_true,if_false,ite_true,ite_false,Y3,V7,unV,Vy,Va,packed,reduceCtorEq,Jd,Je,Zv,Qf,Qb,Qh,Z1,Ja,Jf,beq_self_eq_true,Xx,J1,Ki,Kh,X8,K0,Kj,X3,K3,Kz,X4,Vg,Kl,J9,Kx,K4,X6,X5,Jw,X7,Ji,Jp,Jo,J7,Ju,J5,Jt,Jn,J8,J6,Xl,Jv,Kg,Xn,Kk,Ky,Xm,Km,Xa,Ob.fresh,Y8,Wp,Wu,Jg,and_self,true_and,and_true,Jh,Xy,Vk,Yn,Vh,Xb,Yk,Xc,Xj,false_and,decide_true,decide_false,Jr,Qp,Qn,Qo,Qd,Qm,Qg,Y1,Xk,Ye,Xz,Xq,Xr,Zq,Zp,Bg,Bf,Be,Bd,Zj,Ke,Jz,Xw,Xi,Ve,J3,h1,ho1,ho2,hxc,hyc,hsub,e10]
theorem Q08 {H:List Ob} {id1 off1 c1 id2 off2 c2 n:Nat} {ws os:List Nat} (hr1:Row .u32 H id1 off1 ws) (hr2:Row .u32 H id2 off2 os) (hn:ws.length = n) (hm:os.length = n) (hN:n < 2 ^ 40) (hws:∀ x ∈ ws,x < 4294967296) (hos:∀ x ∈ os,x < 4294967296) :
  V6 T 68 [.slice (some ⟨id1,off1,none⟩) n c1,.slice (some ⟨id2,off2,none⟩) n c2] H = some (.bool (decide (num 4294967296 ws < num 4294967296 os)),H,[]):=by
 obtain ⟨s',hb,b,rfl,hinv⟩:=Vi (T:=T) (base:=H.length) (id:=0) (body:=Qim)
  (fun k s => ∃ b,s = Qc9 H (.slice (some ⟨id1,off1,none⟩) n c1) (.slice (some ⟨id2,off2,none⟩) n c2) n b k [] ∧ LessInv k ws os b)
  (Q:=fun s => ∃ b,s = Qc9 H (.slice (some ⟨id1,off1,none⟩) n c1) (.slice (some ⟨id2,off2,none⟩) n c2) n b n [(10,.bool false)] ∧ LessInv n ws os b)
  n (s:=Qc9 H (.slice (some ⟨id1,off1,none⟩) n c1) (.slice (some ⟨id2,off2,none⟩) n c2) n 0 0 []) ⟨_,rfl,⟨by decide,0,by decide,by simp [num]⟩⟩
  (fun k s hk hs => by
   obtain ⟨b,rfl,hI⟩:=hs
   obtain ⟨x,hx⟩:∃ x,ws[k]? = some x:=⟨_,Q1 (by omega)⟩
   obtain ⟨y,hy⟩:∃ y,os[k]? = some y:=⟨_,Q1 (by omega)⟩
   have hx':=hws x (Zk hx)
   have hy':=hos y (Zk hy)
   exact ⟨_,Qtg hr1 hr2 hN hk hx hy hx' hy' hI.ble,_,rfl,hI.step hx hy hx' hy'⟩)
  (fun s hs => by
   obtain ⟨b,rfl,hI⟩:=hs
   have h1:¬ ((n:Int) < (n:Int)):=by omega
   refine ⟨_,?_,b,rfl,hI⟩
   simp only [Qc9,Qim,Z0,Kf,Kn,K5,Xf,Ko,Jq,K6,Kr,Vc,guardOf,Zs,opd,Wj,Vp,Vb,Env.get,Env.put,Yc,Q4,Za,Zb,Xo,Vu,Kd,J4,St.after,Env.keep,if_true,if_false,ite_true,ite_false,Y3,V7,unV,Vy,Va,packed,reduceCtorEq,Jd,Je,Zv,Qf,Qb,Qh,Z1,Ja,Jf,beq_self_eq_true,Xx,J1,Ki,Kh,X8,K0,Kj,X3,K3,Kz,X4,Vg,Kl,J9,Kx,K4,X6,X5,Jw,X7,Ji,Jp,Jo,J7,Ju,J5,Jt,Jn,J8,J6,Xl,Jv,Kg,Xn,Kk,Ky,Xm,Km,Xa,Ob.fresh,Y8,Wp,Wu,Jg,and_self,true_and,and_true,Jh,Xy,Vk,Yn,Vh,Xb,Yk,Xc,Xj,false_and,decide_true,decide_false,Jr,Qp,Qn,Qo,Qd,Qm,Qg,Y1,Xk,Ye,Xz,Xq,Xr,Zq,Zp,Bg,Bf,Be,Bd,Zj,Ke,Jz,Xw,Xi,Ve,J3,h1])
 rw [show Qc9 H (.slice (some ⟨id1,off1,none⟩) n c1) (.slice (some ⟨id2,off2,none⟩) n c2) n 0 0 [] = ⟨[(0,.slice (some ⟨id1,off1,none⟩) n c1),(1,.slice (some ⟨id2,off2,none⟩) n c2),(5,.int .u32 0),(8,.int .i64 n),(9,.int .i64 0)],H,[]⟩ from rfl] at hb
 obtain ⟨z,hz,h2⟩:=hinv.eq
 rw [Zl (by omega),Zl (by omega)] at h2
 have h3:=num_lt hws
 rw [hn] at h3
 have hble:=hinv.ble
 have hres:(((b:Nat):Int) == 1) = decide (num 4294967296 ws < num 4294967296 os):=by
  rcases V5 0 b with h | h
  ·have hb1:b = 1:=by omega
   subst hb1
   have:num 4294967296 ws < num 4294967296 os:=by omega
   simp [this]
  ·have hb0:b = 0:=by omega
   subst hb0
   have:¬ num 4294967296 ws < num 4294967296 os:=by omega
   simp [this]
 rw [Jc (fn:=a46) rfl]
 simp only [a46,Z0,Kf,Kn,K5,Xf,Ko,Jq,K6,Kr,Vc,guardOf,Zs,opd,Wj,Vp,Vb,Env.get,Env.put,Yc,Q4,Za,Zb,Xo,Vu,Kd,J4,St.after,Env.keep,if_true,if_false,ite_true,ite_false,Y3,V7,unV,Vy,Va,packed,reduceCtorEq,Jd,Je,Zv,Qf,Qb,Qh,Z1,Ja,Jf,beq_self_eq_true,Xx,J1,Ki,Kh,X8,K0,Kj,X3,K3,Kz,X4,Vg,Kl,J9,Kx,K4,X6,X5,Jw,X7,Ji,Jp,Jo,J7,Ju,J5,Jt,Jn,J8,J6,Xl,Jv,Kg,Xn,Kk,Ky,Xm,Km,Xa,Ob.fresh,Y8,Wp,Wu,Jg,and_self,true_and,and_true,Jh,Xy,Vk,Yn,Vh,Xb,Yk,Xc,Xj,false_and,decide_true,decide_false,Jr,Qp,Qn,Qo,Qd,Qm,Qg,Y1,Xk,Ye,Xz,Xq,Xr,Zq,Zp,Bg,Bf,Be,Bd,Zj,Ke,Jz,Xw,Xi,Ve,J3,hb,Qc9,hres]
end Go.Ev.YtgacigcbglflkaaGreat
set_option linter.unusedSimpArgs false
set_option linter.unusedVariables false
namespace Go.Ev.YtgacigcbglflkaaGreat
open Go Go.Ev
attribute [local congr] Dp
set_option maxRecDepth 100000
theorem Qls {a:List Nat} (la:a.length = 32) (xa:∀ x ∈ a,x < 256):∃ l,V6 T 28 [.agg (u8s a).toArray] [] = some (.bool (decide (num 256 a < ell)),l,[]):=by
 obtain ⟨H,hH⟩:∃ H:List Ob,H = [⟨u8s a,true,true,true,1⟩]:=⟨_,rfl⟩
 have ra:Row .u8 H 0 0 a:=by subst hH; exact ⟨_,rfl,fun i x hx => by rw [Z1]; exact Wo hx⟩
 have h1:=Qj3 (c:=32) ra la (by decide) xa
 have r1:=(My (H:=H) (ws:=dig 4294967296 8 (num 256 a))).app (l:=[Ob.fresh (X0 orderW)])
 have h2:=Qg6 (H ++ [Ob.fresh (X0 (dig 4294967296 8 (num 256 a)))])
 have r2:=My (H:=H ++ [Ob.fresh (X0 (dig 4294967296 8 (num 256 a)))]) (ws:=orderW)
 have h3:=Q08 (c1:=8) (c2:=8) r1 r2 (Kc _ _ _) rfl (by decide) M8 Qc3
 rw [U5 (by decide),Z3 (Qf4 la xa),Qr1] at h3
 change V6 T 48 _ H = some (.slice (some ⟨H.length,0,none⟩) 8 8,H ++ [Ob.fresh (X0 (dig 4294967296 8 (num 256 a)))],[]) at h1
 generalize hH5:H ++ [Ob.fresh (X0 (dig 4294967296 8 (num 256 a)))] = H5 at h1 h2 h3
 generalize hH6:H5 ++ [Ob.fresh (X0 orderW)] = H6 at h2 h3
 refine ⟨H6,?_⟩
 rw [Jc (fn:=a21) rfl]
 simp only [a21,Z0,Kf,Kn,K5,Xf,Ko,Jq,K6,Kr,Vc,guardOf,Zs,opd,Wj,Vp,Vb,Env.get,Env.put,Yc,Q4,Za,Zb,Xo,Vu,Kd,J4,St.after,Env.keep,if_true,if_false,ite_true,ite_false,Y3,V7,unV,Vy,Va,packed,reduceCtorEq,Jd,Je,Zv,Qf,Qb,Qh,Z1,Ja,Jf,beq_self_eq_true,Xx,J1,Ki,Kh,X8,K0,Kj,X3,K3,Kz,X4,Vg,Kl,J9,Kx,K4,X6,X5,Jw,X7,Ji,Jp,Jo,J7,Ju,J5,Jt,Jn,J8,J6,Xl,Jv,Kg,Xn,Kk,Ky,Xm,Km,Xa,Ob.fresh,Y8,Wp,Wu,Jg,and_self,true_and,and_true,Jh,Xy,Vk,Yn,Vh,Xb,Yk,Xc,Xj,false_and,decide_true,decide_false,Jr,Qp,Qn,Qo,Qd,Qm,Qg,Y1,Xk,Ye,Xz,Xq,Xr,Zq,Zp,Bg,Bf,Be,Bd,Zj,Ke,Jz,Xw,Xi,Ve,J3,← hH,Q3z,h1,h2,h3]
def Qy1 (k:IntKind) (H:List Ob) (id off:Nat) (ps:List (List Nat)):Prop :=
 ∃ o,liveAt H id = some o ∧ ∀ (i:Nat) (p:List Nat),ps[i]? = some p → ∃ v,o.cells[off + i]? = some v ∧ Sl k H v p
def Qk2 (R s pv:Value) (n i:Nat) (H:List Ob) (ex:Env):St:=⟨[(2,R),(3,s),(6,pv),(7,.int .i64 n),(8,.int .i64 i)] ++ ex,H,[]⟩
theorem Qkc {ps:List (List Nat)} {i:Nat} {p:List Nat} (h:ps[i]? = some p):(ps.take (i + 1)).flatten = (ps.take i).flatten ++ p:=by
 rw [Yf,h]; simp
theorem Qx5 {ps:List (List Nat)} {i:Nat} {p:List Nat} (h:ps[i]? = some p):(ps.take i).flatten.length + p.length ≤ ps.flatten.length:=by
 have h1:=congrArg List.length (Qkc h)
 rw [Z4] at h1
 rw [← h1]
 conv => rhs; rw [← W1 (i + 1) ps,Wa,Z4]
 omega
theorem Qvz {H Hc:List Ob} {R s:Value} {id off c n i:Nat} {ps:List (List Nat)} {p:List Nat} (hp:Qy1 .u8 H id off ps) (hi:i < n) (hN:n < 2 ^ 40) (hpi:ps[i]? = some p) (hS:ps.flatten.length ≤ 2 ^ 40)
  (hB:H.length + 1 ≤ Hc.length) (hc:∀ j,j < H.length → Hc[j]? = H[j]?) (hg:Grown .u8 (H.length + 1) Hc s ((ps.take i).flatten)) :
  ∃ s' H',Jl T H.length Qix (Qk2 R s (.slice (some ⟨id,off,none⟩) n c) n i Hc []) = some (.normal,Qk2 R s' (.slice (some ⟨id,off,none⟩) n c) n (i + 1) H' []) ∧
   H.length + 1 ≤ H'.length ∧ (∀ j,j < H.length + 1 → H'[j]? = Hc[j]?) ∧ Grown .u8 (H.length + 1) H' s' ((ps.take (i + 1)).flatten):=by
 obtain ⟨o,ho,hps⟩:=hp
 obtain ⟨v,hv,hsl⟩:=hps i p hpi
 have ho':liveAt Hc id = some o:=by rw [Th (hc _ (Qj6 ho))]; exact ho
 have hsl':=hsl.congr hc
 have hlen:=Qx5 hpi
 obtain ⟨s',H',M,ha,hg',hM,hL,hK⟩:=hg.append (bytes:=1) hB hsl'.lenV hsl'.elems (by omega) (by decide)
 have h1:((i:Int) < (n:Int)):=by omega
 have e10:IntKind.i64.wrap ((i:Int) + 1) = ((i + 1:Nat):Int):=Vn (n:=i + 1) (by omega)
 have hm:Xo H.length [] M = []:=Yi fun j hj => by have:=hM j hj; omega
 refine ⟨s',H',?_,by omega,hK,by rw [Qkc hpi]; exact hg'⟩
 simp only [Qk2,Qix,Z0,Kf,Kn,K5,Xf,Ko,Jq,K6,Kr,Vc,guardOf,Zs,opd,Wj,Vp,Vb,Env.get,Env.put,Yc,Q4,Za,Zb,Xo,Vu,Kd,J4,St.after,Env.keep,if_true,if_false,ite_true,ite_false,Y3,V7,unV,Vy,Va,packed,reduceCtorEq,Jd,Je,Zv,Qf,Qb,Qh,Z1,Ja,Jf,beq_self_eq_true,Xx,J1,Ki,Kh,X8,K0,Kj,X3,K3,Kz,X4,Vg,Kl,J9,Kx,K4,X6,X5,Jw,X7,Ji,Jp,Jo,J7,Ju,J5,Jt,Jn,J8,J6,Xl,Jv,Kg,Xn,Kk,Ky,Xm,Km,Xa,Ob.fresh,Y8,Wp,Wu,Jg,and_self,true_and,and_true,Jh,Xy,Vk,Yn,Vh,Xb,Yk,Xc,Xj,false_and,decide_true,decide_false,Jr,Qp,Qn,Qo,Qd,Qm,Qg,Y1,Xk,Ye,Xz,Xq,Xr,Zq,Zp,Bg,Bf,Be,Bd,Zj,Ke,Jz,Xw,Xi,Ve,J3,h1,ho',hv,e10,ha,hm]
theorem of_nil (H:List Ob):V6 T 48 [.slice none 0 0] H = some (.slice (some ⟨H.length,0,none⟩) 0 0,H ++ [Ob.fresh []],[]):=by
 have hl:Jl T H.length (.loop Qck) ⟨[(3,.slice (some ⟨H.length,0,none⟩) 0 0),(11,.slice none 0 0),(12,.int .i64 0),(13,.int .i64 0)],H ++ [⟨[],true,true,true,1⟩],[]⟩ = some (.exit 0,⟨[(3,.slice (some ⟨H.length,0,none⟩) 0 0),(11,.slice none 0 0),(12,.int .i64 0),(13,.int .i64 0),(14,.bool false)],H ++ [⟨[],true,true,true,1⟩],[]⟩):=by
  rw [Yy]
  simp only [Qck,Z0,Kf,Kn,K5,Xf,Ko,Jq,K6,Kr,Vc,guardOf,Zs,opd,Wj,Vp,Vb,Env.get,Env.put,Yc,Q4,Za,Zb,Xo,Vu,Kd,J4,St.after,Env.keep,if_true,if_false,ite_true,ite_false,Y3,V7,unV,Vy,Va,packed,reduceCtorEq,Jd,Je,Zv,Qf,Qb,Qh,Z1,Ja,Jf,beq_self_eq_true,Xx,J1,Ki,Kh,X8,K0,Kj,X3,K3,Kz,X4,Vg,Kl,J9,Kx,K4,X6,X5,Jw,X7,Ji,Jp,Jo,J7,Ju,J5,Jt,Jn,J8,J6,Xl,Jv,Kg,Xn,Kk,Ky,Xm,Km,Xa,Ob.fresh,Y8,Wp,Wu,Jg,and_self,true_and,and_true,Jh,Xy,Vk,Yn,Vh,Xb,Yk,Xc,Xj,false_and,decide_true,decide_false,Jr,Qp,Qn,Qo,Qd,Qm,Qg,Y1,Xk,Ye,Xz,Xq,Xr,Zq,Zp,Bg,Bf,Be,Bd,Zj,Ke,Jz,Xw,Xi,Ve,J3,cL,Qo,Qn,Qx,Qw,Qu,Ql,Qk,Qv,Qd,Qz,Q0,Qq,Qf,Qh,Qg,Qt,Qs,Qr,Qm,Qe]
 rw [Jc (fn:=a40) rfl]
 simp only [a40,Z0,Kf,Kn,K5,Xf,Ko,Jq,K6,Kr,Vc,guardOf,Zs,opd,Wj,Vp,Vb,Env.get,Env.put,Yc,Q4,Za,Zb,Xo,Vu,Kd,J4,St.after,Env.keep,if_true,if_false,ite_true,ite_false,Y3,V7,unV,Vy,Va,packed,reduceCtorEq,Jd,Je,Zv,Qf,Qb,Qh,Z1,Ja,Jf,beq_self_eq_true,Xx,J1,Ki,Kh,X8,K0,Kj,X3,K3,Kz,X4,Vg,Kl,J9,Kx,K4,X6,X5,Jw,X7,Ji,Jp,Jo,J7,Ju,J5,Jt,Jn,J8,J6,Xl,Jv,Kg,Xn,Kk,Ky,Xm,Km,Xa,Ob.fresh,Y8,Wp,Wu,Jg,and_self,true_and,and_true,Jh,Xy,Vk,Yn,Vh,Xb,Yk,Xc,Xj,false_and,decide_true,decide_false,Jr,Qp,Qn,Qo,Qd,Qm,Qg,Y1,Xk,Ye,Xz,Xq,Xr,Zq,Zp,Bg,Bf,Be,Bd,Zj,Ke,Jz,Xw,Xi,Ve,J3,cL,Qo,Qn,Qx,Qw,Qu,Ql,Qk,Qv,Qd,Qz,Q0,Qq,Qf,Qh,Qg,Qt,Qs,Qr,Qm,Qe,List.replicate_zero,Ud,hl]
theorem Q07 (H:List Ob) (id:Nat):V6 T 51 [.slice (some ⟨id,0,none⟩) 0 0] H = some (.slice (some ⟨H.length,0,none⟩) 8 8,H ++ [⟨X0 (dig 4294967296 8 0),true,true,true,1⟩,⟨X0 orderW,true,true,true,1⟩,⟨X0 (dig 4294967296 8 0),true,true,true,1⟩],[]):=by
 have hz:(Qa 8 [Value.int .u32 0]).flatten = X0 (dig 4294967296 8 0):=rfl
 have ho:=Qg6 (H ++ [⟨X0 (dig 4294967296 8 0),true,true,true,1⟩])
 have hl:Jl T H.length (.loop Hb) ⟨[(0,.slice (some ⟨id,0,none⟩) 0 0),(3,.slice (some ⟨H.length,0,none⟩) 8 8),(4,.slice (some ⟨H.length + 1,0,none⟩) 8 8),(5,.slice (some ⟨H.length + 2,0,none⟩) 8 8),(6,.int .i64 (-1))],H ++ [⟨X0 (dig 4294967296 8 0),true,true,true,1⟩,⟨X0 orderW,true,true,true,1⟩,⟨X0 (dig 4294967296 8 0),true,true,true,1⟩],[]⟩ = some (.exit 0,⟨[(0,.slice (some ⟨id,0,none⟩) 0 0),(3,.slice (some ⟨H.length,0,none⟩) 8 8),(4,.slice (some ⟨H.length + 1,0,none⟩) 8 8),(5,.slice (some ⟨H.length + 2,0,none⟩) 8 8),(6,.int .i64 (-1)),(19,.bool false)],H ++ [⟨X0 (dig 4294967296 8 0),true,true,true,1⟩,⟨X0 orderW,true,true,true,1⟩,⟨X0 (dig 4294967296 8 0),true,true,true,1⟩],[]⟩):=by
  rw [Yy]
  have e:((0:Int) ≤ -1) = False:=by decide
  simp only [Hb,Z0,Kf,Kn,K5,Xf,Ko,Jq,K6,Kr,Vc,guardOf,Zs,opd,Wj,Vp,Vb,Env.get,Env.put,Yc,Q4,Za,Zb,Xo,Vu,Kd,J4,St.after,Env.keep,if_true,if_false,ite_true,ite_false,Y3,V7,unV,Vy,Va,packed,reduceCtorEq,Jd,Je,Zv,Qf,Qb,Qh,Z1,Ja,Jf,beq_self_eq_true,Xx,J1,Ki,Kh,X8,K0,Kj,X3,K3,Kz,X4,Vg,Kl,J9,Kx,K4,X6,X5,Jw,X7,Ji,Jp,Jo,J7,Ju,J5,Jt,Jn,J8,J6,Xl,Jv,Kg,Xn,Kk,Ky,Xm,Km,Xa,Ob.fresh,Y8,Wp,Wu,Jg,and_self,true_and,and_true,Jh,Xy,Vk,Yn,Vh,Xb,Yk,Xc,Xj,false_and,decide_true,decide_false,Jr,Qp,Qn,Qo,Qd,Qm,Qg,Y1,Xk,Ye,Xz,Xq,Xr,Zq,Zp,Bg,Bf,Be,Bd,Zj,Ke,Jz,Xw,Xi,Ve,J3,cL,Qo,Qn,Qx,Qw,Qu,Ql,Qk,Qv,Qd,Qz,Q0,Qq,Qf,Qh,Qg,Qt,Qs,Qr,Qm,Qe,e]
 rw [Jc (fn:=a41) rfl]
 simp only [a41,Z0,Kf,Kn,K5,Xf,Ko,Jq,K6,Kr,Vc,guardOf,Zs,opd,Wj,Vp,Vb,Env.get,Env.put,Yc,Q4,Za,Zb,Xo,Vu,Kd,J4,St.after,Env.keep,if_true,if_false,ite_true,ite_false,Y3,V7,unV,Vy,Va,packed,reduceCtorEq,Jd,Je,Zv,Qf,Qb,Qh,Z1,Ja,Jf,beq_self_eq_true,Xx,J1,Ki,Kh,X8,K0,Kj,X3,K3,Kz,X4,Vg,Kl,J9,Kx,K4,X6,X5,Jw,X7,Ji,Jp,Jo,J7,Ju,J5,Jt,Jn,J8,J6,Xl,Jv,Kg,Xn,Kk,Ky,Xm,Km,Xa,Ob.fresh,Y8,Wp,Wu,Jg,and_self,true_and,and_true,Jh,Xy,Vk,Yn,Vh,Xb,Yk,Xc,Xj,false_and,decide_true,decide_false,Jr,Qp,Qn,Qo,Qd,Qm,Qg,Y1,Xk,Ye,Xz,Xq,Xr,Zq,Zp,Bg,Bf,Be,Bd,Zj,Ke,Jz,Xw,Xi,Ve,J3,cL,Qo,Qn,Qx,Qw,Qu,Ql,Qk,Qv,Qd,Qz,Q0,Qq,Qf,Qh,Qg,Qt,Qs,Qr,Qm,Qe,hz,ho,hl,Z4,Jx,Ka,Ob.fresh]
theorem Qsk {H:List Ob} {id:Nat} {bs:List Nat} (h:H[id]? = some (Ob.fresh (ns .u8 bs))):Row .u8 H id 0 bs :=
 ⟨_,Yg h rfl,fun i x hx => by rw [Z1]; exact Yo hx⟩
theorem Qsj {H:List Ob} {id:Nat} {bs:List Nat} (h:H[id]? = some (Ob.grown 1 (ns .u8 bs))):Row .u8 H id 0 bs :=
 ⟨_,Yg h rfl,fun i x hx => by rw [Z1]; exact Yo hx⟩
theorem Qvy {B:Nat} {H:List Ob} {s:Value} {bs:List Nat} (hg:Grown .u8 B H s bs) (hb:∀ x ∈ bs,x < 256) (hN:bs.length < 2 ^ 40) :
  ∃ v1 v2 l1 l2 l3,V6 T 48 [s] H = some (v1,H ++ l1,[]) ∧ V6 T 51 [v1] (H ++ l1) = some (v2,H ++ l1 ++ l2,[]) ∧ V6 T 52 [v2] (H ++ l1 ++ l2) = some (.agg (u8s (dig 256 32 (num 256 bs % ell))).toArray,H ++ l1 ++ l2 ++ l3,[]):=by
 cases hg with
 | nil =>
  have h1:=of_nil H
  have h2:=Q07 (H ++ [Ob.fresh []]) H.length
  have r:Row .u32 (H ++ [Ob.fresh []] ++ [⟨X0 (dig 4294967296 8 0),true,true,true,1⟩,⟨X0 orderW,true,true,true,1⟩,⟨X0 (dig 4294967296 8 0),true,true,true,1⟩]) (H ++ [Ob.fresh []]).length 0 (dig 4294967296 8 0) :=
   ⟨_,Y8,fun i x hx => by rw [Z1]; exact Bc hx⟩
  obtain ⟨l3,h3⟩:=Qdj (cap:=8) r
  exact ⟨_,_,_,_,l3,h1,h2,h3⟩
 | @own id _ g1 g2 g3 =>
  have h1:=Qj3 (c:=bs.length) (Qsj g3) rfl hN hb
  have hlt:num 256 bs < 4294967296 ^ ((bs.length + 3) / 4):=by
   refine X1 (num_lt hb) ?_
   rw [show (4294967296:Nat) = 256 ^ 4 from by decide,← Yp]
   exact Vf (by decide) (by omega)
  obtain ⟨k,l2,h2,r2⟩:=Qp8 (cap:=(bs.length + 3) / 4) (My (H:=H) (ws:=dig 4294967296 ((bs.length + 3) / 4) (num 256 bs))) (Kc _ _ _) (by omega) (by omega) M8
  rw [U5 (by decide),Z3 hlt] at r2
  obtain ⟨l3,h3⟩:=Qdj (cap:=8) r2
  exact ⟨_,_,_,l2,l3,h1,h2,h3⟩
 | @new id _ g1 g2 g3 =>
  have h1:=Qj3 (c:=bs.length) (Qsk g3) rfl hN hb
  have hlt:num 256 bs < 4294967296 ^ ((bs.length + 3) / 4):=by
   refine X1 (num_lt hb) ?_
   rw [show (4294967296:Nat) = 256 ^ 4 from by decide,← Yp]
   exact Vf (by decide) (by omega)
  obtain ⟨k,l2,h2,r2⟩:=Qp8 (cap:=(bs.length + 3) / 4) (My (H:=H) (ws:=dig 4294967296 ((bs.length + 3) / 4) (num 256 bs))) (Kc _ _ _) (by omega) (by omega) M8
  rw [U5 (by decide),Z3 hlt] at r2
  obtain ⟨l3,h3⟩:=Qdj (cap:=8) r2
  exact ⟨_,_,_,l2,l3,h1,h2,h3⟩
theorem Qsp {H:List Ob} {id off c n:Nat} {ps:List (List Nat)} (hp:Qy1 .u8 H id off ps) (hn:ps.length = n) (hN:n < 2 ^ 40) (hS:ps.flatten.length < 2 ^ 40) (hb:∀ x ∈ ps.flatten,x < 256) :
  ∃ l,V6 T 47 [.slice (some ⟨id,off,none⟩) n c] H = some (.agg (u8s (dig 256 32 (num 256 ps.flatten % ell))).toArray,H ++ l,[]):=by
 have hz:Qa 32 (Value.int .u8 0) = u8s (dig 256 32 0):=rfl
 obtain ⟨s',hb1,s,Hc,rfl,hL,hK,hg⟩:=Vi (T:=T) (base:=H.length) (id:=0) (body:=Qix)
  (fun i st => ∃ s Hc,st = Qk2 (.pointer (some ⟨H.length,0,none⟩)) s (.slice (some ⟨id,off,none⟩) n c) n i Hc [] ∧ H.length + 1 ≤ Hc.length ∧ (∀ j,j < H.length + 1 → Hc[j]? = (H ++ [⟨u8s (dig 256 32 0),true,true,true,1⟩])[j]?) ∧ Grown .u8 (H.length + 1) Hc s ((ps.take i).flatten))
  (Q:=fun st => ∃ s Hc,st = Qk2 (.pointer (some ⟨H.length,0,none⟩)) s (.slice (some ⟨id,off,none⟩) n c) n n Hc [(9,.bool false)] ∧ H.length + 1 ≤ Hc.length ∧ (∀ j,j < H.length + 1 → Hc[j]? = (H ++ [⟨u8s (dig 256 32 0),true,true,true,1⟩])[j]?) ∧ Grown .u8 (H.length + 1) Hc s ps.flatten)
  n (s:=Qk2 (.pointer (some ⟨H.length,0,none⟩)) (.slice none 0 0) (.slice (some ⟨id,off,none⟩) n c) n 0 (H ++ [⟨u8s (dig 256 32 0),true,true,true,1⟩]) []) ⟨_,_,rfl,by simp,fun _ _ => rfl,.nil⟩
  (fun i st hi hs => by
   obtain ⟨s,Hc,rfl,hL,hK,hg⟩:=hs
   obtain ⟨p,hpi⟩:∃ p,ps[i]? = some p:=⟨_,Q1 (by omega)⟩
   obtain ⟨s2,H2,h1,h2,h3,h4⟩:=Qvz (R := .pointer (some ⟨H.length,0,none⟩)) (c:=c) hp hi hN hpi (by omega) hL (fun j hj => by rw [hK j (by omega),Qy hj]) hg
   exact ⟨_,h1,s2,H2,rfl,h2,fun j hj => by rw [h3 j hj,hK j hj],h4⟩)
  (fun st hs => by
   obtain ⟨s,Hc,rfl,hL,hK,hg⟩:=hs
   have h1:¬ ((n:Int) < (n:Int)):=by omega
   rw [Zl (by omega)] at hg
   refine ⟨_,?_,s,Hc,rfl,hL,hK,hg⟩
   simp only [Qk2,Qix,Z0,Kf,Kn,K5,Xf,Ko,Jq,K6,Kr,Vc,guardOf,Zs,opd,Wj,Vp,Vb,Env.get,Env.put,Yc,Q4,Za,Zb,Xo,Vu,Kd,J4,St.after,Env.keep,if_true,if_false,ite_true,ite_false,Y3,V7,unV,Vy,Va,packed,reduceCtorEq,Jd,Je,Zv,Qf,Qb,Qh,Z1,Ja,Jf,beq_self_eq_true,Xx,J1,Ki,Kh,X8,K0,Kj,X3,K3,Kz,X4,Vg,Kl,J9,Kx,K4,X6,X5,Jw,X7,Ji,Jp,Jo,J7,Ju,J5,Jt,Jn,J8,J6,Xl,Jv,Kg,Xn,Kk,Ky,Xm,Km,Xa,Ob.fresh,Y8,Wp,Wu,Jg,and_self,true_and,and_true,Jh,Xy,Vk,Yn,Vh,Xb,Yk,Xc,Xj,false_and,decide_true,decide_false,Jr,Qp,Qn,Qo,Qd,Qm,Qg,Y1,Xk,Ye,Xz,Xq,Xr,Zq,Zp,Bg,Bf,Be,Bd,Zj,Ke,Jz,Xw,Xi,Ve,J3,h1])
 obtain ⟨l0,hl0⟩:=Dz (H:=H ++ [⟨u8s (dig 256 32 0),true,true,true,1⟩]) (H':=Hc) (by simpa using hL) (fun i hi => hK i (by simpa using hi))
 obtain ⟨v1,v2,l1,l2,l3,h1,h2,h3⟩:=Qvy hg hb hS
 generalize hR:dig 256 32 (num 256 ps.flatten % ell) = R at *
 have lR:(u8s R).length = 32:=by rw [X2,← hR,Kc]
 have hst:storeAt (Hc ++ l1 ++ l2 ++ l3) ⟨H.length,0,none⟩ (u8s R) = some (H ++ ⟨u8s R,true,true,true,1⟩ :: (l0 ++ l1 ++ l2 ++ l3)):=by
  have h8:=Bx (H:=H) (r:=l0 ++ l1 ++ l2 ++ l3) (cs:=u8s (dig 256 32 0)) (e:=true) (s:=1) (off:=0) (v:=u8s R) (by rw [lR,X2,Kc]; omega)
  rw [R9 (by rw [lR,X2,Kc])] at h8
  rw [hl0]
  simpa using h8
 generalize hH1:Hc ++ l1 = H1 at h1 h2 h3 hst
 generalize hH2:H1 ++ l2 = H2 at h2 h3 hst
 generalize hH3:H2 ++ l3 = H3 at h3 hst
 have h9:((u8s R).drop 0).take 32 = u8s R:=by rw [Q2,Zl (by omega)]
 refine ⟨⟨u8s R,true,true,true,1⟩ :: (l0 ++ l1 ++ l2 ++ l3),?_⟩
 rw [show Qk2 (.pointer (some ⟨H.length,0,none⟩)) (.slice none 0 0) (.slice (some ⟨id,off,none⟩) n c) n 0 (H ++ [⟨u8s (dig 256 32 0),true,true,true,1⟩]) [] = ⟨[(2,.pointer (some ⟨H.length,0,none⟩)),(3,.slice none 0 0),(6,.slice (some ⟨id,off,none⟩) n c),(7,.int .i64 n),(8,.int .i64 0)],H ++ [⟨u8s (dig 256 32 0),true,true,true,1⟩],[]⟩ from rfl] at hb1
 rw [Jc (fn:=a17) rfl]
 simp only [a17,Z0,Kf,Kn,K5,Xf,Ko,Jq,K6,Kr,Vc,guardOf,Zs,opd,Wj,Vp,Vb,Env.get,Env.put,Yc,Q4,Za,Zb,Xo,Vu,Kd,J4,St.after,Env.keep,if_true,if_false,ite_true,ite_false,Y3,V7,unV,Vy,Va,packed,reduceCtorEq,Jd,Je,Zv,Qf,Qb,Qh,Z1,Ja,Jf,beq_self_eq_true,Xx,J1,Ki,Kh,X8,K0,Kj,X3,K3,Kz,X4,Vg,Kl,J9,Kx,K4,X6,X5,Jw,X7,Ji,Jp,Jo,J7,Ju,J5,Jt,Jn,J8,J6,Xl,Jv,Kg,Xn,Kk,Ky,Xm,Km,Xa,Ob.fresh,Y8,Wp,Wu,Jg,and_self,true_and,and_true,Jh,Xy,Vk,Yn,Vh,Xb,Yk,Xc,Xj,false_and,decide_true,decide_false,Jr,Qp,Qn,Qo,Qd,Qm,Qg,Y1,Xk,Ye,Xz,Xq,Xr,Zq,Zp,Bg,Bf,Be,Bd,Zj,Ke,Jz,Xw,Xi,Ve,J3,cL,Qo,Qn,Qx,Qw,Qu,Ql,Qk,Qv,Qd,Qz,Q0,Qq,Qf,Qh,Qg,Qt,Qs,Qr,Qm,Qe,hz,hb1,Qk2,h1,h2,h3,lR,hst,Y8,h9]
end Go.Ev.YtgacigcbglflkaaGreat
set_option linter.unusedSimpArgs false
set_option linter.unusedVariables false
namespace Go.Ev.YtgacigcbglflkaaGreat
open Go Go.Ev
attribute [local congr] W7 Ul W6 Um Wv
set_option maxRecDepth 100000
def mA (x y z:List Nat):List Nat:=dig 256 32 ((num 256 x * num 256 y + num 256 z) % ell)
def rd (x:List Nat):List Nat:=dig 256 32 (num 256 x % ell)
theorem Q5d (x:List Nat):dig 256 32 (num 256 x % ell) = rd x:=rfl
theorem Q54 {x y z:List Nat}:(mA x y z).length = 32:=Kc _ _ _
theorem Qpi {x:List Nat}:(rd x).length = 32:=Kc _ _ _
theorem mA_lt {x y z:List Nat}:∀ t ∈ mA x y z,t < 256:=fun _ h => Gs (by decide) h
theorem rd_lt {x:List Nat}:∀ t ∈ rd x,t < 256:=fun _ h => Gs (by decide) h
theorem Qyg:ell ≤ 256 ^ 32:=by decide
theorem Qfk (v:Nat):num 256 (dig 256 32 (v % ell)) = v % ell:=by
 rw [U5 (by decide),Z3 (X1 (Jk _ D0) Qyg)]
theorem Qw1 (x y z:List Nat):num 256 (mA x y z) = (num 256 x * num 256 y + num 256 z) % ell:=Qfk _
theorem Qs9 {a b c:List Nat} (la:a.length = 32) (lb:b.length = 32) (lc:c.length = 32) (xa:∀ x ∈ a,x < 256) (xb:∀ x ∈ b,x < 256) (xc:∀ x ∈ c,x < 256) :
  ∃ l,V6 T 18 [.agg (u8s a).toArray,.agg (u8s b).toArray,.agg (u8s c).toArray] [] = some (.agg (u8s (mA a b c)).toArray,l,[]):=Qta la lb lc xa xb xc
def Qbr:List Nat:=[237,211,245,92,26,99,18,88,214,156,247,162,222,249,222,20]
def Qpv:List Nat:=dig 256 32 ell
theorem Q0l:Qpv = Qbr ++ Qa 15 0 ++ [16]:=by decide +kernel
theorem Qc4:Qpv.length = 32:=Kc _ _ _
theorem Qrm:∀ x ∈ Qpv,x < 256:=fun _ h => Gs (by decide) h
theorem Qm3:num 256 Qpv = ell:=by decide +kernel
theorem Ml {k:IntKind} {B bytes:Nat} {H:List Ob} {s:Value} {bs:List Nat} {x:Nat} (h:Grown k B H s bs) (hB:B ≤ H.length) (hb:(bs.length + 1) * bytes ≤ 2 ^ 47) (hb0:0 < bytes) :
  ∃ s' H' M,Y4 1 bytes (H ++ [⟨[.int k (x:Nat)],true,true,true,1⟩]) s (.slice (some ⟨H.length,0,none⟩) 1 1) = some (s',H',none,M) ∧ Grown k B H' s' (bs ++ [x]) ∧ (∀ i ∈ M,B ≤ i) ∧ B ≤ H'.length ∧ ∀ i,i < B → H'[i]? = H[i]? := by
 obtain ⟨s',H',M,h1,h2,h3,h4,h5⟩:=(h.app (l':=[⟨[.int k (x:Nat)],true,true,true,1⟩])).append (bytes:=bytes) (x := .slice (some ⟨H.length,0,none⟩) 1 1) (new:=[x]) (by simp; omega) rfl (by simp [elemsOf,liveAt,ns]) hb hb0
 refine ⟨s',H',M,h1,h2,h3,?_,fun i hi => by rw [h5 i hi,Qy (by omega)]⟩
 simp at h4
 omega
def oI (s:Value) (H:List Ob) (ex:Env):St:=⟨[(1,s)] ++ ex,H,[]⟩
theorem Qg7 (H:List Ob):∃ s l,V6 T 76 [] H = some (s,H ++ l,[]) ∧ Grown .i64 H.length (H ++ l) s Qpv:=by
 have hf:fillL (Qa 16 (Value.int .i64 0)) [(0,1,.int .i64 237),(1,1,.int .i64 211),(2,1,.int .i64 245),(3,1,.int .i64 92),(4,1,.int .i64 26),(5,1,.int .i64 99),(6,1,.int .i64 18),(7,1,.int .i64 88),(8,1,.int .i64 214),(9,1,.int .i64 156),(10,1,.int .i64 247),(11,1,.int .i64 162),(12,1,.int .i64 222),(13,1,.int .i64 249),(14,1,.int .i64 222),(15,1,.int .i64 20)] = some (ns .i64 Qbr):=rfl
 have f0:fillL [Value.int .i64 0] [(0,1,.int .i64 0)] = some [.int .i64 0]:=rfl
 have f16:fillL [Value.int .i64 0] [(0,1,.int .i64 16)] = some [.int .i64 16]:=rfl
 obtain ⟨st,hb,s,Hc,rfl,hg,hL,hK⟩:=Vi (T:=T) (base:=H.length) (id:=0) (body:=Ql1)
  (fun j st => ∃ s Hc,st = oI s Hc [] ∧ Grown .i64 H.length Hc s (Qbr ++ Qa j 0) ∧ H.length ≤ Hc.length ∧ ∀ i,i < H.length → Hc[i]? = H[i]?)
  (Q:=fun st => ∃ s Hc,st = oI s Hc [(5,.bool false)] ∧ Grown .i64 H.length Hc s (Qbr ++ Qa 15 0) ∧ H.length ≤ Hc.length ∧ ∀ i,i < H.length → Hc[i]? = H[i]?)
  15 (s:=oI (.slice (some ⟨H.length,0,none⟩) 16 16) (H ++ [⟨ns .i64 Qbr,true,true,true,1⟩]) []) ⟨_,_,rfl,Grown.new (id:=H.length) (bs:=Qbr) (Zj _) (by decide) (by simp [Ob.fresh]),by simp,fun i hi => Qy hi⟩
  (fun j st hj hs => by
   obtain ⟨s,Hc,rfl,hg,hL,hK⟩:=hs
   have hl:=hg.len
   have e16:(Qbr ++ Qa j 0).length = 16 + j:=by simp [Qbr]; omega
   rw [e16] at hl
   have h31:(((16 + j:Nat):Int) < 31):=by omega
   obtain ⟨s',H',M,h1,h2,h3,h4,h5⟩:=Ml (x:=0) (bytes:=8) hg hL (by simp [Qbr]; omega) (by decide)
   have hm:Xo H.length [] M = []:=Yi h3
   refine ⟨oI s' H' [],?_,s',H',rfl,by rw [Rp,← Jx]; exact h2,h4,fun i hi => by rw [h5 i hi,hK i hi]⟩
   simp only [oI,Ql1,Z0,quiet,cF,↓pF,reduceCtorEq,Qb,Qp,Yq,Xv,↓Zo,↓Zn,↓Zw,↓Zz,↓Zx,↓Zy,cL,Qo,Qn,Qx,Qw,Qu,Ql,Qk,Qv,Qd,Qz,Q0,Qq,Qf,Qh,Qg,Qt,Qs,Qr,Qm,Qe,cJ,Ka,hl,h31,f0]
   simp only [Xu] at h1
   simp only [h1,hm,Z0,quiet,cF,↓pF,reduceCtorEq,Qb,Qp,Yq,Xv,↓Zo,↓Zn,↓Zw,↓Zz,↓Zx,↓Zy,cL,Qo,Qn,Qx,Qw,Qu,Ql,Qk,Qv,Qd,Qz,Q0,Qq,Qf,Qh,Qg,Qt,Qs,Qr,Qm,Qe])
  (fun st hs => by
   obtain ⟨s,Hc,rfl,hg,hL,hK⟩:=hs
   have hl:=hg.len
   refine ⟨_,?_,s,Hc,rfl,hg,hL,hK⟩
   have e16:(Qbr ++ Qa 15 0).length = 31:=rfl
   rw [e16] at hl
   simp only [oI,Ql1,Z0,quiet,cF,↓pF,reduceCtorEq,Qb,Qp,Yq,Xv,↓Zo,↓Zn,↓Zw,↓Zz,↓Zx,↓Zy,cL,Qo,Qn,Qx,Qw,Qu,Ql,Qk,Qv,Qd,Qz,Q0,Qq,Qf,Qh,Qg,Qt,Qs,Qr,Qm,Qe,cJ,Ka,hl])
 obtain ⟨s',H',M,h1,h2,h3,h4,h5⟩:=Ml (x:=16) (bytes:=8) hg hL (by decide) (by decide)
 have hm:Xo H.length [] M = []:=Yi h3
 obtain ⟨l,rfl⟩:=Dz h4 (fun i hi => by rw [h5 i hi,hK i hi])
 refine ⟨s',l,?_,by rw [Q0l]; exact h2⟩
 rw [Jc (fn:=a23) rfl]
 simp only [oI,Zb,Za] at hb
 simp only [Ww] at h1
 simp only [a23,Z0,quiet,cF,↓pF,reduceCtorEq,Qb,Qp,Yq,Xv,↓Zo,↓Zn,↓Zw,↓Zz,↓Zx,↓Zy,cL,Qo,Qn,Qx,Qw,Qu,Ql,Qk,Qv,Qd,Qz,Q0,Qq,Qf,Qh,Qg,Qt,Qs,Qr,Qm,Qe,cJ,Ka,hf,hb,oI,f16,h1,hm]
theorem Qmh {x:Nat} (h:x < 256):IntKind.u8.wrap (x:Int) = x:=Wq rfl h
theorem Qj4 {a:List Nat} {m x:Nat} (h:a[m]? = some x):num 256 a = num 256 (a.take m) + x * 256 ^ m + 256 ^ (m + 1) * num 256 (a.drop (m + 1)):=by
 have hm:m < a.length:=(Q8.1 h).1
 conv => lhs; rw [← W1 (m + 1) a,B9,Wn h]
 rw [Js,V8 (by omega)]
theorem Qfj {a:List Nat} {m:Nat} (ha:∀ x ∈ a,x < 256) (hm:m ≤ a.length):num 256 (a.take m) < 256 ^ m:=by
 have:=num_lt (B:=256) (l:=a.take m) fun x hx => ha x (Kp hx)
 rwa [Js,V8 hm] at this
theorem Q09 {a b:List Nat} {m x y:Nat} (hl:a.length = b.length) (ha:∀ x ∈ a,x < 256) (hb:∀ x ∈ b,x < 256) (hx:a[m]? = some x) (hy:b[m]? = some y) (hne:x ≠ y) (hd:a.drop (m + 1) = b.drop (m + 1)):(num 256 a < num 256 b) ↔ x < y:=by
 have hm:m < a.length:=(Q8.1 hx).1
 rw [Qj4 hx,Qj4 hy,hd]
 have h1:=Qfj (m:=m) ha (by omega)
 have h2:=Qfj (m:=m) hb (by omega)
 rcases V5 x y with h | h
 ·have:(x + 1) * 256 ^ m ≤ y * 256 ^ m:=Vt _ h
  rw [Kt,Wm] at this
  constructor <;> intro <;> omega
 ·have:(y + 1) * 256 ^ m ≤ x * 256 ^ m:=Vt _ (by omega)
  rw [Kt,Wm] at this
  constructor <;> intro <;> omega
def rlI (sa sb:Value) (H:List Ob) (i:Int) (ex:Env):St:=⟨[(0,sa),(1,sb),(5,.int .i64 i)] ++ ex,H,[]⟩
theorem Qcw {H:List Ob} {base:Nat} {ia oa ca ib ob cb n:Nat} {a b:List Nat} (hra:Row .i64 H ia oa a) (hrb:Row .i64 H ib ob b) (la:a.length = n) (lb:b.length = n) (hN:n < 2 ^ 40) (ha:∀ x ∈ a,x < 256) (hb:∀ x ∈ b,x < 256) :
  ∀ m,m ≤ n → a.drop m = b.drop m → Jl T base (.loop Qil) (rlI (.slice (some ⟨ia,oa,none⟩) n ca) (.slice (some ⟨ib,ob,none⟩) n cb) H ((m:Int) - 1) []) =
   if a = b then some (.exit 0,rlI (.slice (some ⟨ia,oa,none⟩) n ca) (.slice (some ⟨ib,ob,none⟩) n cb) H (-1) [(10,.bool false)]) else some (.ret,⟨[(4,.bool (decide (num 256 a < num 256 b)))],H,[]⟩)
 | 0,_,hd => by
  rw [Q2,Q2] at hd
  rw [if_pos hd,Yy]
  have e:((0:Int) ≤ -1) = False:=by decide
  simp only [rlI,Qil,Z0,quiet,cF,↓pF,reduceCtorEq,Qb,Qp,Yq,Xv,↓Zo,↓Zn,↓Zw,↓Zz,↓Zx,↓Zy,cL,Qo,Qn,Qx,Qw,Qu,Ql,Qk,Qv,Qd,Qz,Q0,Qq,Qf,Qh,Qg,Qt,Qs,Qr,Qm,Qe,Int.zero_sub,e]
 | m + 1,hm,hd => by
  obtain ⟨x,hx⟩:∃ x,a[m]? = some x:=⟨_,Q1 (by omega)⟩
  obtain ⟨y,hy⟩:∃ y,b[m]? = some y:=⟨_,Q1 (by omega)⟩
  obtain ⟨o1,ho1,hc1⟩:=hra
  obtain ⟨o2,ho2,hc2⟩:=hrb
  have c1:=hc1 m x hx
  have c2:=hc2 m y hy
  have e0:(((m + 1:Nat):Int) - 1) = (m:Int):=by omega
  have e1:((0:Int) ≤ (m:Int)) = True:=eq_true (by omega)
  have e2:((m:Int) < (n:Int)) = True:=eq_true (by omega)
  have e3:IntKind.i64.wrap ((m:Int) - 1) = (m:Int) - 1:=K9 (by omega) (by omega)
  rw [e0,Yy]
  obtain ⟨g1,v1⟩:(H[ia]? = some o1) ∧ o1.live = true:=by
   simp only [liveAt,Qc] at ho1
   obtain ⟨o',g1,g2⟩:=ho1
   split at g2
   ·cases g2; exact ⟨g1,by assumption⟩
   ·cases g2
  obtain ⟨g2,v2⟩:(H[ib]? = some o2) ∧ o2.live = true:=by
   simp only [liveAt,Qc] at ho2
   obtain ⟨o',g1,g2⟩:=ho2
   split at g2
   ·cases g2; exact ⟨g1,by assumption⟩
   ·cases g2
  by_cases hxy:x = y
  ·subst hxy
   have hd':a.drop m = b.drop m:=by
    rw [Yr,hx,hd,← hy,← Yr]
   have ih:=Qcw (base:=base) (ca:=ca) (cb:=cb) ⟨o1,ho1,hc1⟩ ⟨o2,ho2,hc2⟩ la lb hN ha hb m (by omega) hd'
   rw [← ih]
   simp only [rlI,Qil,Z0,quiet,cF,↓pF,reduceCtorEq,Qb,Qp,Yq,Xv,↓Zo,↓Zn,↓Zw,↓Zz,↓Zx,↓Zy,cL,Qo,Qn,Qx,Qw,Qu,Ql,Qk,Qv,Qd,Qz,Q0,Qq,Qf,Qh,Qg,Qt,Qs,Qr,Qm,Qe,e1,e2,e3,g1,g2,v1,v2,c1,c2]
  ·have hab:¬ a = b:=fun h => by subst h; rw [hx] at hy; cases hy; exact hxy rfl
   rw [if_neg hab]
   have hne:((x:Int) != (y:Int)) = true:=by simp; omega
   have hlt:=Q09 (by omega) ha hb hx hy hxy hd
   have hdec:decide ((x:Int) < (y:Int)) = decide (num 256 a < num 256 b):=by
    by_cases h:x < y
    ·rw [decide_eq_true (hlt.2 h),decide_eq_true (by omega)]
    ·rw [decide_eq_false (fun k => h (hlt.1 k)),decide_eq_false (by omega)]
   simp only [rlI,Qil,Z0,quiet,cF,↓pF,reduceCtorEq,Qb,Qp,Yq,Xv,↓Zo,↓Zn,↓Zw,↓Zz,↓Zx,↓Zy,cL,Qo,Qn,Qx,Qw,Qu,Ql,Qk,Qv,Qd,Qz,Q0,Qq,Qf,Qh,Qg,Qt,Qs,Qr,Qm,Qe,e1,e2,e3,g1,g2,v1,v2,c1,c2,hne,hdec]
theorem Qgt {H:List Ob} {sa sb:Value} {n:Nat} {a b:List Nat} (hra:Sl .i64 H sa a) (hrb:Sl .i64 H sb b) (la:a.length = n) (lb:b.length = n) (hn:0 < n) (hN:n < 2 ^ 40) (ha:∀ x ∈ a,x < 256) (hb:∀ x ∈ b,x < 256) :
  V6 T 75 [sa,sb] H = some (.bool (decide (num 256 a < num 256 b)),H,[]):=by
 obtain ⟨ia,oa,ca,rfl,ra⟩:=hra.row (by omega)
 obtain ⟨ib,ob,cb,rfl,rb⟩:=hrb.row (by omega)
 rw [la,lb]
 have hl:=Qcw (base:=H.length) (ca:=ca) (cb:=cb) ra rb la lb hN ha hb n (Zj n) (by rw [Yb (by omega),Yb (by omega)])
 have e3:IntKind.i64.wrap ((n:Int) - 1) = (n:Int) - 1:=K9 (by omega) (by omega)
 rw [Jc (fn:=a48) rfl]
 simp only [rlI,Zb,Za] at hl
 by_cases hab:a = b
 ·rw [if_pos hab] at hl
  subst hab
  have:decide (num 256 a < num 256 a) = false:=by simp
  simp only [a48,Z0,quiet,cF,↓pF,reduceCtorEq,Qb,Qp,Yq,Xv,↓Zo,↓Zn,↓Zw,↓Zz,↓Zx,↓Zy,cL,Qo,Qn,Qx,Qw,Qu,Ql,Qk,Qv,Qd,Qz,Q0,Qq,Qf,Qh,Qg,Qt,Qs,Qr,Qm,Qe,e3,Jq,hl,this]
 ·rw [if_neg hab] at hl
  simp only [a48,Z0,quiet,cF,↓pF,reduceCtorEq,Qb,Qp,Yq,Xv,↓Zo,↓Zn,↓Zw,↓Zz,↓Zx,↓Zy,cL,Qo,Qn,Qx,Qw,Qu,Ql,Qk,Qv,Qd,Qz,Q0,Qq,Qf,Qh,Qg,Qt,Qs,Qr,Qm,Qe,e3,Jq,hl]
def mH (H:List Ob) (z r:List Nat) (l:List Ob):List Ob:=H ++ ⟨u8s z,true,true,true,1⟩ :: ⟨ns .i64 r,true,true,true,1⟩ :: l
theorem Qw6 {H:List Ob} {z r r':List Nat} {l:List Ob} {v:Value} {k:IntKind} {xs:List Nat} {id off n c:Nat} (hv:v = .slice (some ⟨id,off,none⟩) n c) (hid:id ≠ H.length + 1) (h:Sl k (mH H z r l) v xs):Sl k (mH H z r' l) v xs:=by
 subst hv
 cases h with
 | mk h1 h2 h3 =>
  refine .mk ?_ h2 h3
  rw [← h1]
  apply Th
  unfold mH
  by_cases hlt:id < H.length
  ·rw [Qy hlt,Qy hlt]
  ·rw [Zh (by omega),Zh (by omega)]
   rcases hk:id - H.length with _ | _ | k
   ·rfl
   ·omega
   ·rfl
def mrs (H:List Ob):Value := .slice (some ⟨H.length + 1,0,none⟩) 33 33
def l1I (R v0 sl:Value) (rs:Value) (i q b k x:Int) (h:List Ob) (ex:Env):St:=⟨[(0,v0),(2,R),(3,rs),(4,sl),(5,.int .i64 i),(7,.int .i64 q),(8,.int .i64 b),(9,.int .i64 k),(10,.int .i64 x)] ++ ex,h,[]⟩
theorem Qrs {base:Nat} {R v0 sl rs:Value} {i q k:Int} {h:List Ob}:∀ (t:Nat) (b x:Int),t < 2 ^ 40 → 0 ≤ b → b + t < 2 ^ 41 → x + 256 * t < 256 → 0 ≤ x + 256 * t → (0 < t → x < 0) →
  Jl T base (.loop Ql0) (l1I R v0 sl rs i q b k x h []) = some (.exit 8,l1I R v0 sl rs i q (b + t) k (x + 256 * t) h [(75,.bool false)])
 | 0,b,x,_,_,_,h1,h2,_ => by
  have e:(x < 0) = False:=eq_false (by omega)
  rw [Yy]
  simp only [l1I,Ql0,Z0,quiet,cF,↓pF,reduceCtorEq,Qb,Qp,Yq,Xv,↓Zo,↓Zn,↓Zw,↓Zz,↓Zx,↓Zy,cL,Qo,Qn,Qx,Qw,Qu,Ql,Qk,Qv,Qd,Qz,Q0,Qq,Qf,Qh,Qg,Qt,Qs,Qr,Qm,Qe,e,Int.mul_zero,Int.add_zero]
 | t + 1,b,x,ht,hb0,hb,h1,h2,h3 => by
  have e:(x < 0) = True:=eq_true (h3 (by omega))
  have ih:=Qrs (base:=base) (R:=R) (v0:=v0) (sl:=sl) (rs:=rs) (i:=i) (q:=q) (k:=k) (h:=h) t (b + 1) (x + 256) (by omega) (by omega) (by omega) (by omega) (by omega) (fun h => by omega)
  have w1:IntKind.i64.wrap (x + 256) = x + 256:=K9 (by omega) (by omega)
  have w2:IntKind.i64.wrap (b + 1) = b + 1:=K9 (by omega) (by omega)
  rw [Yy]
  rw [show b + ((t + 1:Nat):Int) = b + 1 + (t:Int) by omega,show x + 256 * ((t + 1:Nat):Int) = x + 256 + 256 * (t:Int) by omega,← ih]
  simp only [l1I,Ql0,Z0,quiet,cF,↓pF,reduceCtorEq,Qb,Qp,Yq,Xv,↓Zo,↓Zn,↓Zw,↓Zz,↓Zx,↓Zy,cL,Qo,Qn,Qx,Qw,Qu,Ql,Qk,Qv,Qd,Qz,Q0,Qq,Qf,Qh,Qg,Qt,Qs,Qr,Qm,Qe,e,w1,w2]
def ord33:List Nat:=Qpv ++ [0]
theorem Qa3:ord33.length = 33:=by simp [ord33,Qc4]
theorem Qg8:∀ x ∈ ord33,x < 256:=by
 intro x hx
 simp only [ord33,Jb,Bu] at hx
 rcases hx with h | h
 ·exact Qrm x h
 ·omega
theorem Qj0:num 256 ord33 = ell:=by
 simp only [ord33,B9,Qm3,num]; omega
structure SubInv (k q:Nat) (r0 r:List Nat) (b:Nat):Prop where
 len:r.length = 33
 lt:∀ x ∈ r,x < 256
 ble:b ≤ q + 1
 eq:num 256 (r0.take k) + b * 256 ^ k = num 256 (r.take k) + q * num 256 (ord33.take k)
 rest:r.drop k = r0.drop k
def nx (y q l b:Nat):Nat:=((y:Int) - q * l - b).toNat
def nb (y q l b:Nat):Nat:=(q * l + b - y + 255) / 256
theorem SubInv.step {k q b y l:Nat} {r0 r:List Nat} (h:SubInv k q r0 r b) (hk:k < 33) (hy:r[k]? = some y) (hl:ord33[k]? = some l):SubInv (k + 1) q r0 (r.set k (y + 256 * nb y q l b - (q * l + b))) (nb y q l b) ∧ y + 256 * nb y q l b - (q * l + b) < 256 ∧ q * l + b ≤ y + 256 * nb y q l b:=by
 have hy':=h.lt y (Zk hy)
 have hl':=Qg8 l (Zk hl)
 have hb:=h.ble
 have hlen:=h.len
 have hnb:y + 256 * nb y q l b - (q * l + b) < 256 ∧ q * l + b ≤ y + 256 * nb y q l b:=by unfold nb; omega
 have hql:q * l ≤ q * 255:=Ug q (by omega)
 have hnb2:nb y q l b ≤ q + 1:=by unfold nb; omega
 have hy0:r0[k]? = some y:=by
  have h1:(r.drop k)[0]? = (r0.drop k)[0]? := by rw [h.rest]
  rwa [Vx,Vx,Jr,hy,eq_comm] at h1
 refine ⟨⟨by rw [Xe]; exact hlen,Da h.lt hnb.1,hnb2,?_,?_⟩,hnb⟩
 ·generalize nb y q l b = c at *
  obtain ⟨d,hd⟩:∃ d,y + 256 * c = q * l + b + d:=⟨y + 256 * c - (q * l + b),by omega⟩
  have hset:(r.set k d).take (k + 1) = r.take k ++ [d]:=by
   rw [Yf,Xp (by omega),List.take_set_of_le (Zj k)]; rfl
  rw [show y + 256 * c - (q * l + b) = d by omega,hset,Wn hy0,Wn hl,B9]
  have hln:(r.take k).length = k:=by rw [Js]; omega
  rw [hln]
  have he:=h.eq
  simp only [num,To,Jr]
  have e1:c * 256 ^ (k + 1) = (256 * c) * 256 ^ k:=by rw [Kq]; simp only [Vo,Wf,K7]
  have e2:(y + 256 * c) * 256 ^ k = (q * l + b + d) * 256 ^ k:=by rw [hd]
  rw [Kt,Kt,Kt] at e2
  rw [e1,Hg,← Vo,K7 (256 ^ k) d]
  omega
 ·rw [List.drop_set_of_lt (by omega)]
  have h1:(r.drop k).drop 1 = (r0.drop k).drop 1:=by rw [h.rest]
  rwa [Tv,Tv] at h1
def l2I (R v0 sl rs:Value) (i q b k:Int) (h:List Ob) (ex:Env):St:=⟨[(0,v0),(2,R),(3,rs),(4,sl),(5,.int .i64 i),(7,.int .i64 q),(8,.int .i64 b),(9,.int .i64 k)] ++ ex,h,[]⟩
theorem Qhf {k:IntKind} {H:List Ob} {id off n c:Nat} {xs:List Nat} (h:Sl k H (.slice (some ⟨id,off,none⟩) n c) xs):∃ o,H[id]? = some o ∧ o.live = true ∧ n = xs.length ∧ ∀ (i x:Nat),xs[i]? = some x → o.cells[off + i]? = some (.int k (x:Nat)):=by
 cases h with
 | mk h1 h2 h3 =>
  simp only [liveAt,Qc] at h1
  obtain ⟨o',g1,g2⟩:=h1
  split at g2
  ·cases g2; exact ⟨_,g1,by assumption,rfl,h3⟩
  ·cases g2
theorem Q1c {H:List Ob} {R v0:Value} {z r0 r:List Nat} {l:List Ob} {il ol cl:Nat} {i:Int} {q b k y lk:Nat} (hsl:∀ r,Sl .i64 (mH H z r l) (.slice (some ⟨il,ol,none⟩) 33 cl) ord33) (hI:SubInv k q r0 r b) (hk:k < 33) (hq:q < 2 ^ 20) (hy:r[k]? = some y) (hl:ord33[k]? = some lk) :
  Jl T H.length Qcj (l2I R v0 (.slice (some ⟨il,ol,none⟩) 33 cl) (mrs H) i q b k (mH H z r l) []) =
   some (.normal,l2I R v0 (.slice (some ⟨il,ol,none⟩) 33 cl) (mrs H) i q (nb y q lk b:Nat) ((k + 1:Nat):Int) (mH H z (r.set k (y + 256 * nb y q lk b - (q * lk + b))) l) []):=by
 obtain ⟨hS,hlt,hle⟩:=hI.step hk hy hl
 have hy':=hI.lt y (Zk hy)
 have hl':=Qg8 lk (Zk hl)
 have hb:=hI.ble
 have hlen:=hI.len
 have hql:q * lk ≤ q * 255:=Ug q (by omega)
 have hnb2:=hS.ble
 obtain ⟨o,ho,hv,-,hc⟩:=Qhf (hsl r)
 have hcl:=hc k lk hl
 have hyc:=Yo (k := .i64) hy
 have k1:((k:Int) < 33) = True:=eq_true (by omega)
 have k2:((k:Int) < ((33:Nat):Int)) = True:=eq_true (by omega)
 have w1:IntKind.i64.wrap ((q:Int) * (lk:Int)) = ((q * lk:Nat):Int):=by rw [← Uq]; exact Vn (by omega)
 have w2:IntKind.i64.wrap ((y:Int) - ((q * lk:Nat):Int)) = (y:Int) - ((q * lk:Nat):Int):=K9 (by omega) (by omega)
 have w3:IntKind.i64.wrap ((y:Int) - ((q * lk:Nat):Int) - (b:Int)) = (y:Int) - ((q * lk:Nat):Int) - (b:Int):=K9 (by omega) (by omega)
 have w4:IntKind.i64.wrap ((k:Int) + 1) = ((k + 1:Nat):Int):=Vn (n:=k + 1) (by omega)
 have hloop:=Qrs (base:=H.length) (R:=R) (v0:=v0) (sl := .slice (some ⟨il,ol,none⟩) 33 cl) (rs:=mrs H) (i:=i) (q:=q) (k:=k) (h:=mH H z r l) (nb y q lk b) 0 ((y:Int) - ((q * lk:Nat):Int) - (b:Int)) (by omega) (by omega) (by omega) (by omega) (by omega) (fun h => by unfold nb at h; omega)
 rw [show (0:Int) + (nb y q lk b:Nat) = (nb y q lk b:Nat) by omega,show (y:Int) - ((q * lk:Nat):Int) - (b:Int) + 256 * (nb y q lk b:Nat) = ((y + 256 * nb y q lk b - (q * lk + b):Nat):Int) by omega] at hloop
 have hset:=Ux .i64 r k (y + 256 * nb y q lk b - (q * lk + b))
 have hst:k + 1 ≤ 33:=by omega
 generalize nb y q lk b = c at *
 generalize y + 256 * c - (q * lk + b) = d at *
 simp only [l1I,l2I,mH,mrs,Zb,Za] at hloop ho ⊢
 simp only [Qcj,Z0,quiet,cF,↓pF,reduceCtorEq,Qb,Qp,Yq,Xv,↓Zo,↓Zn,↓Zw,↓Zz,↓Zx,↓Zy,cL,Qo,Qn,Qx,Qw,Qu,Ql,Qk,Qv,Qd,Qz,Q0,Qq,Qf,Qh,Qg,Qt,Qs,Qr,Qm,Qe,cJ,Ka,k1,k2,hyc,ho,hv,hcl,w1,w2,w3,w4,Jq,hloop,J2,hlen,hst,hset]
theorem Qxa {H:List Ob} {R v0:Value} {z r:List Nat} {l:List Ob} {il ol cl:Nat} {i:Int} {q:Nat} (hsl:∀ r,Sl .i64 (mH H z r l) (.slice (some ⟨il,ol,none⟩) 33 cl) ord33) (hq:q < 2 ^ 20) (hlen:r.length = 33) (hlt:∀ x ∈ r,x < 256) (hle:q * ell ≤ num 256 r) :
  ∃ b r',Jl T H.length (.block 6 (.loop Qcj)) (l2I R v0 (.slice (some ⟨il,ol,none⟩) 33 cl) (mrs H) i q 0 0 (mH H z r l) []) = some (.normal,l2I R v0 (.slice (some ⟨il,ol,none⟩) 33 cl) (mrs H) i q b 33 (mH H z r' l) [(58,.bool false)]) ∧
   r'.length = 33 ∧ (∀ x ∈ r',x < 256) ∧ num 256 r' = num 256 r - q * ell:=by
 obtain ⟨st,h1,b,r',rfl,hI⟩:=Vi (T:=T) (base:=H.length) (id:=6) (body:=Qcj)
  (fun k st => ∃ (b:Nat) (r':List Nat),st = l2I R v0 (.slice (some ⟨il,ol,none⟩) 33 cl) (mrs H) i q b k (mH H z r' l) [] ∧ SubInv k q r r' b)
  (Q:=fun st => ∃ (b:Nat) (r':List Nat),st = l2I R v0 (.slice (some ⟨il,ol,none⟩) 33 cl) (mrs H) i q b 33 (mH H z r' l) [(58,.bool false)] ∧ SubInv 33 q r r' b)
  33 (s:=l2I R v0 (.slice (some ⟨il,ol,none⟩) 33 cl) (mrs H) i q 0 0 (mH H z r l) []) ⟨0,r,rfl,⟨hlen,hlt,by omega,by simp [num],rfl⟩⟩
  (fun k st hk hs => by
   obtain ⟨b,r',rfl,hI⟩:=hs
   obtain ⟨y,hy⟩:∃ y,r'[k]? = some y:=⟨_,Q1 (by rw [hI.len]; omega)⟩
   obtain ⟨lk,hl⟩:∃ y,ord33[k]? = some y:=⟨_,Q1 (by rw [Qa3]; omega)⟩
   exact ⟨_,Q1c hsl hI hk hq hy hl,_,_,rfl,(hI.step hk hy hl).1⟩)
  (fun st hs => by
   obtain ⟨b,r',rfl,hI⟩:=hs
   refine ⟨_,?_,b,r',rfl,hI⟩
   simp only [l2I,Qcj,Z0,quiet,cF,↓pF,reduceCtorEq,Qb,Qp,Yq,Xv,↓Zo,↓Zn,↓Zw,↓Zz,↓Zx,↓Zy,cL,Qo,Qn,Qx,Qw,Qu,Ql,Qk,Qv,Qd,Qz,Q0,Qq,Qf,Qh,Qg,Qt,Qs,Qr,Qm,Qe])
 refine ⟨b,r',h1,hI.len,hI.lt,?_⟩
 have he:=hI.eq
 rw [Zl (by omega),Zl (by rw [hI.len]; omega),Zl (by rw [Qa3]; omega),Qj0] at he
 have h2:=num_lt hI.lt
 rw [hI.len] at h2
 rcases Yd b with hb | hb
 ·subst hb; omega
 ·have:1 * 256 ^ 33 ≤ b * 256 ^ 33:=Vt _ hb
  omega
theorem Q5f {r:List Nat} {x y:Nat} (hlen:r.length = 33) (hx:r[32]? = some x) (hy:r[31]? = some y):(x * 256 + y) / 17 * ell ≤ num 256 r:=by
 have h1:ell ≤ 17 * 256 ^ 31:=by decide
 have h2:(x * 256 + y) / 17 * ell ≤ (x * 256 + y) / 17 * (17 * 256 ^ 31):=Ug _ h1
 rw [← Vo] at h2
 have h3:(x * 256 + y) / 17 * 17 * 256 ^ 31 ≤ (x * 256 + y) * 256 ^ 31:=Vt _ (Nat.div_mul_le_self _ _)
 have h4:num 256 r = num 256 (r.take 31) + y * 256 ^ 31 + x * 256 ^ 32:=by
  have h5:=Wn (B:=256) hx
  rw [Zl (by omega),Wn hy] at h5
  exact h5
 rw [h4]
 have h6:(x * 256 + y) * 256 ^ 31 = x * 256 ^ 32 + y * 256 ^ 31:=by rw [Kt,Vo,← Nat.pow_succ']
 omega
def l3I (R v0 sl rs:Value) (i:Int) (h:List Ob) (ex:Env):St:=⟨[(0,v0),(2,R),(3,rs),(4,sl),(5,.int .i64 i)] ++ ex,h,[]⟩
theorem rs_sl {H:List Ob} {z r:List Nat} {l:List Ob} (hlen:r.length = 33):Sl .i64 (mH H z r l) (mrs H) r:=by
 have:=Sl.mk (k := .i64) (H:=mH H z r l) (id:=H.length + 1) (off:=0) (c:=33) (o:=⟨ns .i64 r,true,true,true,1⟩) (l:=r) (by simp [mH,liveAt]) (by simp [J2]) (fun i x hx => by rw [Z1]; exact Yo hx)
 rwa [hlen] at this
theorem Q1b {H:List Ob} {R v0:Value} {z:List Nat} {l:List Ob} {il ol cl:Nat} {i:Int} (hsl:∀ r,Sl .i64 (mH H z r l) (.slice (some ⟨il,ol,none⟩) 33 cl) ord33) :
  ∀ (N:Nat) (r:List Nat) (ex:Env),num 256 r = N → r.length = 33 → (∀ x ∈ r,x < 256) → ∃ r' ex',Jl T H.length (.loop Qci) (l3I R v0 (.slice (some ⟨il,ol,none⟩) 33 cl) (mrs H) i (mH H z r l) ex) = some (.exit 4,l3I R v0 (.slice (some ⟨il,ol,none⟩) 33 cl) (mrs H) i (mH H z r' l) ex') ∧
   r'.length = 33 ∧ (∀ x ∈ r',x < 256) ∧ num 256 r' = num 256 r % ell:=by
 intro N
 induction N using Qd5 with
 | _ N ih =>
  intro r ex hN hlen hlt
  have hless:=Qgt (rs_sl (H:=H) (z:=z) (l:=l) hlen) (hsl r) hlen Qa3 (by decide) (by decide) hlt Qg8
  rw [Qj0] at hless
  by_cases hc:num 256 r < ell
  ·rw [decide_eq_true hc] at hless
   refine ⟨r,[(45,.bool false)],?_,hlen,hlt,(Z3 hc).symm⟩
   rw [Yy]
   simp only [l3I,Qci,Z0,quiet,cF,↓pF,reduceCtorEq,Qb,Qp,Yq,Xv,↓Zo,↓Zn,↓Zw,↓Zz,↓Zx,↓Zy,cL,Qo,Qn,Qx,Qw,Qu,Ql,Qk,Qv,Qd,Qz,Q0,Qq,Qf,Qh,Qg,Qt,Qs,Qr,Qm,Qe,hless]
  ·rw [decide_eq_false hc] at hless
   obtain ⟨x,hx⟩:∃ y,r[32]? = some y:=⟨_,Q1 (by omega)⟩
   obtain ⟨y,hy⟩:∃ y,r[31]? = some y:=⟨_,Q1 (by omega)⟩
   have hx':=hlt x (Zk hx)
   have hy':=hlt y (Zk hy)
   have hxc:=Yo (k := .i64) hx
   have hyc:=Yo (k := .i64) hy
   have w1:IntKind.i64.wrap ((x:Int) * 256) = ((x * 256:Nat):Int):=by rw [show ((x:Int) * 256) = ((x * 256:Nat):Int) by omega]; exact Vn (by omega)
   have w2:IntKind.i64.wrap (((x * 256:Nat):Int) + (y:Int)) = ((x * 256 + y:Nat):Int):=by rw [← B5]; exact Vn (by omega)
   have w3:IntKind.i64.wrap (((x * 256 + y:Nat):Int).tdiv 17) = (((x * 256 + y) / 17:Nat):Int):=by
    rw [show ((x * 256 + y:Nat):Int).tdiv 17 = (((x * 256 + y) / 17:Nat):Int) from rfl]; exact Vn (by omega)
   have hq:=Q5f hlen hx hy
   have key:∀ q:Nat,0 < q → q < 2 ^ 20 → q * ell ≤ num 256 r →
     (∀ st,Jl T H.length (.block 6 (.loop Qcj)) (l2I R v0 (.slice (some ⟨il,ol,none⟩) 33 cl) (mrs H) i q 0 0 (mH H z r l) []) = some (.normal,st) → Jl T H.length Qci (l3I R v0 (.slice (some ⟨il,ol,none⟩) 33 cl) (mrs H) i (mH H z r l) ex) = some (.normal,st)) →
     ∃ r' ex',Jl T H.length (.loop Qci) (l3I R v0 (.slice (some ⟨il,ol,none⟩) 33 cl) (mrs H) i (mH H z r l) ex) = some (.exit 4,l3I R v0 (.slice (some ⟨il,ol,none⟩) 33 cl) (mrs H) i (mH H z r' l) ex') ∧ r'.length = 33 ∧ (∀ x ∈ r',x < 256) ∧ num 256 r' = num 256 r % ell:=by
    intro q hq0 hq1 hq2 hbody
    obtain ⟨b,r1,h1,h2,h3,h4⟩:=Qxa (R:=R) (v0:=v0) (i:=i) hsl hq1 hlen hlt hq2
    have hpos:ell ≤ q * ell:=Nat.le_mul_of_pos_left ell hq0
    have hell:=D0
    obtain ⟨r',ex',g1,g2,g3,g4⟩:=ih (num 256 r1) (by omega) r1 [(7,.int .i64 q),(8,.int .i64 b),(9,.int .i64 33),(58,.bool false)] rfl h2 h3
    refine ⟨r',ex',?_,g2,g3,?_⟩
    ·rw [Yy,hbody _ h1]
     exact g1
    ·rw [g4,h4]
     conv => rhs; rw [show num 256 r = (num 256 r - q * ell) + q * ell by omega]
     rw [Bt]
   have hl33:r.length = 33:=hlen
   by_cases hq0:(x * 256 + y) / 17 < 1
   ·have e1:((((x * 256 + y) / 17:Nat):Int) < 1) = True:=eq_true (by omega)
    refine key 1 (by decide) (by decide) (by omega) fun st hst => ?_
    simp only [l2I,mrs,mH,Zb,Za,B0] at hst
    simp only [mrs,mH] at hless
    simp only [l3I,mrs,mH,Qci,Z0,quiet,cF,↓pF,reduceCtorEq,Qb,Qp,Yq,Xv,↓Zo,↓Zn,↓Zw,↓Zz,↓Zx,↓Zy,cL,Qo,Qn,Qx,Qw,Qu,Ql,Qk,Qv,Qd,Qz,Q0,Qq,Qf,Qh,Qg,Qt,Qs,Qr,Qm,Qe,cJ,Ka,hless,hxc,hyc,w1,w2,w3,e1,hst]
   ·have e1:((((x * 256 + y) / 17:Nat):Int) < 1) = False:=eq_false (by omega)
    refine key ((x * 256 + y) / 17) (by omega) (by omega) hq fun st hst => ?_
    simp only [l2I,mrs,mH,Zb,Za] at hst
    simp only [mrs,mH] at hless
    generalize (x * 256 + y) / 17 = qq at *
    simp only [l3I,mrs,mH,Qci,Z0,quiet,cF,↓pF,reduceCtorEq,Qb,Qp,Yq,Xv,↓Zo,↓Zn,↓Zw,↓Zz,↓Zx,↓Zy,cL,Qo,Qn,Qx,Qw,Qu,Ql,Qk,Qv,Qd,Qz,Q0,Qq,Qf,Qh,Qg,Qt,Qs,Qr,Qm,Qe,cJ,Ka,hless,hxc,hyc,w1,w2,w3,e1,hst]
def l4I (R v0 sl rs:Value) (i k:Int) (h:List Ob) (ex:Env):St:=⟨[(0,v0),(2,R),(3,rs),(4,sl),(5,.int .i64 i),(6,.int .i64 k)] ++ ex,h,[]⟩
theorem Qw9 {H:List Ob} {R v0 sl:Value} {z r:List Nat} {l:List Ob} {i:Int} (hlen:r.length = 33) :
  ∃ r',Jl T H.length (.block 2 (.loop Qiq)) (l4I R v0 sl (mrs H) i 32 (mH H z r l) []) = some (.normal,l4I R v0 sl (mrs H) i 0 (mH H z r' l) [(25,.bool false)]) ∧ r'.length = 33 ∧ ∀ t,t < 32 → r'[t + 1]? = r[t]? := by
 obtain ⟨st,h1,r',rfl,h2,h3⟩:=Vi (T:=T) (base:=H.length) (id:=2) (body:=Qiq)
  (fun j st => ∃ r':List Nat,st = l4I R v0 sl (mrs H) i ((32 - j:Nat):Int) (mH H z r' l) [] ∧ r'.length = 33 ∧ (∀ t,t ≤ 32 - j → r'[t]? = r[t]?) ∧ ∀ t,32 - j ≤ t → t < 32 → r'[t + 1]? = r[t]?)
  (Q:=fun st => ∃ r':List Nat,st = l4I R v0 sl (mrs H) i 0 (mH H z r' l) [(25,.bool false)] ∧ r'.length = 33 ∧ ∀ t,t < 32 → r'[t + 1]? = r[t]?)
  32 (s:=l4I R v0 sl (mrs H) i 32 (mH H z r l) []) ⟨r,rfl,hlen,fun _ _ => rfl,fun t h1 h2 => by omega⟩
  (fun j st hj hs => by
   obtain ⟨r',rfl,h2,h3,h4⟩:=hs
   obtain ⟨m,hm⟩:∃ m,32 - j = m + 1:=⟨31 - j,by omega⟩
   have hm':32 - (j + 1) = m:=by omega
   rw [hm] at h3 h4
   rw [hm,hm']
   obtain ⟨y,hy⟩:∃ y,r[m]? = some y:=⟨_,Q1 (by omega)⟩
   have hy':r'[m]? = some y:=by rw [h3 m (by omega)]; exact hy
   have hyc:=Yo (k := .i64) hy'
   refine ⟨_,?_,r'.set (m + 1) y,rfl,by rw [Xe]; exact h2,fun t ht => by rw [Jj (by omega)]; exact h3 t (by omega),fun t h5 h6 => ?_⟩
   ·have e1:((0:Int) < ((m + 1:Nat):Int)) = True:=eq_true (by omega)
    have e2:((m:Int) < (33:Int)) = True:=eq_true (by omega)
    have e3:(((m + 1:Nat):Int) < (33:Int)) = True:=eq_true (by omega)
    have w1:IntKind.i64.wrap (((m + 1:Nat):Int) - 1) = (m:Int):=by rw [show ((m + 1:Nat):Int) - 1 = (m:Int) by omega]; exact Vn (by omega)
    have e5:m + 1 + 1 ≤ 33:=by omega
    have hset:=Ux .i64 r' (m + 1) y
    generalize hk:((m + 1:Nat):Int) = k1 at *
    have hkn:k1.toNat = m + 1:=by omega
    have e4:((0:Int) ≤ k1) = True:=eq_true (by omega)
    simp only [l4I,mH,mrs,Qiq,Z0,quiet,cF,↓pF,reduceCtorEq,Qb,Qp,Yq,Xv,↓Zo,↓Zn,↓Zw,↓Zz,↓Zx,↓Zy,cL,Qo,Qn,Qx,Qw,Qu,Ql,Qk,Qv,Qd,Qz,Q0,Qq,Qf,Qh,Qg,Qt,Qs,Qr,Qm,Qe,cJ,Ka,e1,e2,e3,e4,w1,hyc,hkn,J2,h2,e5,hset]
   ·by_cases ht:t = m
    ·subst ht
     rw [Xp (by omega),hy]
    ·rw [Jj (by omega)]
     exact h4 t (by omega) h6)
  (fun st hs => by
   obtain ⟨r',rfl,h2,h3,h4⟩:=hs
   refine ⟨_,?_,r',rfl,h2,fun t ht => h4 t (by omega) ht⟩
   simp only [l4I,Qiq,Z0,quiet,cF,↓pF,reduceCtorEq,Qb,Qp,Yq,Xv,↓Zo,↓Zn,↓Zw,↓Zz,↓Zx,↓Zy,cL,Qo,Qn,Qx,Qw,Qu,Ql,Qk,Qv,Qd,Qz,Q0,Qq,Qf,Qh,Qg,Qt,Qs,Qr,Qm,Qe,Kv])
 exact ⟨r',h1,h2,h3⟩
theorem Qzm {r r':List Nat} {x:Nat} (h:r.length = 33) (h2:r'.length = 33) (h3:∀ t,t < 32 → r'[t + 1]? = r[t]?):r'.set 0 x = x :: r.take 32:=by
 apply Ym
 intro t
 rcases t with _ | t
 ·rw [Xp (by omega)]; rfl
 ·rw [Jj (by omega),Zp,Ks]
  by_cases ht:t < 32
  ·rw [if_pos ht,h3 t ht]
  ·rw [if_neg ht,J0 (by omega)]
theorem Q3v {r:List Nat} {V:Nat} (hlen:r.length = 33) (hlt:∀ x ∈ r,x < 256) (hn:num 256 r = V % ell):r[32]? = some 0 ∧ r.take 32 = dig 256 32 (V % ell):=by
 have h1:V % ell < 256 ^ 32:=X1 (Jk _ D0) Qyg
 obtain ⟨x,hx⟩:∃ y,r[32]? = some y:=⟨_,Q1 (by omega)⟩
 have h5:=Wn (B:=256) hx
 rw [Zl (by omega),hn] at h5
 have hx0:x = 0:=by
  rcases Yd x with h | h
  ·exact h
  ·have:1 * 256 ^ 32 ≤ x * 256 ^ 32:=Vt _ h
   omega
 subst hx0
 refine ⟨hx,?_⟩
 rw [Xi,Jr] at h5
 have h6:(r.take 32).length = 32:=by rw [Js]; omega
 have h7:=D1 (B:=256) (by decide) (l:=r.take 32) fun y hy => hlt y (Kp hy)
 rw [h6] at h7
 rw [h5]
 exact h7.symm
theorem Q1a {H:List Ob} {R:Value} {z r ds:List Nat} {l:List Ob} {il ol cl id off c n i x:Nat} (hsl:∀ r,Sl .i64 (mH H z r l) (.slice (some ⟨il,ol,none⟩) 33 cl) ord33) (hsd:∀ r,Sl .i64 (mH H z r l) (.slice (some ⟨id,off,none⟩) n c) ds)
  (hN:n < 2 ^ 40) (hi:ds[i]? = some x) (hx:x < 256) (hlen:r.length = 33) (hlt:∀ x ∈ r,x < 256) (hn:num 256 r = num 256 (ds.drop (i + 1)) % ell) :
  ∃ r',Jl T H.length Qip (l3I R (.slice (some ⟨id,off,none⟩) n c) (.slice (some ⟨il,ol,none⟩) 33 cl) (mrs H) i (mH H z r l) []) = some (.normal,l3I R (.slice (some ⟨id,off,none⟩) n c) (.slice (some ⟨il,ol,none⟩) 33 cl) (mrs H) ((i:Int) - 1) (mH H z r' l) []) ∧
   r'.length = 33 ∧ (∀ x ∈ r',x < 256) ∧ num 256 r' = num 256 (ds.drop i) % ell:=by
 obtain ⟨r1,h1,g1,g2⟩:=Qw9 (H:=H) (R:=R) (v0 := .slice (some ⟨id,off,none⟩) n c) (sl := .slice (some ⟨il,ol,none⟩) 33 cl) (z:=z) (l:=l) (i:=i) hlen
 have hsh:=Qzm (x:=x) hlen g1 g2
 have hr2len:(x :: r.take 32).length = 33:=by rw [Ja,Js]; omega
 have hr2lt:∀ y ∈ x :: r.take 32,y < 256:=by
  intro y hy
  rcases W0.1 hy with h | h
  ·omega
  ·exact hlt y (Kp h)
 obtain ⟨r',ex',h3,k1,k2,k3⟩:=Q1b (H:=H) (R:=R) (v0 := .slice (some ⟨id,off,none⟩) n c) (i:=i) hsl _ (x :: r.take 32) [] rfl hr2len hr2lt
 refine ⟨r',?_,k1,k2,?_⟩
 ·obtain ⟨o,ho,hv,hnl,hc⟩:=Qhf (hsd r1)
  have hin:i < n:=by rw [hnl]; exact (Q8.1 hi).1
  have hcx:=hc i x hi
  have e1:((0:Int) ≤ (i:Int)) = True:=eq_true (by omega)
  have e2:((i:Int) < (n:Int)) = True:=eq_true (by omega)
  have w1:IntKind.i64.wrap ((i:Int) - 1) = (i:Int) - 1:=K9 (by omega) (by omega)
  have hset:=Ux .i64 r1 0 x
  rw [hsh] at hset
  simp only [l4I,l3I,mH,mrs,Zb,Za] at h1 h3 ho ⊢
  simp only [Qip,Z0,quiet,cF,↓pF,reduceCtorEq,Qb,Qp,Yq,Xv,↓Zo,↓Zn,↓Zw,↓Zz,↓Zx,↓Zy,cL,Qo,Qn,Qx,Qw,Qu,Ql,Qk,Qv,Qd,Qz,Q0,Qq,Qf,Qh,Qg,Qt,Qs,Qr,Qm,Qe,cJ,Ka,e1,e2,w1,h1,ho,hv,hcx,hset,J2,g1,Jq,h3]
 ·obtain ⟨h32,ht⟩:=Q3v hlen hlt hn
  have hd:ds.drop i = x :: ds.drop (i + 1):=by
   have:=(Q8.1 hi)
   rw [U0 this.1,this.2]
  rw [k3,hd,num,num,ht,Qfk]
  rw [Qfv,Hf,Hh,← Hf,← Qfv]
def l0I (R:Value) (rs out:Value) (i:Int) (h:List Ob) (ex:Env):St:=⟨[(2,R),(3,rs),(11,out),(12,.int .i64 i)] ++ ex,h,[]⟩
theorem Qxb {H:List Ob} {R:Value} {z r:List Nat} {l:List Ob} (hlen:r.length = 33) (hlt:∀ x ∈ r,x < 256) :
  Jl T H.length (.block 10 (.loop Qir)) (l0I R (mrs H) (.pointer (some ⟨H.length + (l.length + 2),0,none⟩)) 0 (mH H z r (l ++ [⟨u8s (dig 256 32 0),true,true,true,1⟩])) []) =
   some (.normal,l0I R (mrs H) (.pointer (some ⟨H.length + (l.length + 2),0,none⟩)) 32 (mH H z r (l ++ [⟨u8s (r.take 32),true,true,true,1⟩])) [(86,.bool false)]):=by
 obtain ⟨st,h1,k,rfl,h2,h3⟩:=Vi (T:=T) (base:=H.length) (id:=10) (body:=Qir)
  (fun i st => ∃ k:List Nat,st = l0I R (mrs H) (.pointer (some ⟨H.length + (l.length + 2),0,none⟩)) i (mH H z r (l ++ [⟨u8s k,true,true,true,1⟩])) [] ∧ k.length = 32 ∧ ∀ t,t < i → k[t]? = r[t]?)
  (Q:=fun st => ∃ k:List Nat,st = l0I R (mrs H) (.pointer (some ⟨H.length + (l.length + 2),0,none⟩)) 32 (mH H z r (l ++ [⟨u8s k,true,true,true,1⟩])) [(86,.bool false)] ∧ k.length = 32 ∧ ∀ t,t < 32 → k[t]? = r[t]?)
  32 (s:=l0I R (mrs H) (.pointer (some ⟨H.length + (l.length + 2),0,none⟩)) 0 (mH H z r (l ++ [⟨u8s (dig 256 32 0),true,true,true,1⟩])) []) ⟨_,rfl,Kc _ _ _,fun t ht => by omega⟩
  (fun i st hi hs => by
   obtain ⟨k,rfl,h2,h3⟩:=hs
   obtain ⟨x,hx⟩:∃ y,r[i]? = some y:=⟨_,Q1 (by omega)⟩
   have hx':=hlt x (Zk hx)
   have hxc:=Yo (k := .i64) hx
   have e1:((i:Int) < 32) = True:=eq_true (by omega)
   have e2:((i:Int) < (33:Int)) = True:=eq_true (by omega)
   have e3:((i:Int) < (32:Int)) = True:=eq_true (by omega)
   have w1:IntKind.i64.wrap ((i:Int) + 1) = ((i + 1:Nat):Int):=Vn (n:=i + 1) (by omega)
   have w2:=Qmh hx'
   have e5:i + 1 ≤ 32:=by omega
   have hset:=U3 k i x
   refine ⟨_,?_,k.set i x,rfl,by rw [Xe]; exact h2,fun t ht => ?_⟩
   ·simp only [l0I,mH,mrs,Qir,Z0,quiet,cF,↓pF,reduceCtorEq,Qb,Qp,Yq,Xv,↓Zo,↓Zn,↓Zw,↓Zz,↓Zx,↓Zy,cL,Qo,Qn,Qx,Qw,Qu,Ql,Qk,Qv,Qd,Qz,Q0,Qq,Qf,Qh,Qg,Qt,Qs,Qr,Qm,Qe,cJ,Ka,e1,e2,e3,w1,w2,hxc,X2,h2,e5,hset]
   ·by_cases hti:t = i
    ·subst hti
     rw [Xp (by omega),hx]
    ·rw [Jj (by omega)]
     exact h3 t (by omega))
  (fun st hs => by
   obtain ⟨k,rfl,h2,h3⟩:=hs
   refine ⟨_,?_,k,rfl,h2,h3⟩
   simp only [l0I,Qir,Z0,quiet,cF,↓pF,reduceCtorEq,Qb,Qp,Yq,Xv,↓Zo,↓Zn,↓Zw,↓Zz,↓Zx,↓Zy,cL,Qo,Qn,Qx,Qw,Qu,Ql,Qk,Qv,Qd,Qz,Q0,Qq,Qf,Qh,Qg,Qt,Qs,Qr,Qm,Qe])
 have hk:k = r.take 32:=by
  apply Ym
  intro t
  rw [Ks]
  by_cases ht:t < 32
  ·rw [if_pos ht,h3 t ht]
  ·rw [if_neg ht,J0 (by omega)]
 rw [← hk]
 exact h1
theorem Qso {H:List Ob} {id off c n:Nat} {ds:List Nat} (hsd:Sl .i64 H (.slice (some ⟨id,off,none⟩) n c) ds) (hN:n < 2 ^ 40) (hlt:∀ x ∈ ds,x < 256) :
  ∃ l,V6 T 60 [.slice (some ⟨id,off,none⟩) n c] H = some (.agg (u8s (dig 256 32 (num 256 ds % ell))).toArray,H ++ l,[]):=by
 have hz:Qa 32 (Value.int .u8 0) = u8s (dig 256 32 0):=rfl
 have hz33:(Qa 33 [Value.int .i64 0]).flatten = ns .i64 (Qa 33 0):=rfl
 have f0:fillL [Value.int .i64 0] [(0,1,.int .i64 0)] = some [.int .i64 0]:=rfl
 have f32:fillL (u8s (dig 256 32 0)) [] = some (u8s (dig 256 32 0)):=rfl
 have hnl:n = ds.length:=(Qhf hsd).choose_spec.2.2.1
 obtain ⟨s,l0,ho,hg⟩:=Qg7 (H ++ [⟨u8s (dig 256 32 0),true,true,true,1⟩,⟨ns .i64 (Qa 33 0),true,true,true,1⟩])
 obtain ⟨s',H',M,ha,hg',hM,hL,hK⟩:=Ml (x:=0) (bytes:=8) hg (by simp) (by rw [Qc4]; decide) (by decide)
 obtain ⟨l,rfl⟩:=Dz (H:=H ++ [⟨u8s (dig 256 32 0),true,true,true,1⟩,⟨ns .i64 (Qa 33 0),true,true,true,1⟩]) hL (fun i hi => by rw [hK i hi,Qy hi])
 have hm:Xo H.length [] M = []:=Yi fun i hi => by have:=hM i hi; simp at this; omega
 obtain ⟨il,ol,cl,hs',hrow⟩:=hg'.sl.row (by simp [Qc4])
 have hil:H.length + 2 ≤ il:=by
  cases hg' with
  | own h _ _ => cases hs'; simpa using h
  | new h _ _ => cases hs'; simpa using h
 have hs33:(Qpv ++ [0]).length = 33:=Qa3
 rw [hs33] at hs'
 have hsl0:Sl .i64 (mH H (dig 256 32 0) (Qa 33 0) l) (.slice (some ⟨il,ol,none⟩) 33 cl) ord33:=by
  have:=hg'.sl
  rw [hs'] at this
  have e:H ++ [⟨u8s (dig 256 32 0),true,true,true,1⟩,⟨ns .i64 (Qa 33 0),true,true,true,1⟩] ++ l = mH H (dig 256 32 0) (Qa 33 0) l:=by
   rw [Jx]; rfl
  rw [e] at this
  exact this
 have hsl:∀ r,Sl .i64 (mH H (dig 256 32 0) r l) (.slice (some ⟨il,ol,none⟩) 33 cl) ord33:=fun r => Qw6 rfl (by omega) hsl0
 have hsd':∀ r,Sl .i64 (mH H (dig 256 32 0) r l) (.slice (some ⟨id,off,none⟩) n c) ds:=fun r => hsd.app
 have hslA:∀ r,Sl .i64 (mH H (dig 256 32 0) r (l ++ [])) (.slice (some ⟨il,ol,none⟩) 33 cl) ord33:=fun r => by rw [Kw]; exact hsl r
 have w0:IntKind.i64.wrap ((n:Int) - 1) = (n:Int) - 1:=K9 (by omega) (by omega)
 obtain ⟨st,hb,r,rfl,k1,k2,k3⟩:=Vi (T:=T) (base:=H.length) (id:=0) (body:=Qip)
  (fun j st => ∃ r:List Nat,st = l3I (.pointer (some ⟨H.length,0,none⟩)) (.slice (some ⟨id,off,none⟩) n c) (.slice (some ⟨il,ol,none⟩) 33 cl) (mrs H) ((n:Int) - 1 - j) (mH H (dig 256 32 0) r l) [] ∧ r.length = 33 ∧ (∀ x ∈ r,x < 256) ∧ num 256 r = num 256 (ds.drop (n - j)) % ell)
  (Q:=fun st => ∃ r:List Nat,st = l3I (.pointer (some ⟨H.length,0,none⟩)) (.slice (some ⟨id,off,none⟩) n c) (.slice (some ⟨il,ol,none⟩) 33 cl) (mrs H) (-1) (mH H (dig 256 32 0) r l) [(21,.bool false)] ∧ r.length = 33 ∧ (∀ x ∈ r,x < 256) ∧ num 256 r = num 256 ds % ell)
  n (s:=l3I (.pointer (some ⟨H.length,0,none⟩)) (.slice (some ⟨id,off,none⟩) n c) (.slice (some ⟨il,ol,none⟩) 33 cl) (mrs H) ((n:Int) - 1) (mH H (dig 256 32 0) (Qa 33 0) l) []) ⟨Qa 33 0,by rw [show ((n:Int) - 1 - ((0:Nat):Int)) = (n:Int) - 1 by omega],by simp,by decide,by rw [Yb (by omega)]; decide⟩
  (fun j st hj hs => by
   obtain ⟨r,rfl,k1,k2,k3⟩:=hs
   obtain ⟨i,hi⟩:∃ i,n - j = i + 1:=⟨n - j - 1,by omega⟩
   obtain ⟨x,hx⟩:∃ y,ds[i]? = some y:=⟨_,Q1 (by omega)⟩
   rw [hi] at k3
   obtain ⟨r',g1,g2,g3,g4⟩:=Q1a (R := .pointer (some ⟨H.length,0,none⟩)) hsl hsd' hN hx (hlt x (Zk hx)) k1 k2 k3
   rw [show (n:Int) - 1 - j = (i:Int) by omega]
   refine ⟨_,g1,r',?_,g2,g3,?_⟩
   ·rw [show (n:Int) - 1 - ((j + 1:Nat):Int) = (i:Int) - 1 by omega]
   ·rw [show n - (j + 1) = i by omega]; exact g4)
  (fun st hs => by
   obtain ⟨r,rfl,k1,k2,k3⟩:=hs
   rw [Kv,Q2] at k3
   refine ⟨_,?_,r,rfl,k1,k2,k3⟩
   have e:((0:Int) ≤ -1) = False:=by decide
   rw [show (n:Int) - 1 - n = -1 by omega]
   simp only [l3I,Qip,Z0,quiet,cF,↓pF,reduceCtorEq,Qb,Qp,Yq,Xv,↓Zo,↓Zn,↓Zw,↓Zz,↓Zx,↓Zy,cL,Qo,Qn,Qx,Qw,Qu,Ql,Qk,Qv,Qd,Qz,Q0,Qq,Qf,Qh,Qg,Qt,Qs,Qr,Qm,Qe,e])
 have hb0:=Qxb (H:=H) (R := .pointer (some ⟨H.length,0,none⟩)) (z:=dig 256 32 0) (l:=l) k1 k2
 rw [(Q3v k1 k2 k3).2] at hb0
 have hl32:(dig 256 32 (num 256 ds % ell)).length = 32:=Kc _ _ _
 have hl0:(dig 256 32 0).length = 32:=rfl
 generalize dig 256 32 (num 256 ds % ell) = K at *
 simp only [l3I,l0I,mrs,mH,Zb,Za,Jx,hs',Z4,Ja,Jf,Z1,Qf,Ka,Xu] at hb hb0 ha ho
 apply Zt
 rw [Jc (fn:=a43) rfl]
 simp only [a43,Z0,quiet,cF,↓pF,reduceCtorEq,Qb,Qp,Yq,Xv,↓Zo,↓Zn,↓Zw,↓Zz,↓Zx,↓Zy,cL,Qo,Qn,Qx,Qw,Qu,Ql,Qk,Qv,Qd,Qz,Q0,Qq,Qf,Qh,Qg,Qt,Qs,Qr,Qm,Qe,cJ,Ka,hz,hz33,f0,f32,ho,ha,hm,w0,hb,l3I,mH,mrs,hb0,l0I,hl0,hl32,X2,J2]
 rfl
def caI (a d:List Nat) (i:Int) (ex:Env):St:=⟨[(1,.pointer (some ⟨0,0,none⟩)),(3,.slice (some ⟨1,0,none⟩) 32 32),(4,.int .i64 i)] ++ ex,[⟨u8s a,true,true,true,1⟩,⟨ns .i64 d,true,true,true,1⟩],[]⟩
theorem Qyp {a d:List Nat} (la:a.length = 32) (xa:∀ x ∈ a,x < 256) (hd:d.length = 32) :
  Jl T 0 (.block 0 (.loop Qiv)) (caI a d 0 []) = some (.normal,caI a a 32 [(7,.bool false)]):=by
 obtain ⟨st,h1,d',rfl,h2,h3⟩:=Vi (T:=T) (base:=0) (id:=0) (body:=Qiv)
  (fun i st => ∃ d':List Nat,st = caI a d' i [] ∧ d'.length = 32 ∧ ∀ t,t < i → d'[t]? = a[t]?)
  (Q:=fun st => ∃ d':List Nat,st = caI a d' 32 [(7,.bool false)] ∧ d'.length = 32 ∧ ∀ t,t < 32 → d'[t]? = a[t]?)
  32 (s:=caI a d 0 []) ⟨d,rfl,hd,fun t ht => by omega⟩
  (fun i st hi hs => by
   obtain ⟨d',rfl,h2,h3⟩:=hs
   obtain ⟨x,hx⟩:∃ y,a[i]? = some y:=⟨_,Q1 (by omega)⟩
   have hx':=xa x (Zk hx)
   have hxc:=Wo hx
   have hset:=Ux .i64 d' i x
   have e1:((i:Int) < 32) = True:=eq_true (by omega)
   have e2:((i:Int) < (32:Int)) = True:=eq_true (by omega)
   have w1:IntKind.i64.wrap ((i:Int) + 1) = ((i + 1:Nat):Int):=Vn (n:=i + 1) (by omega)
   have w3:IntKind.i64.wrap (x:Int) = (x:Int):=Vn (by omega)
   have e8:i + 1 ≤ 32:=by omega
   refine ⟨_,?_,d'.set i x,rfl,by rw [Xe]; exact h2,fun t ht => ?_⟩
   ·simp only [caI,Qiv,Z0,quiet,cF,↓pF,reduceCtorEq,Qb,Qp,Yq,Xv,↓Zo,↓Zn,↓Zw,↓Zz,↓Zx,↓Zy,cL,Qo,Qn,Qx,Qw,Qu,Ql,Qk,Qv,Qd,Qz,Q0,Qq,Qf,Qh,Qg,Qt,Qs,Qr,Qm,Qe,cJ,Ka,e1,e2,e8,w1,w3,hxc,hset,J2,h2]
   ·by_cases hti:t = i
    ·subst hti
     rw [Xp (by omega),hx]
    ·rw [Jj (by omega)]
     exact h3 t (by omega))
  (fun st hs => by
   obtain ⟨d',rfl,h2,h3⟩:=hs
   refine ⟨_,?_,d',rfl,h2,h3⟩
   simp only [caI,Qiv,Z0,quiet,cF,↓pF,reduceCtorEq,Qb,Qp,Yq,Xv,↓Zo,↓Zn,↓Zw,↓Zz,↓Zx,↓Zy,cL,Qo,Qn,Qx,Qw,Qu,Ql,Qk,Qv,Qd,Qz,Q0,Qq,Qf,Qh,Qg,Qt,Qs,Qr,Qm,Qe])
 have:d' = a:=by
  apply Ym
  intro t
  by_cases ht:t < 32
  ·exact h3 t ht
  ·rw [J0 (by omega),J0 (by omega)]
 rw [this] at h1
 exact h1
theorem Qfr {a:List Nat} (la:a.length = 32) (xa:∀ x ∈ a,x < 256):∃ l,V6 T 32 [.agg (u8s a).toArray] [] = some (.bool (decide (num 256 a < ell)),l,[]):=by
 have hz32:(Qa 32 [Value.int .i64 0]).flatten = ns .i64 (Qa 32 0):=rfl
 have h1:=Qyp la xa (d:=Qa 32 0) (by simp)
 obtain ⟨s,l,ho,hg⟩:=Qg7 [⟨u8s a,true,true,true,1⟩,⟨ns .i64 a,true,true,true,1⟩]
 have hsl:=Sl.mk (k := .i64) (H:=[⟨u8s a,true,true,true,1⟩,⟨ns .i64 a,true,true,true,1⟩] ++ l) (id:=1) (off:=0) (c:=32) (o:=⟨ns .i64 a,true,true,true,1⟩) (l:=a) (by simp [liveAt]) (by simp [J2]) (fun i x hx => by rw [Z1]; exact Yo hx)
 rw [la] at hsl
 have hless:=Qgt hsl hg.sl la Qc4 (by decide) (by decide) xa Qrm
 rw [Qm3] at hless
 simp only [caI,Zb,Za] at h1 ho hless
 apply Zt
 rw [Jc (fn:=a22) rfl]
 simp only [a22,Z0,quiet,cF,↓pF,reduceCtorEq,Qb,Qp,Yq,Xv,↓Zo,↓Zn,↓Zw,↓Zz,↓Zx,↓Zy,cL,Qo,Qn,Qx,Qw,Qu,Ql,Qk,Qv,Qd,Qz,Q0,Qq,Qf,Qh,Qg,Qt,Qs,Qr,Qm,Qe,cJ,Ka,hz32,h1,ho,hless]
 rfl
end Go.Ev.YtgacigcbglflkaaGreat
set_option linter.unusedSimpArgs false
set_option linter.unusedVariables false
namespace Go.Ev
def W8 (bs:List Nat):Value := .string ⟨(bs.map UInt8.ofNat).toArray⟩
theorem Qcq {bs:List Nat}:vLen true (W8 bs) = some (.int .i64 bs.length):=by simp [W8,vLen,ByteArray.size]
theorem Qo4 {bs:List Nat} {i x:Nat} (h:bs[i]? = some x) (hx:x < 256):Qav (W8 bs) (.int .i64 i) = some (.int .u8 (x:Nat)):=by
 have h1:((bs.map UInt8.ofNat).toArray.toList)[i]? = some (UInt8.ofNat x):=by simp [h]
 have h2:((0:Int) ≤ (i:Int)):=by omega
 have h3:(UInt8.ofNat x).toNat = x:=by rw [UInt8.toNat_ofNat']; omega
 simp only [W8,Qav,h2,if_true,Jh,h1,Q4,h3]
theorem Qam:∀ (bs:List Nat),Uv (u8s bs) = some (bs.map UInt8.ofNat)
 | [] => rfl
 | x :: r => by
  have:=Qam r
  simp only [u8s,Y9,Uv,Jh] at this ⊢
  rw [this]; rfl
end Go.Ev
namespace Go.Ev.YtgacigcbglflkaaGreat
open Go Go.Ev
attribute [local congr] W7 Ul W6 Um Wv
set_option maxRecDepth 100000
def rrI (bs d:List Nat) (n:Nat) (i:Int) (ex:Env):St:=⟨[(0,W8 bs),(2,.pointer (some ⟨0,0,none⟩)),(3,.slice (some ⟨1,0,none⟩) n n),(4,.int .i64 i)] ++ ex,[⟨u8s (dig 256 32 0),true,true,true,1⟩,⟨ns .i64 d,true,true,true,1⟩],[]⟩
theorem Qvp {bs d:List Nat} {n:Nat} (hn:bs.length = n) (hN:n < 2 ^ 40) (xb:∀ x ∈ bs,x < 256) (hd:d.length = n) :
  Jl T 0 (.block 0 (.loop Qiw)) (rrI bs d n 0 []) = some (.normal,rrI bs bs n n [(11,.bool false)]):=by
 obtain ⟨st,h1,d',rfl,h2,h3⟩:=Vi (T:=T) (base:=0) (id:=0) (body:=Qiw)
  (fun i st => ∃ d':List Nat,st = rrI bs d' n i [] ∧ d'.length = n ∧ ∀ t,t < i → d'[t]? = bs[t]?)
  (Q:=fun st => ∃ d':List Nat,st = rrI bs d' n n [(11,.bool false)] ∧ d'.length = n ∧ ∀ t,t < n → d'[t]? = bs[t]?)
  n (s:=rrI bs d n 0 []) ⟨d,rfl,hd,fun t ht => by omega⟩
  (fun i st hi hs => by
   obtain ⟨d',rfl,h2,h3⟩:=hs
   obtain ⟨x,hx⟩:∃ y,bs[i]? = some y:=⟨_,Q1 (by omega)⟩
   have hx':=xb x (Zk hx)
   have hxi:=Qo4 hx hx'
   have hset:=Ux .i64 d' i x
   have hl:=Qcq (bs:=bs)
   rw [hn] at hl
   have e1:((i:Int) < (n:Int)) = True:=eq_true (by omega)
   have w1:IntKind.i64.wrap ((i:Int) + 1) = ((i + 1:Nat):Int):=Vn (n:=i + 1) (by omega)
   have w3:IntKind.i64.wrap (x:Int) = (x:Int):=Vn (by omega)
   have e8:i + 1 ≤ n:=by omega
   refine ⟨_,?_,d'.set i x,rfl,by rw [Xe]; exact h2,fun t ht => ?_⟩
   ·simp only [rrI,Qiw,Z0,quiet,cF,↓pF,reduceCtorEq,Qb,Qp,Yq,Xv,↓Zo,↓Zn,↓Zw,↓Zz,↓Zx,↓Zy,cL,Qo,Qn,Qx,Qw,Qu,Ql,Qk,Qv,Qd,Qz,Q0,Qq,Qf,Qh,Qg,Qt,Qs,Qr,Qm,Qe,cJ,Ka,hl,hxi,e1,e8,w1,w3,hset,J2,h2]
   ·by_cases hti:t = i
    ·subst hti
     rw [Xp (by omega),hx]
    ·rw [Jj (by omega)]
     exact h3 t (by omega))
  (fun st hs => by
   obtain ⟨d',rfl,h2,h3⟩:=hs
   have hl:=Qcq (bs:=bs)
   rw [hn] at hl
   refine ⟨_,?_,d',rfl,h2,h3⟩
   simp only [rrI,Qiw,Z0,quiet,cF,↓pF,reduceCtorEq,Qb,Qp,Yq,Xv,↓Zo,↓Zn,↓Zw,↓Zz,↓Zx,↓Zy,cL,Qo,Qn,Qx,Qw,Qu,Ql,Qk,Qv,Qd,Qz,Q0,Qq,Qf,Qh,Qg,Qt,Qs,Qr,Qm,Qe,hl])
 have:d' = bs:=by
  apply Ym
  intro t
  by_cases ht:t < n
  ·exact h3 t ht
  ·rw [J0 (by omega),J0 (by omega)]
 rw [this] at h1
 exact h1
theorem Qot (n:Nat):(Qa n [Value.int .i64 0]).flatten = ns .i64 (Qa n 0):=by
 induction n with
 | zero => rfl
 | succ n ih => rw [Uh,Vj,ih,Uh]; rfl
theorem Qk1 {bs:List Nat} {n:Nat} (hn:bs.length = n) (hN:n < 2 ^ 40) (xb:∀ x ∈ bs,x < 256):∃ l,V6 T 54 [W8 bs] [] = some (.agg (u8s (rd bs)).toArray,l,[]):=by
 have hz:Qa 32 (Value.int .u8 0) = u8s (dig 256 32 0):=rfl
 have hl:=Qcq (bs:=bs)
 rw [hn] at hl
 have h1:=Qvp hn hN xb (d:=Qa n 0) (by simp)
 have hsl:=Sl.mk (k := .i64) (H:=[⟨u8s (dig 256 32 0),true,true,true,1⟩,⟨ns .i64 bs,true,true,true,1⟩]) (id:=1) (off:=0) (c:=n) (o:=⟨ns .i64 bs,true,true,true,1⟩) (l:=bs) (by simp [liveAt]) (by simp [J2]) (fun i x hx => by rw [Z1]; exact Yo hx)
 rw [hn] at hsl
 obtain ⟨l,hm⟩:=Qso hsl hN xb
 rw [Q5d] at hm
 have e1:((n:Int) * ((8:Nat):Int) ≤ 2 ^ 47) = True:=eq_true (by omega)
 simp only [Ww,Qq] at e1
 simp only [rrI,Zb,Za,Xu] at h1 hm
 apply Zt
 rw [Jc (fn:=a18) rfl]
 simp only [a18,Z0,quiet,cF,↓pF,reduceCtorEq,Qb,Qp,Yq,Xv,↓Zo,↓Zn,↓Zw,↓Zz,↓Zx,↓Zy,cL,Qo,Qn,Qx,Qw,Qu,Ql,Qk,Qv,Qd,Qz,Q0,Qq,Qf,Qh,Qg,Qt,Qs,Qr,Qm,Qe,cJ,Ka,hz,hl,e1,Qot,h1,hm,X2,Qpi,Kc]
 rfl
end Go.Ev.YtgacigcbglflkaaGreat
set_option linter.unusedSimpArgs false
set_option linter.unusedVariables false
namespace Go.Ev.YtgacigcbglflkaaGreat
open Go Go.Ev Go.Proofs
set_option maxRecDepth 100000
theorem tab16 : ∃ fn, Tryz.prog.funcs[36]? = some fn ∧ compFun Tryz.prog fn = some a16.strip ∧ (fn.name == "runtime.NumGoroutine") = false := ⟨Tryz.f36, Tryz.func36, by kernel_rfl, by kernel_rfl⟩
theorem tab17 : ∃ fn, Tryz.prog.funcs[47]? = some fn ∧ compFun Tryz.prog fn = some a17.strip ∧ (fn.name == "runtime.NumGoroutine") = false := ⟨Tryz.f47, Tryz.func47, by kernel_rfl, by kernel_rfl⟩
theorem tab18 : ∃ fn, Tryz.prog.funcs[54]? = some fn ∧ compFun Tryz.prog fn = some a18.strip ∧ (fn.name == "runtime.NumGoroutine") = false := ⟨Tryz.f54, Tryz.func54, by kernel_rfl, by kernel_rfl⟩
theorem tab19 : ∃ fn, Tryz.prog.funcs[18]? = some fn ∧ compFun Tryz.prog fn = some a19.strip ∧ (fn.name == "runtime.NumGoroutine") = false := ⟨Tryz.f18, Tryz.func18, by kernel_rfl, by kernel_rfl⟩
theorem tab21 : ∃ fn, Tryz.prog.funcs[28]? = some fn ∧ compFun Tryz.prog fn = some a21.strip ∧ (fn.name == "runtime.NumGoroutine") = false := ⟨Tryz.f28, Tryz.func28, by kernel_rfl, by kernel_rfl⟩
theorem tab22 : ∃ fn, Tryz.prog.funcs[32]? = some fn ∧ compFun Tryz.prog fn = some a22.strip ∧ (fn.name == "runtime.NumGoroutine") = false := ⟨Tryz.f32, Tryz.func32, by kernel_rfl, by kernel_rfl⟩
theorem tab23 : ∃ fn, Tryz.prog.funcs[76]? = some fn ∧ compFun Tryz.prog fn = some a23.strip ∧ (fn.name == "runtime.NumGoroutine") = false := ⟨Tryz.f76, Tryz.func76, by kernel_rfl, by kernel_rfl⟩
theorem tab25 : ∃ fn, Tryz.prog.funcs[14]? = some fn ∧ compFun Tryz.prog fn = some a25.strip ∧ (fn.name == "runtime.NumGoroutine") = false := ⟨Tryz.f14, Tryz.func14, by kernel_rfl, by kernel_rfl⟩
theorem tab26 : ∃ fn, Tryz.prog.funcs[15]? = some fn ∧ compFun Tryz.prog fn = some a26.strip ∧ (fn.name == "runtime.NumGoroutine") = false := ⟨Tryz.f15, Tryz.func15, by kernel_rfl, by kernel_rfl⟩
theorem tab27 : ∃ fn, Tryz.prog.funcs[29]? = some fn ∧ compFun Tryz.prog fn = some a27.strip ∧ (fn.name == "runtime.NumGoroutine") = false := ⟨Tryz.f29, Tryz.func29, by kernel_rfl, by kernel_rfl⟩
theorem tab28 : ∃ fn, Tryz.prog.funcs[67]? = some fn ∧ compFun Tryz.prog fn = some a28.strip ∧ (fn.name == "runtime.NumGoroutine") = false := ⟨Tryz.f67, Tryz.func67, by kernel_rfl, by kernel_rfl⟩
theorem tab29 : ∃ fn, Tryz.prog.funcs[16]? = some fn ∧ compFun Tryz.prog fn = some a29.strip ∧ (fn.name == "runtime.NumGoroutine") = false := ⟨Tryz.f16, Tryz.func16, by kernel_rfl, by kernel_rfl⟩
theorem tab30 : ∃ fn, Tryz.prog.funcs[40]? = some fn ∧ compFun Tryz.prog fn = some a30.strip ∧ (fn.name == "runtime.NumGoroutine") = false := ⟨Tryz.f40, Tryz.func40, by kernel_rfl, by kernel_rfl⟩
theorem tab31 : ∃ fn, Tryz.prog.funcs[26]? = some fn ∧ compFun Tryz.prog fn = some a31.strip ∧ (fn.name == "runtime.NumGoroutine") = false := ⟨Tryz.f26, Tryz.func26, by kernel_rfl, by kernel_rfl⟩
theorem tab32 : ∃ fn, Tryz.prog.funcs[31]? = some fn ∧ compFun Tryz.prog fn = some a32.strip ∧ (fn.name == "runtime.NumGoroutine") = false := ⟨Tryz.f31, Tryz.func31, by kernel_rfl, by kernel_rfl⟩
theorem tab33 : ∃ fn, Tryz.prog.funcs[22]? = some fn ∧ compFun Tryz.prog fn = some a33.strip ∧ (fn.name == "runtime.NumGoroutine") = false := ⟨Tryz.f22, Tryz.func22, by kernel_rfl, by kernel_rfl⟩
theorem tab34 : ∃ fn, Tryz.prog.funcs[30]? = some fn ∧ compFun Tryz.prog fn = some a34.strip ∧ (fn.name == "runtime.NumGoroutine") = false := ⟨Tryz.f30, Tryz.func30, by kernel_rfl, by kernel_rfl⟩
theorem tab35 : ∃ fn, Tryz.prog.funcs[33]? = some fn ∧ compFun Tryz.prog fn = some a35.strip ∧ (fn.name == "runtime.NumGoroutine") = false := ⟨Tryz.f33, Tryz.func33, by kernel_rfl, by kernel_rfl⟩
theorem tab36 : ∃ fn, Tryz.prog.funcs[34]? = some fn ∧ compFun Tryz.prog fn = some a36.strip ∧ (fn.name == "runtime.NumGoroutine") = false := ⟨Tryz.f34, Tryz.func34, by kernel_rfl, by kernel_rfl⟩
theorem tab37 : ∃ fn, Tryz.prog.funcs[24]? = some fn ∧ compFun Tryz.prog fn = some a37.strip ∧ (fn.name == "runtime.NumGoroutine") = false := ⟨Tryz.f24, Tryz.func24, by kernel_rfl, by kernel_rfl⟩
theorem tab38 : ∃ fn, Tryz.prog.funcs[23]? = some fn ∧ compFun Tryz.prog fn = some a38.strip ∧ (fn.name == "runtime.NumGoroutine") = false := ⟨Tryz.f23, Tryz.func23, by kernel_rfl, by kernel_rfl⟩
theorem tab39 : ∃ fn, Tryz.prog.funcs[27]? = some fn ∧ compFun Tryz.prog fn = some a39.strip ∧ (fn.name == "runtime.NumGoroutine") = false := ⟨Tryz.f27, Tryz.func27, by kernel_rfl, by kernel_rfl⟩
theorem tab40 : ∃ fn, Tryz.prog.funcs[48]? = some fn ∧ compFun Tryz.prog fn = some a40.strip ∧ (fn.name == "runtime.NumGoroutine") = false := ⟨Tryz.f48, Tryz.func48, by kernel_rfl, by kernel_rfl⟩
theorem tab41 : ∃ fn, Tryz.prog.funcs[51]? = some fn ∧ compFun Tryz.prog fn = some a41.strip ∧ (fn.name == "runtime.NumGoroutine") = false := ⟨Tryz.f51, Tryz.func51, by kernel_rfl, by kernel_rfl⟩
theorem tab42 : ∃ fn, Tryz.prog.funcs[52]? = some fn ∧ compFun Tryz.prog fn = some a42.strip ∧ (fn.name == "runtime.NumGoroutine") = false := ⟨Tryz.f52, Tryz.func52, by kernel_rfl, by kernel_rfl⟩
theorem tab43 : ∃ fn, Tryz.prog.funcs[60]? = some fn ∧ compFun Tryz.prog fn = some a43.strip ∧ (fn.name == "runtime.NumGoroutine") = false := ⟨Tryz.f60, Tryz.func60, by kernel_rfl, by kernel_rfl⟩
theorem tab44 : ∃ fn, Tryz.prog.funcs[49]? = some fn ∧ compFun Tryz.prog fn = some a44.strip ∧ (fn.name == "runtime.NumGoroutine") = false := ⟨Tryz.f49, Tryz.func49, by kernel_rfl, by kernel_rfl⟩
theorem tab45 : ∃ fn, Tryz.prog.funcs[50]? = some fn ∧ compFun Tryz.prog fn = some a45.strip ∧ (fn.name == "runtime.NumGoroutine") = false := ⟨Tryz.f50, Tryz.func50, by kernel_rfl, by kernel_rfl⟩
theorem tab46 : ∃ fn, Tryz.prog.funcs[68]? = some fn ∧ compFun Tryz.prog fn = some a46.strip ∧ (fn.name == "runtime.NumGoroutine") = false := ⟨Tryz.f68, Tryz.func68, by kernel_rfl, by kernel_rfl⟩
theorem tab47 : ∃ fn, Tryz.prog.funcs[69]? = some fn ∧ compFun Tryz.prog fn = some a47.strip ∧ (fn.name == "runtime.NumGoroutine") = false := ⟨Tryz.f69, Tryz.func69, by kernel_rfl, by kernel_rfl⟩
theorem tab48 : ∃ fn, Tryz.prog.funcs[75]? = some fn ∧ compFun Tryz.prog fn = some a48.strip ∧ (fn.name == "runtime.NumGoroutine") = false := ⟨Tryz.f75, Tryz.func75, by kernel_rfl, by kernel_rfl⟩
theorem tab49 : ∃ fn, Tryz.prog.funcs[37]? = some fn ∧ compFun Tryz.prog fn = some a49.strip ∧ (fn.name == "runtime.NumGoroutine") = false := ⟨Tryz.f37, Tryz.func37, by kernel_rfl, by kernel_rfl⟩
theorem tab50 : ∃ fn, Tryz.prog.funcs[38]? = some fn ∧ compFun Tryz.prog fn = some a50.strip ∧ (fn.name == "runtime.NumGoroutine") = false := ⟨Tryz.f38, Tryz.func38, by kernel_rfl, by kernel_rfl⟩
theorem tab51 : ∃ fn, Tryz.prog.funcs[39]? = some fn ∧ compFun Tryz.prog fn = some a51.strip ∧ (fn.name == "runtime.NumGoroutine") = false := ⟨Tryz.f39, Tryz.func39, by kernel_rfl, by kernel_rfl⟩
theorem tab52 : ∃ fn, Tryz.prog.funcs[41]? = some fn ∧ compFun Tryz.prog fn = some a52.strip ∧ (fn.name == "runtime.NumGoroutine") = false := ⟨Tryz.f41, Tryz.func41, by kernel_rfl, by kernel_rfl⟩
theorem tab53 : ∃ fn, Tryz.prog.funcs[42]? = some fn ∧ compFun Tryz.prog fn = some a53.strip ∧ (fn.name == "runtime.NumGoroutine") = false := ⟨Tryz.f42, Tryz.func42, by kernel_rfl, by kernel_rfl⟩
theorem tab54 : ∃ fn, Tryz.prog.funcs[43]? = some fn ∧ compFun Tryz.prog fn = some a54.strip ∧ (fn.name == "runtime.NumGoroutine") = false := ⟨Tryz.f43, Tryz.func43, by kernel_rfl, by kernel_rfl⟩
theorem tab55 : ∃ fn, Tryz.prog.funcs[96]? = some fn ∧ compFun Tryz.prog fn = some a55.strip ∧ (fn.name == "runtime.NumGoroutine") = false := ⟨Tryz.f96, Tryz.func96, by kernel_rfl, by kernel_rfl⟩
theorem tab56 : ∃ fn, Tryz.prog.funcs[44]? = some fn ∧ compFun Tryz.prog fn = some a56.strip ∧ (fn.name == "runtime.NumGoroutine") = false := ⟨Tryz.f44, Tryz.func44, by kernel_rfl, by kernel_rfl⟩
theorem tab57 : ∃ fn, Tryz.prog.funcs[45]? = some fn ∧ compFun Tryz.prog fn = some a57.strip ∧ (fn.name == "runtime.NumGoroutine") = false := ⟨Tryz.f45, Tryz.func45, by kernel_rfl, by kernel_rfl⟩
theorem tab58 : ∃ fn, Tryz.prog.funcs[46]? = some fn ∧ compFun Tryz.prog fn = some a58.strip ∧ (fn.name == "runtime.NumGoroutine") = false := ⟨Tryz.f46, Tryz.func46, by kernel_rfl, by kernel_rfl⟩
theorem tab59 : ∃ fn, Tryz.prog.funcs[61]? = some fn ∧ compFun Tryz.prog fn = some a59.strip ∧ (fn.name == "runtime.NumGoroutine") = false := ⟨Tryz.f61, Tryz.func61, by kernel_rfl, by kernel_rfl⟩
theorem tab60 : ∃ fn, Tryz.prog.funcs[62]? = some fn ∧ compFun Tryz.prog fn = some a60.strip ∧ (fn.name == "runtime.NumGoroutine") = false := ⟨Tryz.f62, Tryz.func62, by kernel_rfl, by kernel_rfl⟩
theorem tab61 : ∃ fn, Tryz.prog.funcs[63]? = some fn ∧ compFun Tryz.prog fn = some a61.strip ∧ (fn.name == "runtime.NumGoroutine") = false := ⟨Tryz.f63, Tryz.func63, by kernel_rfl, by kernel_rfl⟩
theorem tab62 : ∃ fn, Tryz.prog.funcs[64]? = some fn ∧ compFun Tryz.prog fn = some a62.strip ∧ (fn.name == "runtime.NumGoroutine") = false := ⟨Tryz.f64, Tryz.func64, by kernel_rfl, by kernel_rfl⟩
theorem tab63 : ∃ fn, Tryz.prog.funcs[65]? = some fn ∧ compFun Tryz.prog fn = some a63.strip ∧ (fn.name == "runtime.NumGoroutine") = false := ⟨Tryz.f65, Tryz.func65, by kernel_rfl, by kernel_rfl⟩
theorem tab64 : ∃ fn, Tryz.prog.funcs[66]? = some fn ∧ compFun Tryz.prog fn = some a64.strip ∧ (fn.name == "runtime.NumGoroutine") = false := ⟨Tryz.f66, Tryz.func66, by kernel_rfl, by kernel_rfl⟩
theorem tab65 : ∃ fn, Tryz.prog.funcs[70]? = some fn ∧ compFun Tryz.prog fn = some a65.strip ∧ (fn.name == "runtime.NumGoroutine") = false := ⟨Tryz.f70, Tryz.func70, by kernel_rfl, by kernel_rfl⟩
theorem tab66 : ∃ fn, Tryz.prog.funcs[56]? = some fn ∧ compFun Tryz.prog fn = some a66.strip ∧ (fn.name == "runtime.NumGoroutine") = false := ⟨Tryz.f56, Tryz.func56, by kernel_rfl, by kernel_rfl⟩
theorem tab67 : ∃ fn, Tryz.prog.funcs[57]? = some fn ∧ compFun Tryz.prog fn = some a67.strip ∧ (fn.name == "runtime.NumGoroutine") = false := ⟨Tryz.f57, Tryz.func57, by kernel_rfl, by kernel_rfl⟩
theorem tab68 : ∃ fn, Tryz.prog.funcs[71]? = some fn ∧ compFun Tryz.prog fn = some a68.strip ∧ (fn.name == "runtime.NumGoroutine") = false := ⟨Tryz.f71, Tryz.func71, by kernel_rfl, by kernel_rfl⟩
theorem tab69 : ∃ fn, Tryz.prog.funcs[72]? = some fn ∧ compFun Tryz.prog fn = some a69.strip ∧ (fn.name == "runtime.NumGoroutine") = false := ⟨Tryz.f72, Tryz.func72, by kernel_rfl, by kernel_rfl⟩
theorem tab70 : ∃ fn, Tryz.prog.funcs[59]? = some fn ∧ compFun Tryz.prog fn = some a70.strip ∧ (fn.name == "runtime.NumGoroutine") = false := ⟨Tryz.f59, Tryz.func59, by kernel_rfl, by kernel_rfl⟩
theorem tab71 : ∃ fn, Tryz.prog.funcs[55]? = some fn ∧ compFun Tryz.prog fn = some a71.strip ∧ (fn.name == "runtime.NumGoroutine") = false := ⟨Tryz.f55, Tryz.func55, by kernel_rfl, by kernel_rfl⟩
theorem tab72 : ∃ fn, Tryz.prog.funcs[73]? = some fn ∧ compFun Tryz.prog fn = some a72.strip ∧ (fn.name == "runtime.NumGoroutine") = false := ⟨Tryz.f73, Tryz.func73, by kernel_rfl, by kernel_rfl⟩
theorem tab73 : ∃ fn, Tryz.prog.funcs[74]? = some fn ∧ compFun Tryz.prog fn = some a73.strip ∧ (fn.name == "runtime.NumGoroutine") = false := ⟨Tryz.f74, Tryz.func74, by kernel_rfl, by kernel_rfl⟩
theorem tab74 : ∃ fn, Tryz.prog.funcs[58]? = some fn ∧ compFun Tryz.prog fn = some a74.strip ∧ (fn.name == "runtime.NumGoroutine") = false := ⟨Tryz.f58, Tryz.func58, by kernel_rfl, by kernel_rfl⟩
theorem tab75 : ∃ fn, Tryz.prog.funcs[89]? = some fn ∧ compFun Tryz.prog fn = some a75.strip ∧ (fn.name == "runtime.NumGoroutine") = false := ⟨Tryz.f89, Tryz.func89, by kernel_rfl, by kernel_rfl⟩
theorem tab76 : ∃ fn, Tryz.prog.funcs[88]? = some fn ∧ compFun Tryz.prog fn = some a76.strip ∧ (fn.name == "runtime.NumGoroutine") = false := ⟨Tryz.f88, Tryz.func88, by kernel_rfl, by kernel_rfl⟩
theorem tab77 : ∃ fn, Tryz.prog.funcs[80]? = some fn ∧ compFun Tryz.prog fn = some a77.strip ∧ (fn.name == "runtime.NumGoroutine") = false := ⟨Tryz.f80, Tryz.func80, by kernel_rfl, by kernel_rfl⟩
theorem tab78 : ∃ fn, Tryz.prog.funcs[81]? = some fn ∧ compFun Tryz.prog fn = some a78.strip ∧ (fn.name == "runtime.NumGoroutine") = false := ⟨Tryz.f81, Tryz.func81, by kernel_rfl, by kernel_rfl⟩
theorem tab79 : ∃ fn, Tryz.prog.funcs[82]? = some fn ∧ compFun Tryz.prog fn = some a79.strip ∧ (fn.name == "runtime.NumGoroutine") = false := ⟨Tryz.f82, Tryz.func82, by kernel_rfl, by kernel_rfl⟩
theorem tab80 : ∃ fn, Tryz.prog.funcs[83]? = some fn ∧ compFun Tryz.prog fn = some a80.strip ∧ (fn.name == "runtime.NumGoroutine") = false := ⟨Tryz.f83, Tryz.func83, by kernel_rfl, by kernel_rfl⟩
theorem tab81 : ∃ fn, Tryz.prog.funcs[84]? = some fn ∧ compFun Tryz.prog fn = some a81.strip ∧ (fn.name == "runtime.NumGoroutine") = false := ⟨Tryz.f84, Tryz.func84, by kernel_rfl, by kernel_rfl⟩
theorem tab82 : ∃ fn, Tryz.prog.funcs[85]? = some fn ∧ compFun Tryz.prog fn = some a82.strip ∧ (fn.name == "runtime.NumGoroutine") = false := ⟨Tryz.f85, Tryz.func85, by kernel_rfl, by kernel_rfl⟩
theorem tab83 : ∃ fn, Tryz.prog.funcs[86]? = some fn ∧ compFun Tryz.prog fn = some a83.strip ∧ (fn.name == "runtime.NumGoroutine") = false := ⟨Tryz.f86, Tryz.func86, by kernel_rfl, by kernel_rfl⟩
theorem tab84 : ∃ fn, Tryz.prog.funcs[87]? = some fn ∧ compFun Tryz.prog fn = some a84.strip ∧ (fn.name == "runtime.NumGoroutine") = false := ⟨Tryz.f87, Tryz.func87, by kernel_rfl, by kernel_rfl⟩
theorem tab85 : ∃ fn, Tryz.prog.funcs[94]? = some fn ∧ compFun Tryz.prog fn = some a85.strip ∧ (fn.name == "runtime.NumGoroutine") = false := ⟨Tryz.f94, Tryz.func94, by kernel_rfl, by kernel_rfl⟩
theorem tab86 : ∃ fn, Tryz.prog.funcs[95]? = some fn ∧ compFun Tryz.prog fn = some a86.strip ∧ (fn.name == "runtime.NumGoroutine") = false := ⟨Tryz.f95, Tryz.func95, by kernel_rfl, by kernel_rfl⟩
theorem tab87 : ∃ fn, Tryz.prog.funcs[93]? = some fn ∧ compFun Tryz.prog fn = some a87.strip ∧ (fn.name == "runtime.NumGoroutine") = false := ⟨Tryz.f93, Tryz.func93, by kernel_rfl, by kernel_rfl⟩
theorem tab88 : ∃ fn, Tryz.prog.funcs[91]? = some fn ∧ compFun Tryz.prog fn = some a88.strip ∧ (fn.name == "runtime.NumGoroutine") = false := ⟨Tryz.f91, Tryz.func91, by kernel_rfl, by kernel_rfl⟩
theorem tab89 : ∃ fn, Tryz.prog.funcs[97]? = some fn ∧ compFun Tryz.prog fn = some a89.strip ∧ (fn.name == "runtime.NumGoroutine") = false := ⟨Tryz.f97, Tryz.func97, by kernel_rfl, by kernel_rfl⟩
theorem tab90 : ∃ fn, Tryz.prog.funcs[92]? = some fn ∧ compFun Tryz.prog fn = some a90.strip ∧ (fn.name == "runtime.NumGoroutine") = false := ⟨Tryz.f92, Tryz.func92, by kernel_rfl, by kernel_rfl⟩
theorem tab91 : ∃ fn, Tryz.prog.funcs[101]? = some fn ∧ compFun Tryz.prog fn = some a91.strip ∧ (fn.name == "runtime.NumGoroutine") = false := ⟨Tryz.f101, Tryz.func101, by kernel_rfl, by kernel_rfl⟩
theorem tab93 : ∃ fn, Tryz.prog.funcs[108]? = some fn ∧ compFun Tryz.prog fn = some a93.strip ∧ (fn.name == "runtime.NumGoroutine") = false := ⟨Tryz.f108, Tryz.func108, by kernel_rfl, by kernel_rfl⟩
theorem Q45 : ∃ fn, Tryz.prog.funcs[6]? = some fn ∧ compFun Tryz.prog fn = some Q3i.strip ∧ (fn.name == "runtime.NumGoroutine") = false := ⟨Tryz.f6, Tryz.func6, by kernel_rfl, by kernel_rfl⟩
theorem Q44 : ∃ fn, Tryz.prog.funcs[7]? = some fn ∧ compFun Tryz.prog fn = some Q3h.strip ∧ (fn.name == "runtime.NumGoroutine") = false := ⟨Tryz.f7, Tryz.func7, by kernel_rfl, by kernel_rfl⟩
theorem Q43 : ∃ fn, Tryz.prog.funcs[11]? = some fn ∧ compFun Tryz.prog fn = some Qd0.strip ∧ (fn.name == "runtime.NumGoroutine") = false := ⟨Tryz.f11, Tryz.func11, by kernel_rfl, by kernel_rfl⟩
theorem Q42 : ∃ fn, Tryz.prog.funcs[9]? = some fn ∧ compFun Tryz.prog fn = some Q3g.strip ∧ (fn.name == "runtime.NumGoroutine") = false := ⟨Tryz.f9, Tryz.func9, by kernel_rfl, by kernel_rfl⟩
theorem Q41 : ∃ fn, Tryz.prog.funcs[13]? = some fn ∧ compFun Tryz.prog fn = some Q3f.strip ∧ (fn.name == "runtime.NumGoroutine") = false := ⟨Tryz.f13, Tryz.func13, by kernel_rfl, by kernel_rfl⟩
theorem Q40 : ∃ fn, Tryz.prog.funcs[17]? = some fn ∧ compFun Tryz.prog fn = some Q3e.strip ∧ (fn.name == "runtime.NumGoroutine") = false := ⟨Tryz.f17, Tryz.func17, by kernel_rfl, by kernel_rfl⟩
theorem Q4z : ∃ fn, Tryz.prog.funcs[35]? = some fn ∧ compFun Tryz.prog fn = some Q3d.strip ∧ (fn.name == "runtime.NumGoroutine") = false := ⟨Tryz.f35, Tryz.func35, by kernel_rfl, by kernel_rfl⟩
theorem Q4y : ∃ fn, Tryz.prog.funcs[77]? = some fn ∧ compFun Tryz.prog fn = some Q3c.strip ∧ (fn.name == "runtime.NumGoroutine") = false := ⟨Tryz.f77, Tryz.func77, by kernel_rfl, by kernel_rfl⟩
theorem Q4x : ∃ fn, Tryz.prog.funcs[78]? = some fn ∧ compFun Tryz.prog fn = some Q3b.strip ∧ (fn.name == "runtime.NumGoroutine") = false := ⟨Tryz.f78, Tryz.func78, by kernel_rfl, by kernel_rfl⟩
theorem Q4w : ∃ fn, Tryz.prog.funcs[79]? = some fn ∧ compFun Tryz.prog fn = some Q3a.strip ∧ (fn.name == "runtime.NumGoroutine") = false := ⟨Tryz.f79, Tryz.func79, by kernel_rfl, by kernel_rfl⟩
theorem Q4v : ∃ fn, Tryz.prog.funcs[98]? = some fn ∧ compFun Tryz.prog fn = some Q29.strip ∧ (fn.name == "runtime.NumGoroutine") = false := ⟨Tryz.f98, Tryz.func98, by kernel_rfl, by kernel_rfl⟩
theorem Q4u : ∃ fn, Tryz.prog.funcs[99]? = some fn ∧ compFun Tryz.prog fn = some Q28.strip ∧ (fn.name == "runtime.NumGoroutine") = false := ⟨Tryz.f99, Tryz.func99, by kernel_rfl, by kernel_rfl⟩
theorem Q4t : ∃ fn, Tryz.prog.funcs[100]? = some fn ∧ compFun Tryz.prog fn = some Q27.strip ∧ (fn.name == "runtime.NumGoroutine") = false := ⟨Tryz.f100, Tryz.func100, by kernel_rfl, by kernel_rfl⟩
theorem Q4s : ∃ fn, Tryz.prog.funcs[109]? = some fn ∧ compFun Tryz.prog fn = some Q26.strip ∧ (fn.name == "runtime.NumGoroutine") = false := ⟨Tryz.f109, Tryz.func109, by kernel_rfl, by kernel_rfl⟩
theorem Q4r : ∃ fn, Tryz.prog.funcs[110]? = some fn ∧ compFun Tryz.prog fn = some Q25.strip ∧ (fn.name == "runtime.NumGoroutine") = false := ⟨Tryz.f110, Tryz.func110, by kernel_rfl, by kernel_rfl⟩
theorem Q4q : ∃ fn, Tryz.prog.funcs[5]? = some fn ∧ compFun Tryz.prog fn = some Q24.strip ∧ (fn.name == "runtime.NumGoroutine") = false := ⟨Tryz.f5, Tryz.func5, by kernel_rfl, by kernel_rfl⟩
theorem Q4p : ∃ fn, Tryz.prog.funcs[12]? = some fn ∧ compFun Tryz.prog fn = some Qdt.strip ∧ (fn.name == "runtime.NumGoroutine") = false := ⟨Tryz.f12, Tryz.func12, by kernel_rfl, by kernel_rfl⟩
theorem Q4o : ∃ fn, Tryz.prog.funcs[20]? = some fn ∧ compFun Tryz.prog fn = some Q23.strip ∧ (fn.name == "runtime.NumGoroutine") = false := ⟨Tryz.f20, Tryz.func20, by kernel_rfl, by kernel_rfl⟩
theorem Q4n : ∃ fn, Tryz.prog.funcs[21]? = some fn ∧ compFun Tryz.prog fn = some Q22.strip ∧ (fn.name == "runtime.NumGoroutine") = false := ⟨Tryz.f21, Tryz.func21, by kernel_rfl, by kernel_rfl⟩
theorem Q4m : ∃ fn, Tryz.prog.funcs[53]? = some fn ∧ compFun Tryz.prog fn = some Q21.strip ∧ (fn.name == "runtime.NumGoroutine") = false := ⟨Tryz.f53, Tryz.func53, by kernel_rfl, by kernel_rfl⟩
theorem Q4l : ∃ fn, Tryz.prog.funcs[90]? = some fn ∧ compFun Tryz.prog fn = some Q20.strip ∧ (fn.name == "runtime.NumGoroutine") = false := ⟨Tryz.f90, Tryz.func90, by kernel_rfl, by kernel_rfl⟩
theorem Q4k : ∃ fn, Tryz.prog.funcs[103]? = some fn ∧ compFun Tryz.prog fn = some Q2z.strip ∧ (fn.name == "runtime.NumGoroutine") = false := ⟨Tryz.f103, Tryz.func103, by kernel_rfl, by kernel_rfl⟩
theorem Q4j : ∃ fn, Tryz.prog.funcs[104]? = some fn ∧ compFun Tryz.prog fn = some Q2y.strip ∧ (fn.name == "runtime.NumGoroutine") = false := ⟨Tryz.f104, Tryz.func104, by kernel_rfl, by kernel_rfl⟩
theorem Q4i : ∃ fn, Tryz.prog.funcs[105]? = some fn ∧ compFun Tryz.prog fn = some Q2x.strip ∧ (fn.name == "runtime.NumGoroutine") = false := ⟨Tryz.f105, Tryz.func105, by kernel_rfl, by kernel_rfl⟩
theorem Q4h : ∃ fn, Tryz.prog.funcs[106]? = some fn ∧ compFun Tryz.prog fn = some Q2w.strip ∧ (fn.name == "runtime.NumGoroutine") = false := ⟨Tryz.f106, Tryz.func106, by kernel_rfl, by kernel_rfl⟩
theorem Q4g : ∃ fn, Tryz.prog.funcs[107]? = some fn ∧ compFun Tryz.prog fn = some Q2v.strip ∧ (fn.name == "runtime.NumGoroutine") = false := ⟨Tryz.f107, Tryz.func107, by kernel_rfl, by kernel_rfl⟩
theorem Qqp (args:Array Value) (w:World):(callFunc 102 args).run Tryz.prog w = (((do
  let (x, y, c) ← Extern.MathBitsCarry.three "Add64" args
  pure (Extern.MathBitsCarry.pair ((x + y + c) % Extern.MathBitsCarry.m64) ((x + y + c) / Extern.MathBitsCarry.m64))):Sem Value).run Tryz.prog w).andThen fun v w' => .ok (.value v) w' :=
 run_callFunc_extern (e:=fun args => do
  let (x, y, c) ← Extern.MathBitsCarry.three "Add64" args
  pure (Extern.MathBitsCarry.pair ((x + y + c) % Extern.MathBitsCarry.m64) ((x + y + c) / Extern.MathBitsCarry.m64))) Tryz.func102 (by kernel_rfl) (by kernel_rfl) (by kernel_rfl) (by kernel_rfl) args w
theorem Qsh (P:Program) (w:World) (x y c:Int) (hc:c.toNat ≤ 1):(((do
  let (x, y, c) ← Extern.MathBitsCarry.three "Add64" [Value.int .u64 x, .int .u64 y, .int .u64 c].toArray
  pure (Extern.MathBitsCarry.pair ((x + y + c) % Extern.MathBitsCarry.m64) ((x + y + c) / Extern.MathBitsCarry.m64))):Sem Value).run P w) = .ok (.tuple #[.int .u64 ((x.toNat + y.toNat + c.toNat) % 18446744073709551616:Nat),.int .u64 ((x.toNat + y.toNat + c.toNat) / 18446744073709551616:Nat)]) w:=by
 have hc':¬ c.toNat > 1:=by omega
 have e : Extern.MathBitsCarry.three "Add64" [Value.int .u64 x, .int .u64 y, .int .u64 c].toArray = (if c.toNat > 1 then (do unsupported (.noEntry ("extern/math/bits." ++ "Add64" ++ ": a carry that is neither 0 nor 1")); pure (x.toNat, y.toNat, c.toNat)) else pure (x.toNat, y.toNat, c.toNat) : Sem (Nat × Nat × Nat)) := by
  rfl
 rw [e,if_neg hc']
 rfl
theorem Q4f (f:Nat) (args:List Value) (v:Value) (h:T.ext f args = some v):(∀ ρ,VRel ρ v v) ∧ ∀ w,(callFunc f args.toArray).run Tryz.prog w = .ok (.value v) w:=by
 have h':Q1w f args = some v:=h
 unfold Q1w at h'
 split at h'
 ·split at h'
  ·rename_i hc
   cases h'
   refine ⟨fun ρ => VRel.tuple (.cons (.same rfl) (.cons (.same rfl) .nil)),fun w => ?_⟩
   rw [Qqp,Qsh _ _ _ _ _ hc]
   rfl
  ·cases h'
 ·cases h'
theorem Qq4:TabOk Tryz.prog T:=by
 refine ⟨fun f af h => ?_,fun f args v _ h _ => Q4f f args v h⟩
 have h':fnS f = some af:=h
 unfold fnS at h'
 split at h'
 ·cases h'; exact tab16
 ·cases h'; exact tab17
 ·cases h'; exact tab18
 ·cases h'; exact tab19
 ·cases h'; exact tab21
 ·cases h'; exact tab22
 ·cases h'; exact tab23
 ·cases h'; exact tab25
 ·cases h'; exact tab26
 ·cases h'; exact tab27
 ·cases h'; exact tab28
 ·cases h'; exact tab29
 ·cases h'; exact tab30
 ·cases h'; exact tab31
 ·cases h'; exact tab32
 ·cases h'; exact tab33
 ·cases h'; exact tab34
 ·cases h'; exact tab35
 ·cases h'; exact tab36
 ·cases h'; exact tab37
 ·cases h'; exact tab38
 ·cases h'; exact tab39
 ·cases h'; exact tab40
 ·cases h'; exact tab41
 ·cases h'; exact tab42
 ·cases h'; exact tab43
 ·cases h'; exact tab44
 ·cases h'; exact tab45
 ·cases h'; exact tab46
 ·cases h'; exact tab47
 ·cases h'; exact tab48
 ·cases h'; exact tab49
 ·cases h'; exact tab50
 ·cases h'; exact tab51
 ·cases h'; exact tab52
 ·cases h'; exact tab53
 ·cases h'; exact tab54
 ·cases h'; exact tab55
 ·cases h'; exact tab56
 ·cases h'; exact tab57
 ·cases h'; exact tab58
 ·cases h'; exact tab59
 ·cases h'; exact tab60
 ·cases h'; exact tab61
 ·cases h'; exact tab62
 ·cases h'; exact tab63
 ·cases h'; exact tab64
 ·cases h'; exact tab65
 ·cases h'; exact tab66
 ·cases h'; exact tab67
 ·cases h'; exact tab68
 ·cases h'; exact tab69
 ·cases h'; exact tab70
 ·cases h'; exact tab71
 ·cases h'; exact tab72
 ·cases h'; exact tab73
 ·cases h'; exact tab74
 ·cases h'; exact tab75
 ·cases h'; exact tab76
 ·cases h'; exact tab77
 ·cases h'; exact tab78
 ·cases h'; exact tab79
 ·cases h'; exact tab80
 ·cases h'; exact tab81
 ·cases h'; exact tab82
 ·cases h'; exact tab83
 ·cases h'; exact tab84
 ·cases h'; exact tab85
 ·cases h'; exact tab86
 ·cases h'; exact tab87
 ·cases h'; exact tab88
 ·cases h'; exact tab89
 ·cases h'; exact tab90
 ·cases h'; exact tab91
 ·cases h'; exact tab93
 ·cases h'; exact Q45
 ·cases h'; exact Q44
 ·cases h'; exact Q43
 ·cases h'; exact Q42
 ·cases h'; exact Q41
 ·cases h'; exact Q40
 ·cases h'; exact Q4z
 ·cases h'; exact Q4y
 ·cases h'; exact Q4x
 ·cases h'; exact Q4w
 ·cases h'; exact Q4v
 ·cases h'; exact Q4u
 ·cases h'; exact Q4t
 ·cases h'; exact Q4s
 ·cases h'; exact Q4r
 ·cases h'; exact Q4q
 ·cases h'; exact Q4p
 ·cases h'; exact Q4o
 ·cases h'; exact Q4n
 ·cases h'; exact Q4m
 ·cases h'; exact Q4l
 ·cases h'; exact Q4k
 ·cases h'; exact Q4j
 ·cases h'; exact Q4i
 ·cases h'; exact Q4h
 ·cases h'; exact Q4g
 ·cases h'
theorem mixed:Tryz.prog.follows .mixedOrders = true:=by kernel_rfl
end Go.Ev.YtgacigcbglflkaaGreat
set_option linter.unusedSimpArgs false
set_option linter.unusedVariables false
namespace Go.Ev
open Go.RowKit Go.WideShapes Go.ChangeShapes
theorem Qsy {P:Program} {w:World} {r:Reach} {base:Nat} {t e:TypeId} {v:Value} {m n:Nat} {e':TypeId} (ht:P.underlying t = some (.array m e')) (hc:P.cellsOf t = n) (hts:P.cellTypes P.depth t = some (Qa n e)) (he:P.underlying e = some (.int .u8)) (hn:0 < n)
  (h:Value.okWide P w r base t v):∃ l:List Nat,v = .agg (u8s l).toArray ∧ l.length = n ∧ ∀ x ∈ l,x < 256:=by
 simp only [Value.okWide,ht] at h
 obtain ⟨cs,rfl,h1,ts,h2,-,h3⟩:=h
 rw [hc] at h1
 rw [hts] at h2
 cases h2
 have hcell:∀ (i:Nat) (v:Value),cs[i]? = some v → ∃ x:Nat,v = Value.int .u8 (x:Nat) ∧ x < 256:=by
  intro i v hv
  obtain ⟨u,g1,g2⟩:=h3 i v hv
  have hu:u = e:=by
   have:=Zk g1
   exact List.eq_of_mem_replicate this
  subst hu
  simp only [Cell.okWide,Cell.ok,he] at g2
  cases v <;> try (exact g2.elim)
  ·rename_i k x
   obtain ⟨rfl,g3,g4⟩:=g2
   have g3':(0:Int) ≤ x:=g3
   have g4':x ≤ 255:=g4
   exact ⟨x.toNat,by rw [Int.toNat_of_nonneg g3'],by omega⟩
 refine ⟨cs.toList.map fun v => match v with | .int _ n => n.toNat | _ => 0,?_,by simp [h1],?_⟩
 ·congr 1
  apply Gy
  intro i
  simp only [u8s,Ql4,Ms,Uw,Yu]
  cases hv:cs[i]? with
  | none => rfl
  | some v =>
   obtain ⟨x,rfl,hx⟩:=hcell i v hv
   simp
 ·intro x hx
  simp only [U7] at hx
  obtain ⟨v,hv,rfl⟩:=hx
  obtain ⟨i,hi⟩:=List.mem_iff_getElem?.1 hv
  rw [Yu] at hi
  obtain ⟨x,rfl,hx⟩:=hcell i v hi
  simpa using hx
def pl2 (p q:Place):Pl:=fun id => if id = 0 then some p else if id = 1 then some q else none
theorem Qz2 {w:World} {p q:Place} {l m:List Nat} (h1:p.block < w.heap.size) (h2:∀ ρ,ObjRel ρ w p (ob8 l)) (k1:q.block < w.heap.size) (k2:∀ ρ,ObjRel ρ w q (ob8 m)):RelF (pl2 p q) (hp [ob8 l,ob8 m]) w:=by
 refine ⟨fun id pp h => ?_,fun id ob pp h k hl => ?_,fun i j oi oj pi pj hi hj hpi hpj hl ho hlj hne => ?_⟩
 ·unfold pl2 at h
  split at h
  ·cases h; exact h1
  ·split at h
   ·cases h; exact k1
   ·cases h
 ·unfold pl2 at k
  split at k
  ·rename_i h0
   subst h0
   cases k
   simp [hp] at h
   subst h
   exact h2 _
  ·split at k
   ·rename_i h0
    subst h0
    cases k
    simp [hp] at h
    subst h
    exact k2 _
   ·cases k
 ·rcases i with _ | _ | i
  ·simp [hp] at hi
   subst hi
   cases ho
  ·simp [hp] at hi
   subst hi
   cases ho
  ·simp [hp] at hi
theorem Q0k {l m:List Nat}:∀ (i:Nat) (o:Ob),([ob8 l,ob8 m]:List Ob)[i]? = some o → o.own = false:=by
 intro i o h
 rcases i with _ | _ | i
 ·simp at h; subst h; rfl
 ·simp at h; subst h; rfl
 ·simp at h
theorem Qx0 {p q:Place} {l m:List Nat}:∀ id,([ob8 l,ob8 m]:List Ob).length ≤ id → pl2 p q id = none:=by
 intro id h
 have h0:¬ id = 0:=by simp at h; omega
 have h1:¬ id = 1:=by simp at h; omega
 simp [pl2,h0,h1]
end Go.Ev
set_option linter.unusedSimpArgs false
set_option linter.unusedVariables false
namespace Go.Ev
theorem n_add (a b:Nat):(a:Int) + (b:Int) = ((a + b:Nat):Int):=(B5 a b).symm
theorem n_mul (a b:Nat):(a:Int) * (b:Int) = ((a * b:Nat):Int):=(Uq a b).symm
theorem Q50 (n a:Nat):(no_index (@OfNat.ofNat Int n instOfNat)) + (a:Int) = ((n + a:Nat):Int):=(B5 n a).symm
theorem Q51 (n a:Nat):(a:Int) + (no_index (@OfNat.ofNat Int n instOfNat)) = ((a + n:Nat):Int):=(B5 a n).symm
theorem Q5z (n a:Nat):(no_index (@OfNat.ofNat Int n instOfNat)) * (a:Int) = ((n * a:Nat):Int):=(Uq n a).symm
theorem Q5y (n a:Nat):(a:Int) * (no_index (@OfNat.ofNat Int n instOfNat)) = ((a * n:Nat):Int):=(Uq a n).symm
theorem Qlh (a b:Nat):Tw (a:Int) (b:Int) = ((a / b:Nat):Int):=by
 rw [Y6 _ (Jg _)]; rfl
theorem Q02 (a n:Nat):Tw (a:Int) (no_index (@OfNat.ofNat Int n instOfNat)) = ((a / n:Nat):Int):=Qlh a n
theorem Q5x (a n:Nat):Int.tdiv (a:Int) (no_index (@OfNat.ofNat Int n instOfNat)) = ((a / n:Nat):Int):=rfl
theorem Q5w (a n:Nat):Int.tmod (a:Int) (no_index (@OfNat.ofNat Int n instOfNat)) = ((a % n:Nat):Int):=rfl
theorem Qbs (a:Nat):IntKind.u64.wrap (a:Int) = ((a % 18446744073709551616:Nat):Int):=by rw [Rt]; omega
theorem n_w32 (a:Nat):IntKind.u32.wrap (a:Int) = ((a % 4294967296:Nat):Int):=by rw [wrap_u32]; omega
theorem n_w16 (a:Nat):IntKind.u16.wrap (a:Int) = ((a % 65536:Nat):Int):=by rw [Qul]; omega
theorem Qp4 (a:Nat):IntKind.u8.wrap (a:Int) = ((a % 256:Nat):Int):=by rw [wrap_u8]; omega
theorem Qlg (a b:Nat):IntKind.u64.wrap ((a:Int) - (b:Int)) = (((a + (18446744073709551616 - b % 18446744073709551616)) % 18446744073709551616:Nat):Int):=by rw [Rt]; omega
theorem Qw4 (n b:Nat):IntKind.u64.wrap ((no_index (@OfNat.ofNat Int n instOfNat)) - (b:Int)) = (((n + (18446744073709551616 - b % 18446744073709551616)) % 18446744073709551616:Nat):Int):=Qlg n b
theorem Qw3 (a n:Nat):IntKind.u64.wrap ((a:Int) - (no_index (@OfNat.ofNat Int n instOfNat))) = (((a + (18446744073709551616 - n % 18446744073709551616)) % 18446744073709551616:Nat):Int):=Qlg a n
theorem Qha (w a:Nat):BitVec.ofInt w (a:Int) = BitVec.ofNat w a:=by simp
theorem n_and (k:IntKind) (hk:k.signed = false) (a b:Nat):Vz .and k (a:Int) (b:Int) = (((a % 2 ^ k.bits) &&& (b % 2 ^ k.bits):Nat):Int):=by
 simp only [Vz,Qha]
 rw [BitVec.toNat_and,BitVec.toNat_ofNat,BitVec.toNat_ofNat,Wq hk (Dr _ (Jk _ (Ws (by decide))))]
theorem n_or (k:IntKind) (hk:k.signed = false) (a b:Nat):Vz .or k (a:Int) (b:Int) = (((a % 2 ^ k.bits) ||| (b % 2 ^ k.bits):Nat):Int):=by
 simp only [Vz,Qha]
 rw [BitVec.toNat_or,BitVec.toNat_ofNat,BitVec.toNat_ofNat,Wq hk (Qbk (Jk _ (Ws (by decide))) (Jk _ (Ws (by decide))))]
theorem Qb9 (k:IntKind) (hk:k.signed = false) (w a:Nat) (hw:w ≤ k.bits):Vz .and k (a:Int) ((2 ^ w - 1:Nat):Int) = ((a % 2 ^ w:Nat):Int):=by
 have h1:(2:Nat) ^ w ≤ 2 ^ k.bits:=Vf (by decide) hw
 have h0:0 < (2:Nat) ^ w:=Ws (by decide)
 rw [n_and k hk,Z3 (a:=2 ^ w - 1) (by omega),Mu,Dq _ (Nat.pow_dvd_pow 2 hw)]
theorem n_m32 (a:Nat):Vz .and .u64 (a:Int) 4294967295 = ((a % 4294967296:Nat):Int):=Qb9 .u64 rfl 32 a (by decide)
theorem n_m51 (a:Nat):Vz .and .u64 (a:Int) 2251799813685247 = ((a % 2251799813685248:Nat):Int):=Qb9 .u64 rfl 51 a (by decide)
theorem n_m1 (a:Nat):Vz .and .u64 (a:Int) 1 = ((a % 2:Nat):Int):=Qb9 .u64 rfl 1 a (by decide)
theorem n_m1b (a:Nat):Vz .and .u8 (a:Int) 1 = ((a % 2:Nat):Int):=Qb9 .u8 rfl 1 a (by decide)
theorem n_m7b (a:Nat):Vz .and .u8 (a:Int) 127 = ((a % 128:Nat):Int):=Qb9 .u8 rfl 7 a (by decide)
theorem Q5m:(2:Int) ^ min 32 IntKind.u64.bits = ((4294967296:Nat):Int):=rfl
theorem Q5l:(2:Int) ^ min 51 IntKind.u64.bits = ((2251799813685248:Nat):Int):=rfl
theorem Q5n:(2:Int) ^ min 13 IntKind.u64.bits = ((8192:Nat):Int):=rfl
theorem p8_7:(2:Int) ^ min 7 IntKind.u8.bits = ((128:Nat):Int):=rfl
theorem Qaa {a b n:Nat} (h:a < 2 ^ n):(b * 2 ^ n) ||| a = b * 2 ^ n + a:=by
 rw [K7,G9 h]
theorem Qac (k:IntKind):ns k [] = []:=rfl
theorem Dg (k:IntKind) (x:Nat) (r:List Nat):ns k (x :: r) = .int k (x:Nat) :: ns k r:=rfl
theorem Qf6 {w m q s y M:Nat} (hq:q < m) (hs:s < w) (hM:M < 2 ^ (w * q + s)) (hy:y * 2 ^ s < 2 ^ w) :
  (dig (2 ^ w) m M).set q ((dig (2 ^ w) m M).getD q 0 ||| y * 2 ^ s) = dig (2 ^ w) m (M + y * 2 ^ (w * q + s)):=by
 have hB:(2 ^ w) ^ q = 2 ^ (w * q):=by rw [← Yp]
 have hpos:0 < (2 ^ w:Nat) ^ q:=Ws (Ws (by decide))
 have hpow:(2:Nat) ^ (w * q + s) = 2 ^ s * (2 ^ w) ^ q:=by rw [Wl,hB,K7]
 have hdiv:M / (2 ^ w) ^ q < 2 ^ s:=by rw [Qe8 hpos,← hpow]; exact hM
 have hsw:(2:Nat) ^ s ≤ 2 ^ w:=Vf (by decide) (by omega)
 have hsum:M / (2 ^ w) ^ q + y * 2 ^ s < 2 ^ w:=by
  have h1:(2:Nat) ^ w = 2 ^ (w - s) * 2 ^ s:=by rw [← Wl]; congr 1; omega
  have h2:y < 2 ^ (w - s):=by
   rw [h1] at hy
   exact Nat.lt_of_mul_lt_mul_right hy
  have h3:(y + 1) * 2 ^ s ≤ 2 ^ (w - s) * 2 ^ s:=Vt _ h2
  rw [Kt,Wm,← h1] at h3
  omega
 apply Qa8 (by rw [Xe,Kc])
 intro i hi
 by_cases hqi:i = q
 ·subst hqi
  rw [Xp (by rw [Kc]; exact hi),Xh,Uz hi]
  rw [hpow,← Vo,Mr _ _ hpos]
  simp only [Ub]
  rw [Z3 (a:=M / _) (by omega),Z3 hsum,Nat.or_comm,Qaa hdiv,Gb]
 ·rw [Jj (Ne.symm hqi),Uz hi]
  congr 1
  by_cases hlt:i < q
  ·have h1:(2 ^ w:Nat) ^ q = 2 ^ w * (2 ^ w) ^ (q - i - 1) * (2 ^ w) ^ i:=by
    rw [Vo,← Wl,← Qop]; congr 1; omega
   rw [hpow,h1]
   rw [show y * (2 ^ s * (2 ^ w * (2 ^ w) ^ (q - i - 1) * (2 ^ w) ^ i)) = (y * 2 ^ s * (2 ^ w) ^ (q - i - 1) * 2 ^ w) * (2 ^ w) ^ i by simp only [Vo,Wf,K7]]
   rw [Mr _ _ (Ws (Ws (by decide))),Bt]
  ·have h1:M + y * 2 ^ (w * q + s) < (2 ^ w) ^ i:=by
    have h2:(2 ^ w:Nat) ^ (q + 1) ≤ (2 ^ w) ^ i:=Vf (Ws (by decide)) (by omega)
    refine X1 ?_ h2
    have h3:(M / (2 ^ w) ^ q + y * 2 ^ s + 1) * (2 ^ w) ^ q ≤ 2 ^ w * (2 ^ w) ^ q:=Vt _ hsum
    have h4:=Vr M ((2 ^ w) ^ q)
    have h5:=Jk M hpos
    rw [Kq,K7 ((2 ^ w) ^ q)]
    refine X1 ?_ h3
    rw [hpow,← Vo,Kt,Kt,Wm,K7 (M / (2 ^ w) ^ q)]
    omega
   rw [Wz h1,Wz (by omega)]
def Vd (T:Tab) (f:Nat) (args:List Value):Option Value:=(V6 T f args []).map (·.1)
theorem R0 {T:Tab} {f:Nat} {args:List Value} {v:Value} {l:List Ob} {M:List Nat} (h:V6 T f args [] = some (v,l,M)):Vd T f args = some v:=by simp [Vd,h]
theorem Xg {T:Tab} {f:Nat} {args:List Value} {v:Value} (h:∃ l,V6 T f args [] = some (v,l,[])):Vd T f args = some v:=by
 obtain ⟨l,h⟩:=h
 exact R0 h
theorem Zi {T:Tab} {b:Nat} {q:Bool} {f:Nat} {xs:List Operand} {d:Option Nat} {r:List AOper} {e:Env} {H:List Ob} {l:List Nat}:steps T b q (⟨d,.call f xs true,none⟩ :: r) ⟨e,H,l⟩ = (Wj e xs).bind fun args => gate (args.all rf = true) ((Vd T f args).bind fun v => gate (rf v = true) (steps T b q r ⟨e.put d v,H,l⟩)):=by
 rw [Yq]
 cases Wj e xs with
 | none => rfl
 | some args =>
  simp only [Q4,Vd]
  cases V6 T f args [] <;> rfl
set_option linter.defProp false
def cU:=Q9 (Q9 (Q9 (Q9 (@n_add) (Q9 (@n_mul) (@Q50))) (Q9 (@Q51) (Q9 (@Q5z) (@Q5y)))) (Q9 (Q9 (@Qlh) (Q9 (@Q02) (@Q5x))) (Q9 (Q9 (@Q5w) (@Qbs)) (Q9 (@n_w32) (@n_w16))))) (Q9 (Q9 (Q9 (@Qp4) (Q9 (@Qlg) (@Qw4))) (Q9 (@Qw3) (Q9 (@n_m32) (@n_m51)))) (Q9 (Q9 (@n_m1) (Q9 (@n_m1b) (@n_m7b))) (Q9 (Q9 (@Q5m) (@Q5l)) (Q9 (@Q5n) (@p8_7)))))
end Go.Ev
set_option linter.unusedSimpArgs false
set_option linter.unusedVariables false
namespace Go.NT
def Pr (p:Nat):Prop:=2 ≤ p ∧ ∀ m,m ∣ p → m = 1 ∨ m = p
theorem Pr.coprime {p a:Nat} (hp:Pr p) (h:¬ p ∣ a):Q6s p a:=by
 rcases hp.2 (Qf9 p a) (Nat.gcd_dvd_left p a) with h1 | h1
 ·exact h1
 ·exact absurd (h1 ▸ Nat.gcd_dvd_right p a) h
theorem Pr.dvd_mul {p a b:Nat} (hp:Pr p) (h:p ∣ a * b):p ∣ a ∨ p ∣ b:=by
 by_cases ha:p ∣ a
 ·exact .inl ha
 ·exact .inr ((hp.coprime ha).dvd_of_dvd_mul_left h)
def Rw:List Nat → Nat
 | [] => 1
 | x :: r => x * Rw r
theorem Qpm {l l':List Nat} (h:l.Perm l'):Rw l = Rw l':=by
 induction h with
 | nil => rfl
 | cons x _ ih => simp only [Rw,ih]
 | swap x y l => simp only [Rw,Wf]
 | trans _ _ h1 h2 => rw [h1,h2]
theorem Qrf:∀ {l1 l2:List Nat},l1.Nodup → (∀ x ∈ l1,x ∈ l2) → l2.length ≤ l1.length → l1.Perm l2
 | [],l2,_,_,hl => by
  have:l2 = []:=by cases l2 with | nil => rfl | cons _ _ => simp at hl
  subst this; exact .nil
 | a :: t,l2,hn,hs,hl => by
  have ha:=hs a (by simp)
  have hp:=List.perm_cons_erase ha
  have hlen:=hp.length_eq
  rw [List.nodup_cons] at hn
  refine (List.Perm.cons a (Qrf hn.2 (fun x hx => ?_) ?_)).trans hp.symm
  ·have hxa:x ≠ a:=fun h => hn.1 (h ▸ hx)
   exact (List.mem_erase_of_ne hxa).2 (hs x (by simp [hx]))
  ·simp only [Ja] at hl hlen ⊢
   omega
theorem Qjq (a p:Nat):∀ l:List Nat,Rw (l.map fun x => a * x % p) % p = a ^ l.length * Rw l % p
 | [] => by simp [Rw]
 | x :: r => by
  have h1:=Qjq a p r
  simp only [Y9,Rw,Ja,Kq]
  rw [Hf,h1,Hh,← Hf]
  congr 1
  simp only [Vo,Wf,K7]
theorem Qgx {p:Nat} (hp:Pr p):∀ {l:List Nat},(∀ x ∈ l,¬ p ∣ x) → ¬ p ∣ Rw l
 | [],_ => fun h => by
  have:=Ge (by decide:0 < 1) h
  have:=hp.1
  omega
 | x :: r,h => fun hd => by
  rcases hp.dvd_mul hd with h1 | h1
  ·exact h x (by simp) h1
  ·exact Qgx hp (fun y hy => h y (by simp [hy])) h1
theorem Qey {p a:Nat} (hp:Pr p) (ha:¬ p ∣ a):a ^ (p - 1) % p = 1:=by
 have h2:=hp.1
 have hnd:((Gt 1 (p - 1)).map fun x => a * x % p).Nodup:=by
  rw [List.nodup_iff_pairwise_ne,List.pairwise_map]
  refine List.Pairwise.imp_of_mem ?_ (List.pairwise_lt_range' (s:=1) (n:=p - 1))
  intro x y hx hy hxy he
  simp only [Ql3] at hx hy
  have h3:(a * y - a * x) % p = 0:=Rn he.symm
  rw [← Nat.mul_sub] at h3
  rcases hp.dvd_mul (D3 h3) with h4 | h4
  ·exact ha h4
  ·have:=Ge (by omega) h4
   omega
 have hmem:∀ x ∈ (Gt 1 (p - 1)).map (fun x => a * x % p),x ∈ Gt 1 (p - 1):=by
  intro x hx
  simp only [U7,Ql3] at hx ⊢
  obtain ⟨y,hy,rfl⟩:=hx
  have h3:a * y % p < p:=Jk _ (by omega)
  have h4:a * y % p ≠ 0:=fun h => by
   rcases hp.dvd_mul (D3 h) with h4 | h4
   ·exact ha h4
   ·have:=Ge (by omega) h4
    omega
  omega
 have hperm:=Qpm (Qrf hnd hmem (by simp))
 have h5:=Qjq a p (Gt 1 (p - 1))
 rw [hperm,List.length_range'] at h5
 have h6:¬ p ∣ Rw (Gt 1 (p - 1)):=Qgx hp fun x hx hd => by
  simp only [Ql3] at hx
  have:=Ge (by omega) hd
  omega
 have h7:(a ^ (p - 1) * Rw (Gt 1 (p - 1)) - 1 * Rw (Gt 1 (p - 1))) % p = 0:=Rn (by rw [← h5,Wm])
 rw [← Nat.sub_mul] at h7
 have ha0:0 < a:=Nat.pos_of_ne_zero fun h => ha (h ▸ Nat.dvd_zero p)
 have h8:0 < a ^ (p - 1):=Ws ha0
 rcases hp.dvd_mul (D3 h7) with h9 | h9
 ·obtain ⟨k,hk⟩:=h9
  have:a ^ (p - 1) = p * k + 1:=by omega
  rw [this,Nat.mul_add_mod,Z3 (by omega)]
 ·exact absurd h9 h6
theorem Qew {n:Nat} (hn:2 ≤ n):∃ r,Pr r ∧ r ∣ n ∧ (Pr n ∨ r * r ≤ n):=by
 have ex:∃ r,2 ≤ r ∧ r ∣ n ∧ ∀ m,2 ≤ m → m ∣ n → r ≤ m:=by
  have key:∀ k,(∃ r,2 ≤ r ∧ r ∣ n ∧ r ≤ k) → ∃ r,2 ≤ r ∧ r ∣ n ∧ ∀ m,2 ≤ m → m ∣ n → r ≤ m:=by
   intro k
   induction k with
   | zero => rintro ⟨r,h1,_,h3⟩; omega
   | succ k ih =>
    rintro ⟨r,h1,h2,h3⟩
    by_cases h:∃ r,2 ≤ r ∧ r ∣ n ∧ r ≤ k
    ·exact ih h
    ·refine ⟨r,h1,h2,fun m hm hmd => ?_⟩
     rcases V5 k m with h4 | h4
     ·omega
     ·exact absurd ⟨m,hm,hmd,h4⟩ h
  exact key n ⟨n,hn,Nat.dvd_refl n,Zj n⟩
 obtain ⟨r,h1,h2,h3⟩:=ex
 have hr:Pr r:=⟨h1,fun m hm => by
  have hm0:0 < m:=Nat.pos_of_dvd_of_pos hm (by omega)
  rcases V5 m 2 with h | h
  ·left; omega
  ·have:=h3 m h (Nat.dvd_trans hm h2)
   have:=Ge (by omega) hm
   right; omega⟩
 refine ⟨r,hr,h2,?_⟩
 obtain ⟨k,rfl⟩:=h2
 rcases V5 k 2 with h | h
 ·have:k = 1:=by
   rcases Yd k with h0 | h0
   ·subst h0; omega
   ·omega
  subst this
  rw [Xy]; exact .inl hr
 ·exact .inr (Ug r (h3 k h (Qor k r)))
def pw (m a:Nat):Nat → Nat → Nat
 | 0,_ => 1 % m
 | f + 1,e => if e % 2 = 1 then (pw m a f (e / 2)) * (pw m a f (e / 2)) % m * a % m else (pw m a f (e / 2)) * (pw m a f (e / 2)) % m
theorem Q3s (m a:Nat):∀ (f e:Nat),e < 2 ^ f → pw m a f e = a ^ e % m
 | 0,e,h => by
  have:e = 0:=by simpa using h
  subst this; rfl
 | f + 1,e,h => by
  have ih:=Q3s m a f (e / 2) (by rw [Kq] at h; omega)
  have hs:a ^ (e / 2) % m * (a ^ (e / 2) % m) % m = a ^ (2 * (e / 2)) % m:=by
   rw [← Hf,← Wl]; congr 2; omega
  unfold pw
  rw [ih]
  by_cases he:e % 2 = 1
  ·rw [if_pos he,hs,Qqy,← Kq]
   congr 2; omega
  ·rw [if_neg he,hs]
   congr 2; omega
def pwf (m a:Nat):Nat → Nat → Nat
 | 0,_ => 1 % m
 | f + 1,e => (fun r => if e % 2 = 1 then r * r % m * a % m else r * r % m) (pwf m a f (e / 2))
theorem Q0a {r:Nat} (hr:2 ≤ r) (b x y:Nat):b ^ x % r = 1 → b ^ y % r = 1 → b ^ (Qf9 x y) % r = 1:=by
 induction x,y using Nat.gcd.induction with
 | H0 y => intro _ h; rwa [Nat.gcd_zero_left]
 | H1 x y hx ih =>
  intro h1 h2
  rw [Nat.gcd_rec]
  refine ih ?_ h1
  have h3:b ^ (x * (y / x) + y % x) % r = 1:=by rw [Vr]; exact h2
  rw [Wl,Yp,Hf,Q6r (b ^ x),h1,Nat.one_pow,Z3 (a:=1) (by omega),Wm,Hh] at h3
  exact h3
theorem Q5h {n q k a r:Nat} (hq:Pr q) (hk:n = q * k + 1) (h1:a ^ (q * k) % n = 1) (h2:Qf9 (a ^ k % n + n - 1) n = 1) (hr:Pr r) (hrn:r ∣ n):q ∣ r - 1:=by
 have hr2:=hr.1
 have hn0:0 < n:=by omega
 have hn2:r ≤ n:=Ge hn0 hrn
 have hmodr:∀ x,x % n % r = x % r:=fun x => Dq x hrn
 have hb1:a ^ (q * k) % r = 1:=by rw [← hmodr,h1,Z3 (by omega)]
 have hra:¬ r ∣ a:=fun h => by
  have hqk:0 < q * k:=by
   rcases Yd (q * k) with h0 | h0
   ·omega
   ·exact h0
  have:r ∣ a ^ (q * k):=by
   obtain ⟨m,hm⟩:∃ m,q * k = m + 1:=⟨q * k - 1,by omega⟩
   rw [hm,Kq]
   exact Nat.dvd_trans h (Qor a _)
  have:=Qd1 this
  omega
 have hf:=Qey hr hra
 by_cases hqd:q ∣ r - 1
 ·exact hqd
 ·exfalso
  have hc:=hq.coprime hqd
  have hpow:∀ x:Nat,∀ c,c % r = 1 → c ^ x % r = 1:=fun x c hcx => by rw [Q6r,hcx,Nat.one_pow,Z3 (by omega)]
  have hk1:(a ^ k) ^ q % r = 1:=by rw [← Yp,K7 k q]; exact hb1
  have hk2:(a ^ k) ^ (r - 1) % r = 1:=by rw [← Yp,K7 k,Yp]; exact hpow k _ hf
  have hak:a ^ k % r = 1:=by
   have:=Q0a hr2 (a ^ k) q (r - 1) hk1 hk2
   rwa [hc,Nat.pow_one] at this
  have hdvd:r ∣ a ^ k % n + n - 1:=by
   have e3:a ^ k % n % r = 1:=by rw [hmodr]; exact hak
   have e4:1 ≤ a ^ k % n:=by
    rcases Yd (a ^ k % n) with h0 | h0
    ·rw [h0,Nat.zero_mod] at e3; omega
    ·exact h0
   have e5:r ∣ a ^ k % n - 1:=by
    apply D3
    exact Rn (by rw [e3,Z3 (by omega)])
   rw [show a ^ k % n + n - 1 = (a ^ k % n - 1) + n by omega]
   exact Nat.dvd_add e5 hrn
  have:=Nat.dvd_gcd hdvd hrn
  rw [h2] at this
  have:=Ge (by decide) this
  omega
theorem Qwd {n q k a:Nat} (hn:2 ≤ n) (hq:Pr q) (hk:n = q * k + 1) (hbig:n < q * q) (h1:a ^ (q * k) % n = 1) (h2:Qf9 (a ^ k % n + n - 1) n = 1):Pr n:=by
 obtain ⟨r,hr,hrn,h | h⟩:=Qew hn
 ·exact h
 ·have h3:=Q5h hq hk h1 h2 hr hrn
  have:=hr.1
  have h4:=Ge (by omega) h3
  have:q * q ≤ r * r:=Wg (by omega) (by omega)
  omega
theorem Qwc {n q k a q' k' a':Nat} (hn:2 ≤ n) (hq:Pr q) (hk:n = q * k + 1) (hq':Pr q') (hk':n = q' * k' + 1) (hne:q ≠ q') (hbig:n < (q * q') * (q * q')) (h1:a ^ (q * k) % n = 1) (h2:Qf9 (a ^ k % n + n - 1) n = 1)
  (h1':a' ^ (q' * k') % n = 1) (h2':Qf9 (a' ^ k' % n + n - 1) n = 1):Pr n:=by
 obtain ⟨r,hr,hrn,h | h⟩:=Qew hn
 ·exact h
 ·have h3:=Q5h hq hk h1 h2 hr hrn
  have h3':=Q5h hq' hk' h1' h2' hr hrn
  have hc:Q6s q q':=hq.coprime fun hd => by
   rcases hq'.2 q hd with h | h
   ·have:=hq.1; omega
   ·exact hne h
  have h5:=hc.mul_dvd_of_dvd_of_dvd h3 h3'
  have:=hr.1
  have h4:=Ge (by omega) h5
  have:(q * q') * (q * q') ≤ r * r:=Wg (by omega) (by omega)
  omega
def Qro (n:Nat):Nat → Nat → Bool
 | 0,_ => true
 | f + 1,m => (n % m != 0) && Qro n f (m + 1)
theorem Qhc {n:Nat}:∀ (f m:Nat),Qro n f m = true → ∀ x,m ≤ x → x < m + f → n % x ≠ 0
 | 0,m,_,x,h1,h2 => by omega
 | f + 1,m,h,x,h1,h2 => by
  simp only [Qro,Vw,bne_iff_ne] at h
  rcases Nat.eq_or_lt_of_le h1 with h3 | h3
  ·subst h3; exact h.1
  ·exact Qhc f (m + 1) h.2 x h3 (by omega)
theorem Bz {n f:Nat} (hn:2 ≤ n) (hf:n < (f + 2) * (f + 2)) (h:Qro n f 2 = true):Pr n:=by
 obtain ⟨r,hr,hrn,h1 | h1⟩:=Qew hn
 ·exact h1
 ·have hr2:=hr.1
  have:r < 2 + f:=by
   rcases V5 r (2 + f) with h2 | h2
   ·exact h2
   ·have:(f + 2) * (f + 2) ≤ r * r:=Wg (by omega) (by omega)
    omega
  exact absurd (Qd1 hrn) (Qhc f 2 h r hr2 this)
end Go.NT
set_option linter.unusedSimpArgs false
set_option linter.unusedVariables false
namespace Go.Cv
section
variable {n:Nat} [NeZero n]
structure Fld (n:Nat) [NeZero n] (iv:Fin n → Fin n) (d i:Fin n):Prop where
 inv:∀ a:Fin n,a ≠ 0 → a * iv a = 1
 iv0:iv 0 = 0
 one:(1:Fin n) ≠ 0
 two:(2:Fin n) ≠ 0
 root:i * i = -1
 nosq:∀ r:Fin n,r * r ≠ d
variable {iv:Fin n → Fin n} {d i:Fin n} (F:Fld n iv d i)
include F
theorem Fld.dom {a b:Fin n} (h:a * b = 0):a = 0 ∨ b = 0:=by
 by_cases ha:a = 0
 ·exact .inl ha
 ·have:=F.inv a ha
  exact .inr (by grobner)
theorem Fld.mul_ne {a b:Fin n} (ha:a ≠ 0) (hb:b ≠ 0):a * b ≠ 0:=fun h => by
 rcases F.dom h with h | h
 ·exact ha h
 ·exact hb h
theorem Fld.cancel {a b c:Fin n} (ha:a ≠ 0) (h:a * b = a * c):b = c:=by
 have:=F.inv a ha
 grobner
theorem Fld.noratio {u v:Fin n} (hv:v ≠ 0):u * u ≠ d * (v * v):=fun h => by
 have:=F.inv v hv
 apply F.nosq (u * iv v)
 grobner
omit F
def On (d x y:Fin n):Prop := -(x * x) + y * y = 1 + d * (x * x) * (y * y)
theorem On.sub {d x y:Fin n} (h:On d x y) : -(x * x) + y * y - 1 - d * (x * x) * (y * y) = 0:=by
 unfold On at h; grobner
theorem Qu1 {L R a b c e:Fin n} (h:L - R = a * c + b * e) (hc:c = 0) (he:e = 0):L = R:=by
 subst hc he; grobner
theorem Qgi {L R a b c e f g:Fin n} (h:L - R = a * c + b * e + f * g) (hc:c = 0) (he:e = 0) (hg:g = 0):L = R:=by
 subst hc he hg; grobner
theorem Qyl (d x1 y1 x2 y2:Fin n) : -((x1 * y2 + x2 * y1) * (x1 * y2 + x2 * y1) * ((1 - d * x1 * x2 * y1 * y2) * (1 - d * x1 * x2 * y1 * y2))) + (y1 * y2 + x1 * x2) * (y1 * y2 + x1 * x2) * ((1 + d * x1 * x2 * y1 * y2) * (1 + d * x1 * x2 * y1 * y2)) -
   (((1 + d * x1 * x2 * y1 * y2) * (1 - d * x1 * x2 * y1 * y2)) * ((1 + d * x1 * x2 * y1 * y2) * (1 - d * x1 * x2 * y1 * y2)) + d * ((x1 * y2 + x2 * y1) * (x1 * y2 + x2 * y1)) * ((y1 * y2 + x1 * x2) * (y1 * y2 + x1 * x2))) =
   (d * d * d * x1 * x1 * x2 * x2 * x2 * x2 * y1 * y1 * y2 * y2 * y2 * y2 - d * d * x1 * x1 * x2 * x2 * x2 * x2 * y2 * y2 * y2 * y2 + d * d * x2 * x2 * x2 * x2 * y1 * y1 * y2 * y2 * y2 * y2 - d * d * x2 * x2 * x2 * x2 * y2 * y2 * y2 * y2 - d * x1 * x1 * x2 * x2 * x2 * x2 * y2 * y2 + d * x1 * x1 * x2 * x2 * y2 * y2 * y2 * y2 + d * x2 * x2 * x2 * x2 * y1 * y1 * y2 * y2 - 2 * d * x2 * x2 * x2 * x2 * y2 * y2 * y2 * y2 - d * x2 * x2 * y1 * y1 * y2 * y2 * y2 * y2 - 2 * d * x2 * x2 * y2 * y2 - 2 * x2 * x2 * x2 * x2 * y2 * y2 + x2 * x2 * x2 * x2 + 2 * x2 * x2 * y2 * y2 * y2 * y2 - 4 * x2 * x2 * y2 * y2 + y2 * y2 * y2 * y2) * (-(x1 * x1) + y1 * y1 - 1 - d * (x1 * x1) * (y1 * y1)) + (d * x1 * x1 * x1 * x1 * x2 * x2 * y2 * y2 + 2 * d * x1 * x1 * x2 * x2 * y2 * y2 + d * x2 * x2 * y1 * y1 * y1 * y1 * y2 * y2 - 2 * d * x2 * x2 * y1 * y1 * y2 * y2 + d * x2 * x2 * y2 * y2 + 2 * x1 * x1 * x2 * x2 * y2 * y2 - x1 * x1 * x2 * x2 + x1 * x1 * y2 * y2 - 2 * x2 * x2 * y1 * y1 * y2 * y2 + x2 * x2 * y1 * y1 + 2 * x2 * x2 * y2 * y2 - x2 * x2 - y1 * y1 * y2 * y2 + y2 * y2 + 1) * (-(x2 * x2) + y2 * y2 - 1 - d * (x2 * x2) * (y2 * y2)):=by grobner
theorem Q6p (d x1 y1 x2 y2 x3 y3:Fin n):((x1 * y2 + x2 * y1) * (1 - d * x1 * x2 * y1 * y2) * y3 + x3 * (y1 * y2 + x1 * x2) * (1 + d * x1 * x2 * y1 * y2)) * ((1 + d * x2 * x3 * y2 * y3) * (1 - d * x2 * x3 * y2 * y3) + d * (x2 * y3 + x3 * y2) * (y2 * y3 + x2 * x3) * x1 * y1) -
   (x1 * (y2 * y3 + x2 * x3) * (1 + d * x2 * x3 * y2 * y3) + (x2 * y3 + x3 * y2) * (1 - d * x2 * x3 * y2 * y3) * y1) * ((1 + d * x1 * x2 * y1 * y2) * (1 - d * x1 * x2 * y1 * y2) + d * (x1 * y2 + x2 * y1) * (y1 * y2 + x1 * x2) * x3 * y3) =
   (-d * d * x1 * x2 * x2 * x2 * x2 * x3 * x3 * y2 * y2 * y2 * y3 - d * d * x1 * x2 * x2 * x2 * x3 * y2 * y2 * y2 * y2 * y3 * y3 + d * d * x2 * x2 * x2 * x2 * x3 * y1 * y2 * y2 * y2 * y3 * y3 + d * d * x2 * x2 * x2 * x3 * x3 * y1 * y2 * y2 * y2 * y2 * y3 - d * x1 * x2 * x2 * x2 * x2 * x3 * x3 * y2 * y3 - d * x1 * x2 * x2 * x2 * x3 * x3 * x3 * y2 * y2 - d * x1 * x2 * x2 * x2 * x3 * y2 * y2 + d * x1 * x2 * x2 * y2 * y2 * y2 * y3 * y3 * y3 - d * x1 * x2 * x2 * y2 * y2 * y2 * y3 + d * x1 * x2 * x3 * y2 * y2 * y2 * y2 * y3 * y3 + d * x2 * x2 * x2 * x2 * x3 * y1 * y2 * y3 * y3 + d * x2 * x2 * x2 * y1 * y2 * y2 * y3 * y3 * y3 - d * x2 * x2 * x2 * y1 * y2 * y2 * y3 - d * x2 * x2 * x3 * x3 * x3 * y1 * y2 * y2 * y2 - d * x2 * x2 * x3 * y1 * y2 * y2 * y2 - d * x2 * x3 * x3 * y1 * y2 * y2 * y2 * y2 * y3) * (-(x1 * x1) + y1 * y1 - 1 - d * (x1 * x1) * (y1 * y1)) + (d * d * x1 * x1 * x2 * x2 * x3 * x3 * x3 * y1 * y2 * y3 * y3 - d * d * x1 * x1 * x2 * x3 * x3 * y1 * y2 * y2 * y3 * y3 * y3 - d * d * x1 * x2 * x2 * x3 * x3 * y1 * y1 * y2 * y3 * y3 * y3 + d * d * x1 * x2 * x3 * x3 * x3 * y1 * y1 * y2 * y2 * y3 * y3 + d * x1 * x1 * x1 * x2 * x2 * x3 * x3 * y2 * y3 + d * x1 * x1 * x1 * x2 * x3 * x3 * x3 * y3 * y3 + d * x1 * x1 * x1 * x2 * x3 * y2 * y2 * y3 * y3 + d * x1 * x1 * x1 * x3 * x3 * y2 * y3 * y3 * y3 - d * x1 * x1 * x2 * x2 * x3 * y1 * y2 * y3 * y3 - d * x1 * x1 * x2 * x3 * x3 * y1 * y2 * y2 * y3 + d * x1 * x1 * x2 * x3 * x3 * y1 * y3 * y3 * y3 + d * x1 * x1 * x3 * x3 * x3 * y1 * y2 * y3 * y3 - d * x1 * x2 * x2 * x3 * x3 * y1 * y1 * y2 * y3 + d * x1 * x2 * x2 * x3 * x3 * y2 * y3 - d * x1 * x2 * x3 * x3 * x3 * y1 * y1 * y3 * y3 + d * x1 * x2 * x3 * x3 * x3 * y3 * y3 - d * x1 * x2 * x3 * y1 * y1 * y2 * y2 * y3 * y3 + d * x1 * x2 * x3 * y2 * y2 * y3 * y3 - d * x1 * x3 * x3 * y1 * y1 * y2 * y3 * y3 * y3 + d * x1 * x3 * x3 * y2 * y3 * y3 * y3 + d * x2 * x2 * x3 * y1 * y1 * y1 * y2 * y3 * y3 - d * x2 * x2 * x3 * y1 * y2 * y3 * y3 + d * x2 * x3 * x3 * y1 * y1 * y1 * y2 * y2 * y3 - d * x2 * x3 * x3 * y1 * y1 * y1 * y3 * y3 * y3 - d * x2 * x3 * x3 * y1 * y2 * y2 * y3 + d * x2 * x3 * x3 * y1 * y3 * y3 * y3 - d * x3 * x3 * x3 * y1 * y1 * y1 * y2 * y3 * y3 + d * x3 * x3 * x3 * y1 * y2 * y3 * y3 + x1 * x1 * x1 * x2 * x3 * x3 * x3 - x1 * x1 * x1 * x2 * x3 * y3 * y3 + x1 * x1 * x1 * x2 * x3 + x1 * x1 * x1 * x3 * x3 * y2 * y3 - x1 * x1 * x1 * y2 * y3 * y3 * y3 + x1 * x1 * x1 * y2 * y3 + x1 * x1 * x2 * x3 * x3 * y1 * y3 - x1 * x1 * x2 * y1 * y3 * y3 * y3 + x1 * x1 * x2 * y1 * y3 + x1 * x1 * x3 * x3 * x3 * y1 * y2 - x1 * x1 * x3 * y1 * y2 * y3 * y3 + x1 * x1 * x3 * y1 * y2 - x1 * x2 * x3 * x3 * x3 * y1 * y1 + x1 * x2 * x3 * x3 * x3 + x1 * x2 * x3 * y1 * y1 * y3 * y3 - x1 * x2 * x3 * y1 * y1 - x1 * x2 * x3 * y3 * y3 + x1 * x2 * x3 - x1 * x3 * x3 * y1 * y1 * y2 * y3 + x1 * x3 * x3 * y2 * y3 + x1 * y1 * y1 * y2 * y3 * y3 * y3 - x1 * y1 * y1 * y2 * y3 - x1 * y2 * y3 * y3 * y3 + x1 * y2 * y3 - x2 * x3 * x3 * y1 * y1 * y1 * y3 + x2 * x3 * x3 * y1 * y3 + x2 * y1 * y1 * y1 * y3 * y3 * y3 - x2 * y1 * y1 * y1 * y3 - x2 * y1 * y3 * y3 * y3 + x2 * y1 * y3 - x3 * x3 * x3 * y1 * y1 * y1 * y2 + x3 * x3 * x3 * y1 * y2 + x3 * y1 * y1 * y1 * y2 * y3 * y3 - x3 * y1 * y1 * y1 * y2 - x3 * y1 * y2 * y3 * y3 + x3 * y1 * y2) * (-(x2 * x2) + y2 * y2 - 1 - d * (x2 * x2) * (y2 * y2)) + (-d * x1 * x1 * x2 * x2 * x3 * y1 * y2 + d * x1 * x1 * x2 * y1 * y2 * y2 * y3 + d * x1 * x2 * x2 * y1 * y1 * y2 * y3 - d * x1 * x2 * x3 * y1 * y1 * y2 * y2 - x1 * x1 * x1 * x2 * x2 * x2 * x3 - x1 * x1 * x1 * x2 * x2 * y2 * y3 + x1 * x1 * x1 * x2 * x3 * y2 * y2 - x1 * x1 * x1 * x2 * x3 + x1 * x1 * x1 * y2 * y2 * y2 * y3 - x1 * x1 * x1 * y2 * y3 - x1 * x1 * x2 * x2 * x2 * y1 * y3 - x1 * x1 * x2 * x2 * x3 * y1 * y2 + x1 * x1 * x2 * y1 * y2 * y2 * y3 - x1 * x1 * x2 * y1 * y3 + x1 * x1 * x3 * y1 * y2 * y2 * y2 - x1 * x1 * x3 * y1 * y2 + x1 * x2 * x2 * x2 * x3 * y1 * y1 - x1 * x2 * x2 * x2 * x3 + x1 * x2 * x2 * y1 * y1 * y2 * y3 - x1 * x2 * x2 * y2 * y3 - x1 * x2 * x3 * y1 * y1 * y2 * y2 + x1 * x2 * x3 * y1 * y1 + x1 * x2 * x3 * y2 * y2 - x1 * x2 * x3 - x1 * y1 * y1 * y2 * y2 * y2 * y3 + x1 * y1 * y1 * y2 * y3 + x1 * y2 * y2 * y2 * y3 - x1 * y2 * y3 + x2 * x2 * x2 * y1 * y1 * y1 * y3 - x2 * x2 * x2 * y1 * y3 + x2 * x2 * x3 * y1 * y1 * y1 * y2 - x2 * x2 * x3 * y1 * y2 - x2 * y1 * y1 * y1 * y2 * y2 * y3 + x2 * y1 * y1 * y1 * y3 + x2 * y1 * y2 * y2 * y3 - x2 * y1 * y3 - x3 * y1 * y1 * y1 * y2 * y2 * y2 + x3 * y1 * y1 * y1 * y2 + x3 * y1 * y2 * y2 * y2 - x3 * y1 * y2) * (-(x3 * x3) + y3 * y3 - 1 - d * (x3 * x3) * (y3 * y3)):=by grobner
theorem Q6o (d x1 y1 x2 y2 x3 y3:Fin n):((y1 * y2 + x1 * x2) * (1 + d * x1 * x2 * y1 * y2) * y3 + (x1 * y2 + x2 * y1) * (1 - d * x1 * x2 * y1 * y2) * x3) * ((1 + d * x2 * x3 * y2 * y3) * (1 - d * x2 * x3 * y2 * y3) - d * (x2 * y3 + x3 * y2) * (y2 * y3 + x2 * x3) * x1 * y1) -
   (y1 * (y2 * y3 + x2 * x3) * (1 + d * x2 * x3 * y2 * y3) + x1 * (x2 * y3 + x3 * y2) * (1 - d * x2 * x3 * y2 * y3)) * ((1 + d * x1 * x2 * y1 * y2) * (1 - d * x1 * x2 * y1 * y2) - d * (x1 * y2 + x2 * y1) * (y1 * y2 + x1 * x2) * x3 * y3) =
   (d * d * x1 * x2 * x2 * x2 * x2 * x3 * y2 * y2 * y2 * y3 * y3 + d * d * x1 * x2 * x2 * x2 * x3 * x3 * y2 * y2 * y2 * y2 * y3 - d * d * x2 * x2 * x2 * x2 * x3 * x3 * y1 * y2 * y2 * y2 * y3 - d * d * x2 * x2 * x2 * x3 * y1 * y2 * y2 * y2 * y2 * y3 * y3 + d * x1 * x2 * x2 * x2 * x2 * x3 * y2 * y3 * y3 + d * x1 * x2 * x2 * x2 * y2 * y2 * y3 * y3 * y3 - d * x1 * x2 * x2 * x2 * y2 * y2 * y3 - d * x1 * x2 * x2 * x3 * x3 * x3 * y2 * y2 * y2 - d * x1 * x2 * x2 * x3 * y2 * y2 * y2 - d * x1 * x2 * x3 * x3 * y2 * y2 * y2 * y2 * y3 - d * x2 * x2 * x2 * x2 * x3 * x3 * y1 * y2 * y3 - d * x2 * x2 * x2 * x3 * x3 * x3 * y1 * y2 * y2 - d * x2 * x2 * x2 * x3 * y1 * y2 * y2 + d * x2 * x2 * y1 * y2 * y2 * y2 * y3 * y3 * y3 - d * x2 * x2 * y1 * y2 * y2 * y2 * y3 + d * x2 * x3 * y1 * y2 * y2 * y2 * y2 * y3 * y3) * (-(x1 * x1) + y1 * y1 - 1 - d * (x1 * x1) * (y1 * y1)) + (d * d * x1 * x1 * x2 * x2 * x3 * x3 * y1 * y2 * y3 * y3 * y3 - d * d * x1 * x1 * x2 * x3 * x3 * x3 * y1 * y2 * y2 * y3 * y3 - d * d * x1 * x2 * x2 * x3 * x3 * x3 * y1 * y1 * y2 * y3 * y3 + d * d * x1 * x2 * x3 * x3 * y1 * y1 * y2 * y2 * y3 * y3 * y3 - d * x1 * x1 * x1 * x2 * x2 * x3 * y2 * y3 * y3 - d * x1 * x1 * x1 * x2 * x3 * x3 * y2 * y2 * y3 + d * x1 * x1 * x1 * x2 * x3 * x3 * y3 * y3 * y3 + d * x1 * x1 * x1 * x3 * x3 * x3 * y2 * y3 * y3 + d * x1 * x1 * x2 * x2 * x3 * x3 * y1 * y2 * y3 + d * x1 * x1 * x2 * x3 * x3 * x3 * y1 * y3 * y3 + d * x1 * x1 * x2 * x3 * y1 * y2 * y2 * y3 * y3 + d * x1 * x1 * x3 * x3 * y1 * y2 * y3 * y3 * y3 + d * x1 * x2 * x2 * x3 * y1 * y1 * y2 * y3 * y3 - d * x1 * x2 * x2 * x3 * y2 * y3 * y3 + d * x1 * x2 * x3 * x3 * y1 * y1 * y2 * y2 * y3 - d * x1 * x2 * x3 * x3 * y1 * y1 * y3 * y3 * y3 - d * x1 * x2 * x3 * x3 * y2 * y2 * y3 + d * x1 * x2 * x3 * x3 * y3 * y3 * y3 - d * x1 * x3 * x3 * x3 * y1 * y1 * y2 * y3 * y3 + d * x1 * x3 * x3 * x3 * y2 * y3 * y3 - d * x2 * x2 * x3 * x3 * y1 * y1 * y1 * y2 * y3 + d * x2 * x2 * x3 * x3 * y1 * y2 * y3 - d * x2 * x3 * x3 * x3 * y1 * y1 * y1 * y3 * y3 + d * x2 * x3 * x3 * x3 * y1 * y3 * y3 - d * x2 * x3 * y1 * y1 * y1 * y2 * y2 * y3 * y3 + d * x2 * x3 * y1 * y2 * y2 * y3 * y3 - d * x3 * x3 * y1 * y1 * y1 * y2 * y3 * y3 * y3 + d * x3 * x3 * y1 * y2 * y3 * y3 * y3 + x1 * x1 * x1 * x2 * x3 * x3 * y3 - x1 * x1 * x1 * x2 * y3 * y3 * y3 + x1 * x1 * x1 * x2 * y3 + x1 * x1 * x1 * x3 * x3 * x3 * y2 - x1 * x1 * x1 * x3 * y2 * y3 * y3 + x1 * x1 * x1 * x3 * y2 + x1 * x1 * x2 * x3 * x3 * x3 * y1 - x1 * x1 * x2 * x3 * y1 * y3 * y3 + x1 * x1 * x2 * x3 * y1 + x1 * x1 * x3 * x3 * y1 * y2 * y3 - x1 * x1 * y1 * y2 * y3 * y3 * y3 + x1 * x1 * y1 * y2 * y3 - x1 * x2 * x3 * x3 * y1 * y1 * y3 + x1 * x2 * x3 * x3 * y3 + x1 * x2 * y1 * y1 * y3 * y3 * y3 - x1 * x2 * y1 * y1 * y3 - x1 * x2 * y3 * y3 * y3 + x1 * x2 * y3 - x1 * x3 * x3 * x3 * y1 * y1 * y2 + x1 * x3 * x3 * x3 * y2 + x1 * x3 * y1 * y1 * y2 * y3 * y3 - x1 * x3 * y1 * y1 * y2 - x1 * x3 * y2 * y3 * y3 + x1 * x3 * y2 - x2 * x3 * x3 * x3 * y1 * y1 * y1 + x2 * x3 * x3 * x3 * y1 + x2 * x3 * y1 * y1 * y1 * y3 * y3 - x2 * x3 * y1 * y1 * y1 - x2 * x3 * y1 * y3 * y3 + x2 * x3 * y1 - x3 * x3 * y1 * y1 * y1 * y2 * y3 + x3 * x3 * y1 * y2 * y3 + y1 * y1 * y1 * y2 * y3 * y3 * y3 - y1 * y1 * y1 * y2 * y3 - y1 * y2 * y3 * y3 * y3 + y1 * y2 * y3) * (-(x2 * x2) + y2 * y2 - 1 - d * (x2 * x2) * (y2 * y2)) + (-d * x1 * x1 * x2 * x2 * y1 * y2 * y3 + d * x1 * x1 * x2 * x3 * y1 * y2 * y2 + d * x1 * x2 * x2 * x3 * y1 * y1 * y2 - d * x1 * x2 * y1 * y1 * y2 * y2 * y3 - x1 * x1 * x1 * x2 * x2 * x2 * y3 - x1 * x1 * x1 * x2 * x2 * x3 * y2 + x1 * x1 * x1 * x2 * y2 * y2 * y3 - x1 * x1 * x1 * x2 * y3 + x1 * x1 * x1 * x3 * y2 * y2 * y2 - x1 * x1 * x1 * x3 * y2 - x1 * x1 * x2 * x2 * x2 * x3 * y1 - x1 * x1 * x2 * x2 * y1 * y2 * y3 + x1 * x1 * x2 * x3 * y1 * y2 * y2 - x1 * x1 * x2 * x3 * y1 + x1 * x1 * y1 * y2 * y2 * y2 * y3 - x1 * x1 * y1 * y2 * y3 + x1 * x2 * x2 * x2 * y1 * y1 * y3 - x1 * x2 * x2 * x2 * y3 + x1 * x2 * x2 * x3 * y1 * y1 * y2 - x1 * x2 * x2 * x3 * y2 - x1 * x2 * y1 * y1 * y2 * y2 * y3 + x1 * x2 * y1 * y1 * y3 + x1 * x2 * y2 * y2 * y3 - x1 * x2 * y3 - x1 * x3 * y1 * y1 * y2 * y2 * y2 + x1 * x3 * y1 * y1 * y2 + x1 * x3 * y2 * y2 * y2 - x1 * x3 * y2 + x2 * x2 * x2 * x3 * y1 * y1 * y1 - x2 * x2 * x2 * x3 * y1 + x2 * x2 * y1 * y1 * y1 * y2 * y3 - x2 * x2 * y1 * y2 * y3 - x2 * x3 * y1 * y1 * y1 * y2 * y2 + x2 * x3 * y1 * y1 * y1 + x2 * x3 * y1 * y2 * y2 - x2 * x3 * y1 - y1 * y1 * y1 * y2 * y2 * y2 * y3 + y1 * y1 * y1 * y2 * y3 + y1 * y2 * y2 * y2 * y3 - y1 * y2 * y3) * (-(x3 * x3) + y3 * y3 - 1 - d * (x3 * x3) * (y3 * y3)):=by grobner
include F
theorem Fld.den {x1 y1 x2 y2:Fin n} (h1:On d x1 y1) (h2:On d x2 y2) (e:Fin n) (he:e * e = 1):d * x1 * x2 * y1 * y2 ≠ e:=fun hD => by
 unfold On at h1 h2
 have h10:=F.one
 have hr:=F.root
 have hx1:x1 ≠ 0:=fun h => by subst h; grobner
 have hy1:y1 ≠ 0:=fun h => by subst h; grobner
 have hx2:x2 ≠ 0:=fun h => by subst h; grobner
 have key:d * (x1 * x1) * (y1 * y1) * (y2 * y2 - x2 * x2) = y1 * y1 - x1 * x1:=by grobner
 have h3:(y1 + e * i * x1) * (y1 + e * i * x1) = d * ((x1 * y1 * (y2 + i * x2)) * (x1 * y1 * (y2 + i * x2))):=by grobner
 have h4:(y1 - e * i * x1) * (y1 - e * i * x1) = d * ((x1 * y1 * (y2 - i * x2)) * (x1 * y1 * (y2 - i * x2))):=by grobner
 by_cases ha:y2 + i * x2 = 0
 ·by_cases hb:y2 - i * x2 = 0
  ·have hi:i ≠ 0:=fun h => by subst h; grobner
   have:(2:Fin n) * (i * x2) = 0:=by grobner
   exact F.mul_ne F.two (F.mul_ne hi hx2) this
  ·exact F.noratio (F.mul_ne (F.mul_ne hx1 hy1) hb) h4
 ·exact F.noratio (F.mul_ne (F.mul_ne hx1 hy1) ha) h3
theorem Fld.denP {x1 y1 x2 y2:Fin n} (h1:On d x1 y1) (h2:On d x2 y2):1 + d * x1 * x2 * y1 * y2 ≠ 0:=fun h =>
 F.den h1 h2 (-1) (by grobner) (by grobner)
theorem Fld.denM {x1 y1 x2 y2:Fin n} (h1:On d x1 y1) (h2:On d x2 y2):1 - d * x1 * x2 * y1 * y2 ≠ 0:=fun h =>
 F.den h1 h2 1 (by grobner) (by grobner)
theorem Qaj {x1 y1 x2 y2:Fin n} (h1:On d x1 y1) (h2:On d x2 y2) {a b:Fin n} (ha:a * (1 + d * x1 * x2 * y1 * y2) = x1 * y2 + x2 * y1) (hb:b * (1 - d * x1 * x2 * y1 * y2) = y1 * y2 + x1 * x2):On d a b:=by
 have hp:=F.denP h1 h2
 have hm:=F.denM h1 h2
 have hC : -((x1 * y2 + x2 * y1) * (x1 * y2 + x2 * y1) * ((1 - d * x1 * x2 * y1 * y2) * (1 - d * x1 * x2 * y1 * y2))) + (y1 * y2 + x1 * x2) * (y1 * y2 + x1 * x2) * ((1 + d * x1 * x2 * y1 * y2) * (1 + d * x1 * x2 * y1 * y2)) =
   ((1 + d * x1 * x2 * y1 * y2) * (1 - d * x1 * x2 * y1 * y2)) * ((1 + d * x1 * x2 * y1 * y2) * (1 - d * x1 * x2 * y1 * y2)) + d * ((x1 * y2 + x2 * y1) * (x1 * y2 + x2 * y1)) * ((y1 * y2 + x1 * x2) * (y1 * y2 + x1 * x2)):=by
  exact Qu1 (Qyl d x1 y1 x2 y2) h1.sub h2.sub
 unfold On
 have hp2:=F.mul_ne (F.mul_ne hp hm) (F.mul_ne hp hm)
 refine F.cancel hp2 ?_
 rw [← ha,← hb] at hC
 generalize 1 + d * x1 * x2 * y1 * y2 = p at *
 generalize 1 - d * x1 * x2 * y1 * y2 = m at *
 clear ha hb hp hm hp2 h1 h2
 grobner
theorem Qqt {x1 y1 x2 y2 x3 y3 a b a' b' u v u' v':Fin n} (h1:On d x1 y1) (h2:On d x2 y2) (h3:On d x3 y3)
  (ha:a * (1 + d * x1 * x2 * y1 * y2) = x1 * y2 + x2 * y1) (hb:b * (1 - d * x1 * x2 * y1 * y2) = y1 * y2 + x1 * x2)
  (ha':a' * (1 + d * x2 * x3 * y2 * y3) = x2 * y3 + x3 * y2) (hb':b' * (1 - d * x2 * x3 * y2 * y3) = y2 * y3 + x2 * x3)
  (hu:u * (1 + d * a * x3 * b * y3) = a * y3 + x3 * b) (hv:v * (1 - d * a * x3 * b * y3) = b * y3 + a * x3)
  (hu':u' * (1 + d * x1 * a' * y1 * b') = x1 * b' + a' * y1) (hv':v' * (1 - d * x1 * a' * y1 * b') = y1 * b' + x1 * a'):u = u' ∧ v = v':=by
 have o12:=Qaj F h1 h2 ha hb
 have o23:=Qaj F h2 h3 ha' hb'
 have hp:=F.denP h1 h2
 have hm:=F.denM h1 h2
 have hp':=F.denP h2 h3
 have hm':=F.denM h2 h3
 have kp:=F.denP o12 h3
 have km:=F.denM o12 h3
 have kp':=F.denP h1 o23
 have km':=F.denM h1 o23
 have e1:=h1.sub
 have e2:=h2.sub
 have e3:=h3.sub
 clear h1 h2 h3 o12 o23
 have hX:((x1 * y2 + x2 * y1) * (1 - d * x1 * x2 * y1 * y2) * y3 + x3 * (y1 * y2 + x1 * x2) * (1 + d * x1 * x2 * y1 * y2)) * ((1 + d * x2 * x3 * y2 * y3) * (1 - d * x2 * x3 * y2 * y3) + d * (x2 * y3 + x3 * y2) * (y2 * y3 + x2 * x3) * x1 * y1) =
   (x1 * (y2 * y3 + x2 * x3) * (1 + d * x2 * x3 * y2 * y3) + (x2 * y3 + x3 * y2) * (1 - d * x2 * x3 * y2 * y3) * y1) * ((1 + d * x1 * x2 * y1 * y2) * (1 - d * x1 * x2 * y1 * y2) + d * (x1 * y2 + x2 * y1) * (y1 * y2 + x1 * x2) * x3 * y3):=by
  exact Qgi (Q6p d x1 y1 x2 y2 x3 y3) e1 e2 e3
 have hY:((y1 * y2 + x1 * x2) * (1 + d * x1 * x2 * y1 * y2) * y3 + (x1 * y2 + x2 * y1) * (1 - d * x1 * x2 * y1 * y2) * x3) * ((1 + d * x2 * x3 * y2 * y3) * (1 - d * x2 * x3 * y2 * y3) - d * (x2 * y3 + x3 * y2) * (y2 * y3 + x2 * x3) * x1 * y1) =
   (y1 * (y2 * y3 + x2 * x3) * (1 + d * x2 * x3 * y2 * y3) + x1 * (x2 * y3 + x3 * y2) * (1 - d * x2 * x3 * y2 * y3)) * ((1 + d * x1 * x2 * y1 * y2) * (1 - d * x1 * x2 * y1 * y2) - d * (x1 * y2 + x2 * y1) * (y1 * y2 + x1 * x2) * x3 * y3):=by
  exact Qgi (Q6o d x1 y1 x2 y2 x3 y3) e1 e2 e3
 clear e1 e2 e3
 rw [← ha,← hb,← ha',← hb'] at hX hY
 have hp2:=F.mul_ne hp hm
 have hp2':=F.mul_ne hp' hm'
 generalize 1 + d * x1 * x2 * y1 * y2 = p at *
 generalize 1 - d * x1 * x2 * y1 * y2 = m at *
 generalize 1 + d * x2 * x3 * y2 * y3 = p' at *
 generalize 1 - d * x2 * x3 * y2 * y3 = m' at *
 clear ha hb ha' hb' hp hm hp' hm' x2 y2
 have f1:a * p * m * y3 + x3 * (b * m) * p = (p * m) * (a * y3 + x3 * b):=by grobner
 have f2:p' * m' + d * (a' * p') * (b' * m') * x1 * y1 = (p' * m') * (1 + d * x1 * a' * y1 * b'):=by grobner
 have f3:x1 * (b' * m') * p' + a' * p' * m' * y1 = (p' * m') * (x1 * b' + a' * y1):=by grobner
 have f4:p * m + d * (a * p) * (b * m) * x3 * y3 = (p * m) * (1 + d * a * x3 * b * y3):=by grobner
 have f5:b * m * p * y3 + a * p * m * x3 = (p * m) * (b * y3 + a * x3):=by grobner
 have f6:p' * m' - d * (a' * p') * (b' * m') * x1 * y1 = (p' * m') * (1 - d * x1 * a' * y1 * b'):=by grobner
 have f7:y1 * (b' * m') * p' + x1 * (a' * p') * m' = (p' * m') * (y1 * b' + x1 * a'):=by grobner
 have f8:p * m - d * (a * p) * (b * m) * x3 * y3 = (p * m) * (1 - d * a * x3 * b * y3):=by grobner
 rw [f1,f2,f3,f4,← hu,← hu'] at hX
 rw [f5,f6,f7,f8,← hv,← hv'] at hY
 clear f1 f2 f3 f4 f5 f6 f7 f8 hu hu' hv hv'
 generalize 1 + d * x1 * a' * y1 * b' = k' at *
 generalize 1 + d * a * x3 * b * y3 = k at *
 generalize 1 - d * x1 * a' * y1 * b' = l' at *
 generalize 1 - d * a * x3 * b * y3 = l at *
 generalize p * m = s at *
 generalize p' * m' = s' at *
 constructor
 ·refine F.cancel (a:=s * s' * k * k') (F.mul_ne (F.mul_ne (F.mul_ne hp2 hp2') kp) kp') ?_
  grobner
 ·refine F.cancel (a:=s * s' * l * l') (F.mul_ne (F.mul_ne (F.mul_ne hp2 hp2') km) km') ?_
  grobner
omit F
end
structure Pt (n:Nat) [NeZero n] (d:Fin n) where
 x:Fin n
 y:Fin n
 on:On d x y
theorem Pt.ext {n:Nat} [NeZero n] {d:Fin n} {p q:Pt n d} (hx:p.x = q.x) (hy:p.y = q.y):p = q:=by
 cases p; cases q; cases hx; cases hy; rfl
section
variable {n:Nat} [NeZero n] {iv:Fin n → Fin n} {d i:Fin n} (F:Fld n iv d i)
def Pt.zero:Pt n d:=⟨0,1,by unfold On; grobner⟩
def Pt.neg (p:Pt n d):Pt n d:=⟨-p.x,p.y,by have:=p.on; unfold On at *; grobner⟩
def Pt.add (p q:Pt n d):Pt n d :=
 ⟨(p.x * q.y + q.x * p.y) * iv (1 + d * p.x * q.x * p.y * q.y),(p.y * q.y + p.x * q.x) * iv (1 - d * p.x * q.x * p.y * q.y),
  Qaj F p.on q.on (by have:=F.inv _ (F.denP p.on q.on); grobner) (by have:=F.inv _ (F.denM p.on q.on); grobner)⟩
theorem Qbx (p q:Pt n d):(Pt.add F p q).x * (1 + d * p.x * q.x * p.y * q.y) = p.x * q.y + q.x * p.y:=by
 have:=F.inv _ (F.denP p.on q.on)
 simp only [Pt.add]
 generalize 1 + d * p.x * q.x * p.y * q.y = k at *
 grobner
theorem Qbw (p q:Pt n d):(Pt.add F p q).y * (1 - d * p.x * q.x * p.y * q.y) = p.y * q.y + p.x * q.x:=by
 have:=F.inv _ (F.denM p.on q.on)
 simp only [Pt.add]
 generalize 1 - d * p.x * q.x * p.y * q.y = k at *
 grobner
theorem add_eq {p q r:Pt n d} (hx:r.x * (1 + d * p.x * q.x * p.y * q.y) = p.x * q.y + q.x * p.y) (hy:r.y * (1 - d * p.x * q.x * p.y * q.y) = p.y * q.y + p.x * q.x):Pt.add F p q = r:=by
 apply Pt.ext
 ·apply F.cancel (F.denP p.on q.on)
  rw [← Qbx F] at hx
  grobner
 ·apply F.cancel (F.denM p.on q.on)
  rw [← Qbw F] at hy
  grobner
theorem add_comm (p q:Pt n d):Pt.add F p q = Pt.add F q p:=by
 apply add_eq
 ·have:=Qbx F q p; grobner
 ·have:=Qbw F q p; grobner
theorem add_zero (p:Pt n d):Pt.add F p Pt.zero = p:=by
 apply add_eq <;> simp only [Pt.zero] <;> grobner
theorem zero_add (p:Pt n d):Pt.add F Pt.zero p = p:=by rw [add_comm,add_zero]
theorem add_neg (p:Pt n d):Pt.add F p p.neg = Pt.zero:=by
 have:=p.on
 unfold On at this
 apply add_eq <;> simp only [Pt.zero,Pt.neg] <;> grobner
theorem add_assoc (p q r:Pt n d):Pt.add F (Pt.add F p q) r = Pt.add F p (Pt.add F q r):=by
 obtain ⟨h1,h2⟩:=Qqt F p.on q.on r.on (Qbx F p q) (Qbw F p q) (Qbx F q r) (Qbw F q r) (Qbx F (Pt.add F p q) r) (Qbw F (Pt.add F p q) r) (Qbx F p (Pt.add F q r)) (Qbw F p (Pt.add F q r))
 exact Pt.ext h1 h2
theorem add_left_cancel {p q r:Pt n d} (h:Pt.add F p q = Pt.add F p r):q = r:=by
 have:Pt.add F p.neg (Pt.add F p q) = Pt.add F p.neg (Pt.add F p r):=by rw [h]
 rwa [← add_assoc,← add_assoc,add_comm F p.neg p,add_neg,zero_add,zero_add] at this
theorem neg_zero:(Pt.zero:Pt n d).neg = Pt.zero:=by
 apply Pt.ext <;> simp only [Pt.neg,Pt.zero]
 grobner
theorem Qlw (a b c e:Pt n d):Pt.add F (Pt.add F a b) (Pt.add F c e) = Pt.add F (Pt.add F a c) (Pt.add F b e):=by
 rw [add_assoc,add_assoc,← add_assoc F b,add_comm F b c,add_assoc F c]
theorem neg_add (p q:Pt n d):(Pt.add F p q).neg = Pt.add F p.neg q.neg:=by
 apply add_left_cancel F (p:=Pt.add F p q)
 rw [add_neg,Qlw,add_neg,add_neg,add_zero]
def Pt.mul (k:Nat) (p:Pt n d):Pt n d:=match k with
 | 0 => Pt.zero
 | k + 1 => Pt.add F (Pt.mul k p) p
theorem mul_add (a b:Nat) (p:Pt n d):Pt.mul F (a + b) p = Pt.add F (Pt.mul F a p) (Pt.mul F b p):=by
 induction b with
 | zero => rw [Jr,Pt.mul,add_zero]
 | succ b ih => rw [← Ka,Pt.mul,ih,Pt.mul,add_assoc]
theorem mul_one (p:Pt n d):Pt.mul F 1 p = p:=by rw [Pt.mul,Pt.mul,zero_add]
theorem mul_two (p:Pt n d):Pt.mul F 2 p = Pt.add F p p:=by rw [Pt.mul,mul_one]
theorem mul_zero (k:Nat):Pt.mul F k (Pt.zero:Pt n d) = Pt.zero:=by
 induction k with
 | zero => rfl
 | succ k ih => rw [Pt.mul,ih,zero_add]
theorem Qrp (a b:Nat) (p:Pt n d):Pt.mul F (a * b) p = Pt.mul F a (Pt.mul F b p):=by
 induction a with
 | zero => rw [Xi,Pt.mul,Pt.mul]
 | succ a ih => rw [Nat.succ_mul,mul_add,ih,Pt.mul]
theorem mul_neg (k:Nat) (p:Pt n d):Pt.mul F k p.neg = (Pt.mul F k p).neg:=by
 induction k with
 | zero => rw [Pt.mul,Pt.mul,neg_zero]
 | succ k ih => rw [Pt.mul,ih,Pt.mul,neg_add]
theorem mul_mod {l:Nat} {p:Pt n d} (hl:Pt.mul F l p = Pt.zero) (k:Nat):Pt.mul F (k % l) p = Pt.mul F k p:=by
 have h:Pt.mul F k p = Pt.mul F (l * (k / l) + k % l) p:=by rw [Vr]
 rw [h,mul_add,K7,Qrp,hl,mul_zero,zero_add]
end
end Go.Cv
set_option linter.unusedSimpArgs false
set_option linter.unusedVariables false
namespace Go.NT
theorem Qv8 (m a:Nat):∀ (f e:Nat),pwf m a f e = pw m a f e
 | 0,_ => rfl
 | f + 1,e => by simp only [pwf,pw,Qv8 m a f]
theorem Qk5 {m a f e:Nat} (h:e < 2 ^ f):pwf m a f e = a ^ e % m:=by rw [Qv8,Q3s m a f e h]
def Qn9 (n q k a f:Nat):Bool:=n == q * k + 1 && decide (q * k < 2 ^ f) && pwf n a f (q * k) == 1 && Qf9 (pwf n a f k + n - 1) n == 1
theorem Qcf {n q k a f:Nat} (hq:Pr q) (h:Qn9 n q k a f = true):n = q * k + 1 ∧ a ^ (q * k) % n = 1 ∧ Qf9 (a ^ k % n + n - 1) n = 1:=by
 simp only [Qn9,Vw,beq_iff_eq,decide_eq_true_eq] at h
 obtain ⟨⟨⟨h1,h2⟩,h3⟩,h4⟩:=h
 have h5:k < 2 ^ f:=by
  have:k ≤ q * k:=Nat.le_mul_of_pos_left k (by have:=hq.1; omega)
  omega
 rw [Qk5 h2] at h3
 rw [Qk5 h5] at h4
 exact ⟨h1,h3,h4⟩
theorem Dn {n q k a f:Nat} (hq:Pr q) (h:(Qn9 n q k a f && decide (2 ≤ n) && decide (n < q * q)) = true):Pr n:=by
 simp only [Vw,decide_eq_true_eq] at h
 obtain ⟨h1,h2,h3⟩:=Qcf hq h.1.1
 exact Qwd h.1.2 hq h1 h.2 h2 h3
theorem R2 {n q k a q2 k2 a2 f:Nat} (hq:Pr q) (hq2:Pr q2) (h:(Qn9 n q k a f && Qn9 n q2 k2 a2 f && decide (2 ≤ n) && decide (q ≠ q2) && decide (n < (q * q2) * (q * q2))) = true):Pr n:=by
 simp only [Vw,decide_eq_true_eq] at h
 obtain ⟨h1,h2,h3⟩:=Qcf hq h.1.1.1.1
 obtain ⟨h1',h2',h3'⟩:=Qcf hq2 h.1.1.1.2
 exact Qwc h.1.1.2 hq h1 hq2 h1' h.1.2 h.2 h2 h3 h2' h3'
theorem pr1:Pr 991:=Bz (f:=30) (by decide) (by decide) (by decide +kernel)
theorem pr2:Pr 103:=Bz (f:=9) (by decide) (by decide) (by decide +kernel)
theorem pr3:Pr 8574133:=R2 (q:=991) (k:=8652) (a:=2) (q2:=103) (k2:=83244) (a2:=2) (f:=25) pr1 pr2 (by decide +kernel)
theorem pr4:Pr 127:=Bz (f:=10) (by decide) (by decide) (by decide +kernel)
theorem pr5:Pr 1919519569386763:=R2 (q:=8574133) (k:=223873314) (a:=2) (q2:=127) (k2:=15114327318006) (a2:=2) (f:=52) pr3 pr4 (by decide +kernel)
theorem pr6:Pr 569003:=Bz (f:=753) (by decide) (by decide) (by decide +kernel)
theorem pr7:Pr 2773320623:=Dn (q:=569003) (k:=4874) (a:=2) (f:=33) pr6 (by decide +kernel)
theorem pr8:Pr 72106336199:=Dn (q:=2773320623) (k:=26) (a:=2) (f:=38) pr7 (by decide +kernel)
theorem pr9:Pr 75445702479781427272750846543864801:=R2 (q:=1919519569386763) (k:=39304471641247389600) (a:=2) (q2:=72106336199) (k2:=1046311689884858398375200) (a2:=2) (f:=117) pr5 pr8 (by decide +kernel)
theorem pr10:Pr 430751:=Bz (f:=655) (by decide) (by decide) (by decide +kernel)
theorem pr11:Pr 4153:=Bz (f:=63) (by decide) (by decide) (by decide +kernel)
theorem pr12:Pr 31757755568855353:=R2 (q:=430751) (k:=73726481352) (a:=2) (q2:=4153) (k2:=7646943310584) (a2:=2) (f:=56) pr10 pr11 (by decide +kernel)
theorem pr13:Pr 74058212732561358302231226437062788676166966415465897661863160754340907:=R2 (q:=75445702479781427272750846543864801) (k:=981609426360740691344999861639072106) (a:=2) (q2:=31757755568855353) (k2:=2331972502653487852620185443007392165117953542933313402) (a2:=2) (f:=237) pr9 pr12 (by decide +kernel)
theorem pr14:Pr 57896044618658097711785492504343953926634992332820282019728792003956564819949:=Dn (q:=74058212732561358302231226437062788676166966415465897661863160754340907) (k:=781764) (a:=2) (f:=256) pr13 (by decide +kernel)
end Go.NT
namespace Go.Fp
open Go.NT Go.Cv
def P:Nat:=57896044618658097711785492504343953926634992332820282019728792003956564819949
theorem Qar:P = 57896044618658097711785492504343953926634992332820282019728792003956564819949:=rfl
instance:NeZero P:=⟨by decide⟩
theorem Q3j:Pr P:=pr14
abbrev Fe:=Fin P
def fp (n:Nat):Fe:=Fin.ofNat P n
theorem Rl (n:Nat):(fp n).val = n % P:=rfl
theorem Qbt {a b:Nat}:fp a = fp b ↔ a % P = b % P:=by
 constructor
 ·intro h; exact congrArg Fin.val h
 ·intro h; exact Fin.ext h
theorem Hs (a:Nat):fp (a % P) = fp a:=Qbt.2 (Hh _ _)
theorem Gg (a b:Nat):fp (a + b) = fp a + fp b:=Fin.ext (by rw [Rl,Fin.val_add,Rl,Rl,← Qfv])
theorem U1 (a b:Nat):fp (a * b) = fp a * fp b:=Fin.ext (by rw [Rl,Fin.val_mul,Rl,Rl,← Hf])
theorem Qrw:fp 0 = 0:=rfl
theorem Qln:fp 1 = 1:=rfl
theorem Qx2:fp 2 = 2:=rfl
theorem Q6d:fp P = 0:=Fin.ext (by rw [Rl,Nat.mod_self]; rfl)
theorem Qrx (k:Nat):fp (k * P) = 0:=by rw [U1,Q6d]; grobner
theorem Qx3 {a b:Nat} (h:b ≤ a):fp (a - b) = fp a - fp b:=by
 have h1:=Gg (a - b) b
 rw [Nat.sub_add_cancel h] at h1
 grobner
def pow (a:Fe) (k:Nat):Fe:=match k with
 | 0 => 1
 | k + 1 => pow a k * a
theorem Qk6 (a:Fe):∀ k,(pow a k).val = a.val ^ k % P
 | 0 => rfl
 | k + 1 => by rw [pow,Fin.val_mul,Qk6 a k,Kq,Qqy]
theorem pow_add (a:Fe) (j:Nat):∀ k,pow a (j + k) = pow a j * pow a k
 | 0 => by rw [Jr]; simp only [pow]; grobner
 | k + 1 => by rw [← Ka,pow,pow_add a j k,pow]; grobner
theorem pow_mul (a:Fe) (j:Nat):∀ k,pow a (j * k) = pow (pow a j) k
 | 0 => by rw [To]; rfl
 | k + 1 => by rw [Nat.mul_succ,pow_add,pow_mul a j k,pow]
theorem pow_one (a:Fe):pow a 1 = a:=by simp only [pow]; grobner
theorem pow_two (a:Fe):pow a 2 = a * a:=by simp only [pow]; grobner
theorem one_pow:∀ k,pow 1 k = 1
 | 0 => rfl
 | k + 1 => by rw [pow,one_pow k]; grobner
theorem zero_pow {k:Nat} (hk:0 < k):pow 0 k = 0:=by
 obtain ⟨j,rfl⟩:∃ j,k = j + 1:=⟨k - 1,by omega⟩
 rw [pow]; grobner
theorem Q5g (a k:Nat):pow (fp a) k = fp (a ^ k):=Fin.ext (by rw [Qk6,Rl,Rl,← Q6r])
theorem ndvd {a:Fe} (h:a ≠ 0):¬ P ∣ a.val:=fun hd => by
 have h1:=Qd1 hd
 rw [Z3 a.isLt] at h1
 exact h (Fin.ext h1)
theorem Qey {a:Fe} (h:a ≠ 0):pow a (P - 1) = 1:=Fin.ext (by rw [Qk6,Go.NT.Qey Q3j (ndvd h)]; rfl)
def iv (a:Fe):Fe:=pow a (P - 2)
theorem Qaf {a:Fe} (h:a ≠ 0):a * iv a = 1:=by
 have h1:=Qey h
 rw [show P - 1 = (P - 2) + 1 from rfl,pow] at h1
 unfold iv
 rw [← h1]; grobner
theorem Q1f:iv 0 = 0:=zero_pow (by decide)
def dN:Nat:=37095705934669439343138083508754565189542113879843219016388785533085940283555
def iN:Nat:=19681161376707505956807079304988542015446066515923890162744021073123829784752
def d:Fe:=fp dN
def i:Fe:=fp iN
theorem Qgz {a k r f:Nat} (hk:k < 2 ^ f) (h:pwf P a f k = r):pow (fp a) k = fp r:=by
 rw [Q5g,← h,Qk5 hk,Hs]
theorem Qpb:i * i = -1:=by
 have h:i * i + 1 = 0:=by
  unfold i
  rw [← U1,← Qln,← Gg]
  exact Fin.ext (by rw [Rl]; decide +kernel)
 grobner
theorem Rk:(1:Fe) ≠ 0:=fun h => by
 have:=congrArg Fin.val h
 revert this
 decide +kernel
theorem Q4d:(2:Fe) ≠ 0:=fun h => by
 have:=congrArg Fin.val h
 revert this
 decide +kernel
theorem Qg0 (r:Fe):pow (r * r) ((P - 1) / 2) = 1 ∨ r = 0:=by
 by_cases h:r = 0
 ·exact .inr h
 ·left
  rw [← pow_two,← pow_mul,show 2 * ((P - 1) / 2) = P - 1 from by decide +kernel,Qey h]
theorem Q55:pow d ((P - 1) / 2) = fp (P - 1):=Qgz (f:=256) (by decide +kernel) (by decide +kernel)
theorem nosq (r:Fe):r * r ≠ d:=fun h => by
 have h1:=Q55
 rcases Qg0 r with h2 | h2
 ·rw [h,h1] at h2
  have:=congrArg Fin.val h2
  revert this
  decide +kernel
 ·subst h2
  have h3:d = 0:=by rw [← h]; grobner
  have:=congrArg Fin.val h3
  revert this
  decide +kernel
theorem fld:Fld P iv d i:=⟨fun _ h => Qaf h,Q1f,Rk,Q4d,Qpb,nosq⟩
end Go.Fp

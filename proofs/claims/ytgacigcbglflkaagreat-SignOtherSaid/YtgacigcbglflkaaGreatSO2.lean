/- What the law leans on, part 2. -/
import Derived.Test.YtgacigcbglflkaaGreatSO1
import Derived.SizedLaws
import Derived.ChangeArms
set_option linter.unusedSimpArgs false
set_option linter.unusedVariables false
open And renaming intro → Q9
open Array renaming getElem?_eq_some_iff → Tx
open Bool renaming and_eq_true → Vw, and_self → Xr, and_true → Xz, false_and → Qfx, false_eq_true → Zv, not_false → J1, not_true → Xx, true_and → Xq
open Int renaming cast_ofNat_Int → Ww, fdiv → Tw, fdiv_eq_ediv_of_nonneg → Y6, le_refl → Ke, natCast_nonneg → Jg, natCast_one → B0, natCast_zero → Xu, reduceEq → Qp, reduceLE → Qo, reduceLT → Qn, reduceToNat → Qd, toNat_natCast → Jh
open List renaming all_cons → J4, all_eq_true → Yh, all_nil → Kd, append_assoc → Jx, append_nil → Kw, cons_append → Zb, drop_zero → Q2, eq_nil_of_length_eq_zero → Yl, ext_getElem? → Ym, getD_eq_getElem?_getD → Xh, getElem?_append_left → Qy, getElem?_append_right → Zh, getElem?_cons_succ → Zp, getElem?_cons_zero → Zq, getElem?_drop → Vx, getElem?_eq_getElem → Q1, getElem?_eq_none → J0, getElem?_eq_some_iff → Q8, getElem?_map → Uw, getElem?_set_ne → Jj, getElem?_set_self → Xp, getElem?_take → Ks, getElem_mem → Qcl, length_append → Z4, length_cons → Ja, length_nil → Jf, length_set → Xe, map_cons → Y9, map_map → Ql4, map_set → Q3k, mem_append → Jb, mem_map → U7, mem_or_eq_of_mem_set → Hw, mem_range → D4, nil_append → Za, range → Y5, replicate → Qa, replicate_succ → Uh, set_append_right → Uk, set_cons_succ → Tu, set_cons_zero → Tt, take_add_one → Yf, take_of_length_le → Zl, take_zero → Q3
open List.cons renaming injEq → R6
open Nat renaming add_comm → Gb, add_mul → Kt, add_mul_div_right → Mr, add_mul_mod_self_right → Bt, add_zero → Jr, and_lt_two_pow → Dr, div_div_eq_div_mul → X9, div_eq_of_lt → Wz, div_lt_iff_lt_mul → Qe8, div_one → Wi, eq_zero_or_pos → Yd, le_of_lt → Wh, le_refl → Zj, lt_irrefl → Xj, lt_of_lt_of_le → X1, lt_or_ge → V5, min_eq_left → V8, mod_eq_of_lt → Z3, mod_lt → Jk, mod_one → Qos, mul_add → Hg, mul_assoc → Vo, mul_comm → K7, mul_le_mul → Wg, mul_le_mul_left → Ug, mul_le_mul_right → Vt, mul_left_comm → Wf, mul_one → Xy, not_lt_zero → Jz, one_mul → Wm, or_lt_two_pow → Qbk, pow_add → Wl, pow_add_one' → Qop, pow_le_pow_right → Vf, pow_mul → Yp, pow_pos → Ws, pow_succ → Kq, pow_zero → Ya, reduceAdd → Qf, reduceEqDiff → Qb, reduceLT → Qm, reduceMul → Qh, reduceSub → Qg, sub_self → Kv, sub_zero → Xw, two_pow_add_eq_or_of_lt → G9, zero_add → Z1, zero_le → Qft, zero_mul → Xi
open Option renaming bind_eq_some_iff → Qc, bind_some → Q4, getD_some → Ub, isNone_none → Jd, isSome_none → Je, isSome_some → Tr, map_eq_some_iff → Jm
open Option.some renaming injEq → Q7
set_option linter.unusedSimpArgs false
set_option linter.unusedVariables false
namespace Go.Ev
section
variable {T:Tab}
def AOp.noCall:AOp → Bool
 | .call .. | .callv .. => false
 | _ => true
theorem Ku {o:AOp} {e:Env} {H:List Ob} (h:o.noCall = true):Yt T o e H = Zs H e o:=by
 rw [Yt.eq_def]
 cases o <;> first | rfl | (simp [AOp.noCall] at h)
theorem Ki {e:Env} {H:List Ob} {x:Operand}:Yt T (.move x) e H = Zs H e (.move x):=Ku rfl
theorem Kh {e:Env} {H:List Ob} {c a b:Operand}:Yt T (.pick c a b) e H = Zs H e (.pick c a b):=Ku rfl
theorem X8 {e:Env} {H:List Ob} {zero:List Value}:Yt T (.alloc zero) e H = Zs H e (.alloc zero):=Ku rfl
theorem K0 {e:Env} {H:List Ob} {x:Operand}:Yt T (.box x) e H = Zs H e (.box x):=Ku rfl
theorem Kj {e:Env} {H:List Ob} {n:Option Nat} {a:Operand}:Yt T (.load n a) e H = Zs H e (.load n a):=Ku rfl
theorem X3 {e:Env} {H:List Ob} {n:Nat} {a v:Operand}:Yt T (.store n a v) e H = Zs H e (.store n a v):=Ku rfl
theorem K3 {e:Env} {H:List Ob} {op:BinOp} {x y:Operand}:Yt T (.bin op x y) e H = Zs H e (.bin op x y):=Ku rfl
theorem Kz {e:Env} {H:List Ob} {ks:Option (List Bool)} {neg:Bool} {x y:Operand}:Yt T (.eqv ks neg x y) e H = Zs H e (.eqv ks neg x y):=Ku rfl
theorem X4 {e:Env} {H:List Ob} {k:Nat} {neg:Bool} {x:Operand}:Yt T (.isNil k neg x) e H = Zs H e (.isNil k neg x):=Ku rfl
theorem Vg {e:Env} {H:List Ob} {op:UnOp} {x:Operand}:Yt T (.un op x) e H = Zs H e (.un op x):=Ku rfl
theorem Kl {e:Env} {H:List Ob} {k:IntKind} {x:Operand}:Yt T (.conv k x) e H = Zs H e (.conv k x):=Ku rfl
theorem J9 {e:Env} {H:List Ob} {x:Operand}:Yt T (.convStr x) e H = Zs H e (.convStr x):=Ku rfl
theorem Qjb {e:Env} {H:List Ob} {x:Operand}:Yt T (.convSl x) e H = Zs H e (.convSl x):=Ku rfl
theorem Kx {e:Env} {H:List Ob} {x:Operand}:Yt T (.s2b x) e H = Zs H e (.s2b x):=Ku rfl
theorem K4 {e:Env} {H:List Ob} {x:Operand}:Yt T (.b2s x) e H = Zs H e (.b2s x):=Ku rfl
theorem X6 {e:Env} {H:List Ob} {n:Option Nat} {off:Nat} {x:Operand}:Yt T (.field n off x) e H = Zs H e (.field n off x):=Ku rfl
theorem X5 {e:Env} {H:List Ob} {n:Option Nat} {len es:Nat} {x i:Operand}:Yt T (.index n len es x i) e H = Zs H e (.index n len es x i):=Ku rfl
theorem Jw {e:Env} {H:List Ob} {x i:Operand}:Yt T (.indexStr x i) e H = Zs H e (.indexStr x i):=Ku rfl
theorem X7 {e:Env} {H:List Ob} {zero:List Value} {parts:List (Nat × Nat × Operand)}:Yt T (.build zero parts) e H = Zs H e (.build zero parts):=Ku rfl
theorem Ji {e:Env} {H:List Ob} {cells:List Value} {len:Nat} {parts:List (Nat × Nat × Operand)}:Yt T (.buildSlice cells len parts) e H = Zs H e (.buildSlice cells len parts):=Ku rfl
theorem Jp {e:Env} {H:List Ob} {off:Nat} {x:Operand}:Yt T (.fieldAddr off x) e H = Zs H e (.fieldAddr off x):=Ku rfl
theorem Jo {e:Env} {H:List Ob} {len es:Nat} {x i:Operand}:Yt T (.indexAddr len es x i) e H = Zs H e (.indexAddr len es x i):=Ku rfl
theorem J7 {e:Env} {H:List Ob} {es:Nat} {x i:Operand}:Yt T (.indexSl es x i) e H = Zs H e (.indexSl es x i):=Ku rfl
theorem Ju {e:Env} {H:List Ob} {n es:Nat} {x:Operand} {lo hi mx:Option Operand}:Yt T (.sliceArr n es x lo hi mx) e H = Zs H e (.sliceArr n es x lo hi mx):=Ku rfl
theorem J5 {e:Env} {H:List Ob} {es:Nat} {x:Operand} {lo hi mx:Option Operand}:Yt T (.sliceSl es x lo hi mx) e H = Zs H e (.sliceSl es x lo hi mx):=Ku rfl
theorem Jt {e:Env} {H:List Ob} {x:Operand} {lo hi:Option Operand}:Yt T (.sliceStr x lo hi) e H = Zs H e (.sliceStr x lo hi):=Ku rfl
theorem Jn {e:Env} {H:List Ob} {zero:List Value} {bytes:Nat} {l c:Operand}:Yt T (.makeSlice zero bytes l c) e H = Zs H e (.makeSlice zero bytes l c):=Ku rfl
theorem J8 {e:Env} {H:List Ob} {x:Operand} {i:Nat}:Yt T (.extract x i) e H = Zs H e (.extract x i):=Ku rfl
theorem J6 {e:Env} {H:List Ob} {t:TypeId} {x:Operand}:Yt T (.mkIface t x) e H = Zs H e (.mkIface t x):=Ku rfl
theorem Xl {e:Env} {H:List Ob} {fn:Fn} {first captured:List Operand}:Yt T (.mkFunc fn first captured) e H = Zs H e (.mkFunc fn first captured):=Ku rfl
theorem Jv {e:Env} {H:List Ob} {x:Operand}:Yt T (.nilCheck x) e H = Zs H e (.nilCheck x):=Ku rfl
theorem Kg {e:Env} {H:List Ob} {n:Nat} {x:Operand}:Yt T (.s2ap n x) e H = Zs H e (.s2ap n x):=Ku rfl
theorem Xn {e:Env} {H:List Ob} {es bytes:Nat} {s x:Operand}:Yt T (.append es bytes s x) e H = Zs H e (.append es bytes s x):=Ku rfl
theorem Kk {e:Env} {H:List Ob} {es:Nat} {d s:Operand}:Yt T (.copy es d s) e H = Zs H e (.copy es d s):=Ku rfl
theorem Ky {e:Env} {H:List Ob} {str:Bool} {x:Operand}:Yt T (.len str x) e H = Zs H e (.len str x):=Ku rfl
theorem Xm {e:Env} {H:List Ob} {max:Bool} {x y:Operand}:Yt T (.minmax max x y) e H = Zs H e (.minmax max x y):=Ku rfl
theorem Km {e:Env} {H:List Ob} {f:FuncId} {xs:List Operand}:Yt T (.call f xs false) e H = (Wj e xs).bind fun args => (V6 T f args H).bind fun r => some (r.1,r.2.1,none,r.2.2):=by
 rw [Yt.eq_def]; dsimp only; cases Wj e xs <;> rfl
theorem Xa {e:Env} {H:List Ob} {f:FuncId} {xs:List Operand}:Yt T (.call f xs true) e H = (Wj e xs).bind fun args => if args.all rf then (V6 T f args []).bind fun r => if rf r.1 then some (r.1,H,some [],[]) else none else none:=by
 rw [Yt.eq_def]; dsimp only; cases Wj e xs <;> rfl
theorem Kf {base:Nat} {s:St}:Jl T base .skip s = some (.normal,s):=by rw [Jl.eq_def]
theorem Kn {base id:Nat} {s:St}:Jl T base (.exit id) s = some (.exit id,s):=by rw [Jl.eq_def]
theorem K6 {base:Nat} {s:St}:Jl T base .ret s = some (.ret,s):=by rw [Jl.eq_def]
theorem Xf {base:Nat} {ops:List AOper} {keep:Option (List Nat)} {pairs:List (Nat × Nat)} {s:St}:Jl T base (.region ops keep pairs) s =
  (evOps T base ops s []).bind fun r => if Vu r.2 pairs then some (.normal,r.1.after keep) else none:=by rw [Jl.eq_def]; rfl
theorem K5 {base:Nat} {a b:ACode} {s:St}:Jl T base (.seq a b) s = (Jl T base a s).bind fun r => match r.1 with
  | .normal => Jl T base b r.2
  | x => some (x,r.2):=by rw [Jl.eq_def]; rfl
theorem Ko {base:Nat} {c:Operand} {a b:ACode} {s:St}:Jl T base (.cond c a b) s = match opd s.env c with
  | some (.bool true) => Jl T base a s
  | some (.bool false) => Jl T base b s
  | _ => none:=by rw [Jl.eq_def]; rfl
theorem Jq {base id:Nat} {b:ACode} {s:St}:Jl T base (.block id b) s = (Jl T base b s).bind fun r => match r.1 with
  | .exit i => if i = id then some (.normal,r.2) else some (.exit i,r.2)
  | x => some (x,r.2):=by rw [Jl.eq_def]; rfl
theorem Yy {base:Nat} {b:ACode} {s:St}:Jl T base (.loop b) s = (Jl T base b s).bind fun r => match r.1 with
  | .normal => Jl T base (.loop b) r.2
  | x => some (x,r.2):=by rw [Jl.eq_def]; rfl
theorem Vc {base:Nat} {s:St} {recs:List Rec}:evOps T base [] s recs = some (s,recs):=by rw [evOps.eq_def]
theorem Kr {base:Nat} {o:AOper} {r:List AOper} {s:St} {recs:List Rec}:evOps T base (o :: r) s recs = match guardOf s.env o.guard with
   | some true => (Yt T o.op s.env s.h).bind fun x => evOps T base r ⟨s.env.put o.dst x.1,x.2.1,Xo base s.log x.2.2.2⟩ (recs ++ [(x.2.2.1,x.2.2.2)])
   | some false => evOps T base r ⟨s.env.put o.dst undef,s.h,s.log⟩ (recs ++ [(some [],[])])
   | none => none:=by rw [evOps.eq_def]; rfl
end
theorem Dp {α β:Type} {x y:Option α} (f:α → Option β) (h:x = y):x.bind f = y.bind f:=by rw [h]
abbrev FunE:=Nat → List Value → List Ob → Option (Value × List Ob × List Nat)
section
variable {T:Tab} {F:FunE}
theorem Jc {f:Nat} {args:List Value} {H:List Ob} {fn:AFun} (hfn:T.fn f = some fn):V6 T f args H = (Jl T H.length fn.body ⟨Z0 0 args,H,[]⟩).bind fun xs => match xs.1 with
   | .exit _ => none
   | _ => (Va xs.2.env xs.2.h fn.results).bind fun vs => some (packed vs,xs.2.h,xs.2.log):=by
 rw [V6.eq_def,hfn]; rfl
end
end Go.Ev
set_option linter.unusedSimpArgs false
set_option linter.unusedVariables false
namespace Go.Ev
theorem wrap_u32 (x:Int):IntKind.u32.wrap x = x % 4294967296:=rfl
theorem Rt (x:Int):IntKind.u64.wrap x = x % 18446744073709551616:=rfl
theorem wrap_u8 (x:Int):IntKind.u8.wrap x = x % 256:=rfl
theorem Qul (x:Int):IntKind.u16.wrap x = x % 65536:=rfl
theorem K9 {x:Int} (h : -9223372036854775808 ≤ x) (k:x < 9223372036854775808):IntKind.i64.wrap x = x:=by
 simp [IntKind.wrap,IntKind.signed,IntKind.bits]
 omega
theorem Wq {k:IntKind} (hk:k.signed = false) {n:Nat} (h:n < 2 ^ k.bits):k.wrap (n:Int) = n:=by
 simp only [IntKind.wrap,hk,Qfx,if_false,Zv]
 rw [Int.emod_eq_of_lt (Jg _)]
 exact_mod_cast h
theorem Qeu {w a:Nat}:BitVec.ofInt w (a:Int) = BitVec.ofNat w a:=by simp
theorem R4 {k:IntKind} (hk:k.signed = false) {a b:Nat} (ha:a < 2 ^ k.bits) (hb:b < 2 ^ k.bits):Vz .and k a b = ((a &&& b:Nat):Int):=by
 simp only [Vz,Qeu]
 rw [BitVec.toNat_and,BitVec.toNat_ofNat,BitVec.toNat_ofNat,Z3 ha,Z3 hb,Wq hk (Dr _ hb)]
theorem Gk {k:IntKind} (hk:k.signed = false) {a b:Nat} (ha:a < 2 ^ k.bits) (hb:b < 2 ^ k.bits):Vz .or k a b = ((a ||| b:Nat):Int):=by
 simp only [Vz,Qeu]
 rw [BitVec.toNat_or,BitVec.toNat_ofNat,BitVec.toNat_ofNat,Z3 ha,Z3 hb,Wq hk (Qbk ha hb)]
theorem Qyt {k:IntKind} (hk:k.signed = false) {a b:Nat} (ha:a < 2 ^ k.bits) (hb:b < 2 ^ k.bits):Vz .xor k a b = ((a ^^^ b:Nat):Int):=by
 simp only [Vz,Qeu]
 rw [BitVec.toNat_xor,BitVec.toNat_ofNat,BitVec.toNat_ofNat,Z3 ha,Z3 hb,Wq hk (Nat.xor_lt_two_pow ha hb)]
theorem Qqq (op:BinOp) (a b:Int):(Vz .and .u32 a b = ((BitVec.ofInt 32 a &&& BitVec.ofInt 32 b).toNat:Int)) ∧ (Vz .or .u32 a b = ((BitVec.ofInt 32 a ||| BitVec.ofInt 32 b).toNat:Int)) ∧ (Vz .xor .u32 a b = ((BitVec.ofInt 32 a ^^^ BitVec.ofInt 32 b).toNat:Int)) :=
 ⟨Wq (k := .u32) rfl (BitVec.isLt _),Wq (k := .u32) rfl (BitVec.isLt _),Wq (k := .u32) rfl (BitVec.isLt _)⟩
theorem Qi5 (v:BitVec 32):BitVec.ofInt 32 (v.toNat:Int) = v:=by simp
theorem top32 (v:BitVec 32):((v.toNat:Int).fdiv (2 ^ 31)) = if v.msb then 1 else 0:=by
 have h:=v.isLt
 rw [BitVec.msb_eq_decide]
 have e:((v.toNat:Int).fdiv (2 ^ 31)) = ((v.toNat / 2147483648:Nat):Int):=by
  rw [Y6 _ (by decide)]; rfl
 rw [e]
 by_cases hv:2 ^ (32 - 1) ≤ v.toNat
 ·simp only [hv,decide_true,if_true]; omega
 ·simp only [hv,decide_false,Zv,if_false]; omega
theorem Qnl (x:Int):(BitVec.ofInt 32 x).msb = decide (2147483648 ≤ x % 4294967296):=by
 rw [BitVec.msb_eq_decide,BitVec.toNat_ofInt]
 by_cases h:2147483648 ≤ x % 4294967296
 ·simp only [h,decide_true,decide_eq_true_eq]; omega
 ·simp only [h,decide_false,decide_eq_false_iff_not]; omega
theorem Qyr {x y c:Nat} (hx:x < 4294967296) (hy:y < 4294967296) (hc:c ≤ 1) :
  (Vz .or .u32 (Vz .and .u32 (Vz .xor .u32 IntKind.u32.max x) y) (Vz .and .u32 (Vz .xor .u32 IntKind.u32.max (Vz .xor .u32 x y)) (((x:Int) - y - c) % 4294967296))).fdiv (2 ^ 31) = if x < y + c then 1 else 0:=by
 have hm:BitVec.ofInt 32 IntKind.u32.max = BitVec.allOnes 32:=by decide
 simp only [(Qqq .and _ _).1,(Qqq .and _ _).2.1,(Qqq .and _ _).2.2,Qi5,top32,hm]
 simp only [BitVec.msb_or,BitVec.msb_and,BitVec.msb_xor,Qnl,BitVec.msb_allOnes (by decide:0 < 32)]
 by_cases a:(2147483648:Int) ≤ (x:Int) % 4294967296 <;> by_cases b:(2147483648:Int) ≤ (y:Int) % 4294967296 <;> by_cases d:(2147483648:Int) ≤ ((x:Int) - y - c) % 4294967296 % 4294967296 <;> simp [a,b,d] <;> omega
end Go.Ev
set_option linter.unusedSimpArgs false
set_option linter.unusedVariables false
namespace Go.Ev
section
variable {T:Tab}
theorem Qnn {base:Nat} {body:ACode} (I:Nat → St) {r:AExit × St} (hr:r.1 ≠ .normal):∀ (n i:Nat),(∀ j,i ≤ j → j < i + n → Jl T base body (I j) = some (.normal,I (j + 1))) → Jl T base body (I (i + n)) = some r →
  Jl T base (.loop body) (I i) = some r
 | 0,i,_,hl => by
  rw [Yy,show i = i + 0 from rfl,hl]
  obtain ⟨x,s⟩:=r
  cases x with
  | normal => exact absurd rfl hr
  | exit id => rfl
  | ret => rfl
 | n + 1,i,hs,hl => by
  rw [Yy,hs i (Zj _) (by omega)]
  exact Qnn I hr n (i + 1) (fun j h1 h2 => hs j (by omega) (by omega)) (by rw [show i + 1 + n = i + (n + 1) by omega]; exact hl)
theorem Wb {base id:Nat} {body:ACode} (I:Nat → St) {s':St} (n:Nat) (hs:∀ j,j < n → Jl T base body (I j) = some (.normal,I (j + 1))) (hl:Jl T base body (I n) = some (.exit id,s')) :
  Jl T base (.block id (.loop body)) (I 0) = some (.normal,s'):=by
 rw [Jq,Qnn (r:=(.exit id,s')) I (by simp) n 0 (fun j _ h => hs j (by omega)) (by simpa using hl)]
 simp
end
section
variable {T:Tab}
theorem Qno {base:Nat} {body:ACode} {I:Nat → St → Prop} {x:AExit} (hx:x ≠ .normal) {Q:St → Prop} (n:Nat) (hs:∀ j s,j < n → I j s → ∃ s',Jl T base body s = some (.normal,s') ∧ I (j + 1) s') (hl:∀ s,I n s → ∃ s',Jl T base body s = some (x,s') ∧ Q s') :
  ∀ (k i:Nat),i + k = n → ∀ s,I i s → ∃ s',Jl T base (.loop body) s = some (x,s') ∧ Q s'
 | 0,i,hi,s,h => by
  obtain ⟨s',h1,h2⟩:=hl s (by rw [← hi]; exact h)
  refine ⟨s',?_,h2⟩
  rw [Yy,h1]
  cases x with
  | normal => exact absurd rfl hx
  | exit id => rfl
  | ret => rfl
 | k + 1,i,hi,s,h => by
  obtain ⟨s1,h1,h2⟩:=hs i s (by omega) h
  obtain ⟨s',h3,h4⟩:=Qno hx n hs hl k (i + 1) (by omega) s1 h2
  exact ⟨s',by rw [Yy,h1]; exact h3,h4⟩
theorem Vi {base id:Nat} {body:ACode} (I:Nat → St → Prop) {Q:St → Prop} (n:Nat) {s:St} (h0:I 0 s) (hs:∀ j s,j < n → I j s → ∃ s',Jl T base body s = some (.normal,s') ∧ I (j + 1) s') (hl:∀ s,I n s → ∃ s',Jl T base body s = some (.exit id,s') ∧ Q s') :
  ∃ s',Jl T base (.block id (.loop body)) s = some (.normal,s') ∧ Q s':=by
 obtain ⟨s',h1,h2⟩:=Qno (T:=T) (x := .exit id) (by simp) n hs hl n 0 (by omega) s h0
 exact ⟨s',by rw [Jq,h1]; simp,h2⟩
end
theorem at2 {H r:List Ob} {a b c:Ob}:(H ++ a :: b :: c :: r)[H.length + 2]? = some c:=by simp
theorem Yg {H:List Ob} {id:Nat} {o:Ob} (h:H[id]? = some o) (hl:o.live = true):liveAt H id = some o:=by simp [liveAt,h,hl]
def Row (k:IntKind) (H:List Ob) (id off:Nat) (xs:List Nat):Prop:=∃ o,liveAt H id = some o ∧ ∀ i x,xs[i]? = some x → o.cells[off + i]? = some (.int k (x:Nat))
theorem Br {H l:List Ob} {id:Nat} {o:Ob} (h:liveAt H id = some o):liveAt (H ++ l) id = some o:=by
 simp only [liveAt,Qc] at h ⊢
 obtain ⟨o',h1,h2⟩:=h
 refine ⟨o',?_,h2⟩
 rw [Qy (Q8.1 h1).1]
 exact h1
theorem Row.app {k:IntKind} {H l:List Ob} {id off:Nat} {xs:List Nat} (h:Row k H id off xs):Row k (H ++ l) id off xs:=by
 obtain ⟨o,h1,h2⟩:=h
 exact ⟨o,Br h1,h2⟩
theorem Row.load {k:IntKind} {H:List Ob} {id off i x:Nat} {xs:List Nat} {e:Env} {a:Operand} (h:Row k H id off xs) (hi:xs[i]? = some x) (ha:opd e a = some (.pointer (some ⟨id,off + i,none⟩))) :
  Zs H e (.load none a) = some (.int k (x:Nat),H,some [id],[]):=by
 obtain ⟨o,h1,h2⟩:=h
 simp [Zs,ha,h1,Yn,h2 i x hi]
theorem Y8 {H r:List Ob} {cs:List Value} {o e:Bool} {n:Nat}:liveAt (H ++ ⟨cs,true,o,e,n⟩ :: r) H.length = some ⟨cs,true,o,e,n⟩:=by simp [liveAt]
theorem Wp {H r:List Ob} {a:Ob} {cs:List Value} {o e:Bool} {n:Nat}:liveAt (H ++ a :: ⟨cs,true,o,e,n⟩ :: r) (H.length + 1) = some ⟨cs,true,o,e,n⟩:=by simp [liveAt]
theorem Wu {H r:List Ob} {a b:Ob} {cs:List Value} {o e:Bool} {n:Nat}:liveAt (H ++ a :: b :: ⟨cs,true,o,e,n⟩ :: r) (H.length + 2) = some ⟨cs,true,o,e,n⟩:=by simp [liveAt]
def X0 (l:List Nat):List Value:=l.map fun n => .int .u32 (n:Nat)
def u8s (l:List Nat):List Value:=l.map fun n => .int .u8 (n:Nat)
theorem Bb (l:List Nat):(X0 l).length = l.length:=by simp [X0]
theorem X2 (l:List Nat):(u8s l).length = l.length:=by simp [u8s]
theorem Hl (l:List Nat) (i n:Nat):(X0 l).set i (.int .u32 (n:Nat)) = X0 (l.set i n):=by simp [X0,Q3k]
theorem U3 (l:List Nat) (i n:Nat):(u8s l).set i (.int .u8 (n:Nat)) = u8s (l.set i n):=by simp [u8s,Q3k]
theorem Bc {l:List Nat} {i x:Nat} (h:l[i]? = some x):(X0 l)[i]? = some (.int .u32 (x:Nat)):=by simp [X0,h]
theorem Wo {l:List Nat} {i x:Nat} (h:l[i]? = some x):(u8s l)[i]? = some (.int .u8 (x:Nat)):=by simp [u8s,h]
theorem Vh (k:IntKind) (n:Int):(Value.int k n).cells.toList = [.int k n]:=rfl
theorem Xb (k:IntKind) (n:Int):(Value.int k n).cells.size = 1:=rfl
theorem Bx {H r:List Ob} {cs:List Value} {e:Bool} {s off:Nat} {v:List Value} (h:off + v.length ≤ cs.length):storeAt (H ++ ⟨cs,true,true,e,s⟩ :: r) ⟨H.length,off,none⟩ v = some (H ++ ⟨splice cs off v,true,true,e,s⟩ :: r):=by
 simp [storeAt,Y8,h]
theorem Qmm {H r:List Ob} {a:Ob} {cs:List Value} {e:Bool} {s off:Nat} {v:List Value} (h:off + v.length ≤ cs.length):storeAt (H ++ a :: ⟨cs,true,true,e,s⟩ :: r) ⟨H.length + 1,off,none⟩ v = some (H ++ a :: ⟨splice cs off v,true,true,e,s⟩ :: r):=by
 simp [storeAt,Wp,h]
theorem Qml {H r:List Ob} {a b:Ob} {cs:List Value} {e:Bool} {s off:Nat} {v:List Value} (h:off + v.length ≤ cs.length):storeAt (H ++ a :: b :: ⟨cs,true,true,e,s⟩ :: r) ⟨H.length + 2,off,none⟩ v = some (H ++ a :: b :: ⟨splice cs off v,true,true,e,s⟩ :: r):=by
 simp [storeAt,Wu,h]
theorem Vk (b o n:Nat):(⟨b,o,none⟩:Addr).add n = ⟨b,o + n,none⟩:=by
 unfold Addr.add
 split <;> simp_all
theorem Vn {n:Nat} (h:n < 9223372036854775808):IntKind.i64.wrap (n:Int) = n:=K9 (by omega) (by omega)
theorem Xc (cs:List Value) (off:Nat) (x:Value):splice cs off [x] = cs.set off x:=rfl
theorem Ve (l:List Value):(Value.agg l.toArray).cells.toList = l:=rfl
theorem J3 (l:List Value):(Value.agg l.toArray).cells.size = l.length:=rfl
theorem Bg (n:Nat):(n + 1 < n) = False:=by simp
theorem Bf (n:Nat):(n + 2 < n) = False:=by simp
theorem Be (n:Nat):(n + 3 < n) = False:=by simp
theorem Bd (n:Nat):(n + 4 < n) = False:=by simp
theorem Y1 (k:IntKind) (n:Int):rf (.int k n) = true:=rfl
theorem Xk (k j:IntKind) (a b:Int):rf (.tuple #[.int k a,.int j b]) = true:=rfl
theorem Ye (a b:Value):(#[a,b]:Array Value).toList = [a,b]:=rfl
theorem Row.elems {k:IntKind} {H:List Ob} {id off n c:Nat} {xs:List Nat} (h:Row k H id off xs) (hx:0 < xs.length):elemsOf H 1 xs.length (.slice (some ⟨id,off,none⟩) n c) = some (xs.map fun (x:Nat) => Value.int k x):=by
 obtain ⟨o,h1,h2⟩:=h
 have hl:off + xs.length ≤ o.cells.length:=by
  have:=h2 (xs.length - 1) _ (Q1 (by omega))
  have:=(Q8.1 this).1
  omega
 simp only [elemsOf,h1,Q4,Jd,Xy,hl,and_self,if_true,Q7]
 apply Ym
 intro i
 rw [Ks]
 by_cases hi:i < xs.length
 ·rw [if_pos hi,Vx,h2 i _ (Q1 hi),Uw,Q1 hi]; rfl
 ·rw [if_neg hi,J0 (by simp; omega)]
theorem Mc (cs:List Value) (off:Nat) (v:List Value) (h:off + v.length ≤ cs.length):splice cs off v = cs.take off ++ (v ++ cs.drop (off + v.length)):=by
 unfold splice
 split
 ·rename_i x
  simp only [Ja,Jf,Z1] at h
  rw [List.set_eq_take_append_cons_drop,if_pos (by omega)]
  simp
 ·rfl
theorem Qfq {H r:List Ob} {es bytes len cap n:Nat} {cs new:List Value} {x:Value} (hl:lenV x = some n) (hx:elemsOf (H ++ ⟨cs,true,true,true,es⟩ :: r) es n x = some new) (hn:0 < n) (hc:len + n ≤ cap) (hb:(len + n) * bytes ≤ 2 ^ 47) (hb0:0 < bytes) (he:0 < es) (hf:len * es + new.length ≤ cs.length) :
  Y4 es bytes (H ++ ⟨cs,true,true,true,es⟩ :: r) (.slice (some ⟨H.length,0,none⟩) len cap) x = some (.slice (some ⟨H.length,0,none⟩) (len + n) cap,H ++ ⟨splice cs (len * es) new,true,true,true,es⟩ :: r,none,[H.length]):=by
 have h1:¬ n = 0:=by omega
 have h2:0 + len * es ≤ cs.length:=by omega
 have h3:(len + n) * bytes ≤ 2 ^ 47 ∧ 0 < bytes ∧ 0 < es:=⟨hb,hb0,he⟩
 have hold:elemsOf (H ++ ⟨cs,true,true,true,es⟩ :: r) es len (.slice (some ⟨H.length,0,none⟩) len cap) = some ((cs.drop 0).take (len * es)):=by
  simp only [elemsOf,Y8,Q4,Jd,h2,and_self,if_true]
 simp only [Y4,hl,hx,Q4,if_neg h1,h3,and_self,not_true_eq_false,if_false,Y8,hold,if_true,hc,Vk,Z1,Bx hf]
end Go.Ev
set_option linter.unusedSimpArgs false
set_option linter.unusedVariables false
namespace Go.Ev
def num (B:Nat):List Nat → Nat
 | [] => 0
 | x :: r => x + B * num B r
def dig (B n v:Nat):List Nat:=(Y5 n).map fun i => v / B ^ i % B
theorem Kc (B n v:Nat):(dig B n v).length = n:=by simp [dig]
theorem Uz {B n v i:Nat} (h:i < n):(dig B n v)[i]? = some (v / B ^ i % B):=by simp [dig,h]
theorem Gs {B n v x:Nat} (hB:0 < B) (h:x ∈ dig B n v):x < B:=by
 simp only [dig,U7] at h
 obtain ⟨i,_,rfl⟩:=h
 exact Jk _ hB
theorem Qa8 {B n v:Nat} {l:List Nat} (hl:l.length = n) (h:∀ i,i < n → l[i]? = some (v / B ^ i % B)):l = dig B n v:=by
 apply Ym
 intro i
 by_cases hi:i < n
 ·rw [h i hi,Uz hi]
 ·rw [J0 (by omega),J0 (by rw [Kc]; omega)]
theorem num_lt {B:Nat}:∀ {l:List Nat},(∀ x ∈ l,x < B) → num B l < B ^ l.length
 | [],_ => by simp [num]
 | x :: r,h => by
  have h1:x < B:=h x (by simp)
  have h2:=num_lt (l:=r) fun y hy => h y (by simp [hy])
  simp only [num,Ja,Kq]
  have h3:B * (num B r + 1) ≤ B * B ^ r.length:=Ug _ h2
  rw [Hg,Xy] at h3
  rw [K7 (B ^ r.length) B]
  omega
theorem B9 (B:Nat):∀ (a b:List Nat),num B (a ++ b) = num B a + B ^ a.length * num B b
 | [],b => by simp [num]
 | x :: r,b => by
  simp only [num,Zb,B9 B r b,Ja,Kq,Hg]
  rw [← Vo,K7 B (B ^ r.length)]
  omega
theorem Wn {B:Nat} {l:List Nat} {j x:Nat} (h:l[j]? = some x):num B (l.take (j + 1)) = num B (l.take j) + x * B ^ j:=by
 have hj:j < l.length:=(Q8.1 h).1
 rw [Yf,h,B9]
 simp [num,V8 (Wh hj),K7]
theorem Bv {B:Nat} (hB:0 < B):∀ {l:List Nat} {i x:Nat},(∀ x ∈ l,x < B) → l[i]? = some x → num B l / B ^ i % B = x
 | [],i,x,_,h => by simp at h
 | y :: r,0,x,hl,h => by
  simp at h; subst h
  have:=hl y (by simp)
  simp only [num,Ya,Wi,Nat.add_mul_mod_self_left]
  exact Z3 this
 | y :: r,i + 1,x,hl,h => by
  have:=hl y (by simp)
  simp only [num,Kq,K7 (B ^ i) B]
  rw [← X9,Nat.add_mul_div_left _ _ hB,Wz this,Z1]
  exact Bv hB (fun z hz => hl z (by simp [hz])) (by simpa using h)
theorem D1 {B:Nat} (hB:0 < B) {l:List Nat} (h:∀ x ∈ l,x < B):dig B l.length (num B l) = l:=by
 symm
 exact Qa8 rfl fun i hi => by rw [Bv hB h (Q1 hi)]; exact Q1 hi
theorem Qyj (B n v:Nat):dig B (n + 1) v = v % B :: dig B n (v / B):=by
 simp only [dig,List.range_succ_eq_map,Y9,Ql4,Ya,Wi]
 congr 1
 apply List.map_congr_left
 intro i _
 simp only [Function.comp,Nat.succ_eq_add_one,Kq,X9,K7 (B ^ i) B]
theorem U5 {B:Nat} (hB:0 < B):∀ (n v:Nat),num B (dig B n v) = v % B ^ n
 | 0,v => by simp [dig,num,Qos]
 | n + 1,v => by
  rw [Qyj,num,U5 hB n,Kq,K7 (B ^ n) B,Nat.mod_mul]
theorem Gj {B:Nat}:∀ {l:List Nat} {i x:Nat} (y:Nat),l[i]? = some x → num B (l.set i y) + x * B ^ i = num B l + y * B ^ i
 | [],i,x,y,h => by simp at h
 | z :: r,0,x,y,h => by
  simp at h; subst h
  simp only [Tt,num,Ya]
  omega
 | z :: r,i + 1,x,y,h => by
  have:=Gj (B:=B) (l:=r) (i:=i) y (by simpa using h)
  simp only [Tu,num,Kq]
  have e:B * (num B (r.set i y) + x * B ^ i) = B * (num B r + y * B ^ i):=by rw [this]
  rw [Hg,Hg] at e
  rw [show x * (B ^ i * B) = B * (x * B ^ i) by simp only [Vo,Wf,K7],show y * (B ^ i * B) = B * (y * B ^ i) by simp only [Vo,Wf,K7]]
  omega
theorem Da {B:Nat} {l:List Nat} {i y:Nat} (h:∀ x ∈ l,x < B) (hy:y < B):∀ x ∈ l.set i y,x < B:=by
 intro x hx
 rcases Hw hx with h1 | h1
 ·exact h x h1
 ·rw [h1]; exact hy
theorem Qyk {m j x N:Nat} (hj:j / 4 < m) (hN:N < 256 ^ j) (hx:x < 256) :
  (dig 4294967296 m N).set (j / 4) ((dig 4294967296 m N).getD (j / 4) 0 ||| x * 2 ^ (8 * (j % 4))) = dig 4294967296 m (N + x * 256 ^ j):=by
 have e256:(256:Nat) = 2 ^ 8:=rfl
 have eW:(4294967296:Nat) = 2 ^ 32:=rfl
 have hpow:(256:Nat) ^ j = 2 ^ (8 * (j % 4)) * 4294967296 ^ (j / 4):=by
  rw [e256,eW,← Yp,← Yp,← Wl]
  congr 1; omega
 have hWq:0 < 4294967296 ^ (j / 4):=Ws (by decide)
 have hdiv:N / 4294967296 ^ (j / 4) < 2 ^ (8 * (j % 4)):=by
  rw [Qe8 hWq,← hpow]; exact hN
 have h24:(2:Nat) ^ (8 * (j % 4)) ≤ 2 ^ 24:=Vf (by decide) (by omega)
 have hx24:(x + 1) * 2 ^ (8 * (j % 4)) ≤ 256 * 2 ^ 24:=Wg (by omega) h24
 rw [Kt,Wm] at hx24
 have hsum:N / 4294967296 ^ (j / 4) + x * 2 ^ (8 * (j % 4)) < 4294967296:=by show _ < 4294967296; omega
 apply Qa8 (by rw [Xe,Kc])
 intro i hi
 by_cases hq:i = j / 4
 ·subst hq
  rw [Xp (by rw [Kc]; exact hi),Xh,Uz hi]
  rw [hpow,← Vo,Mr _ _ hWq]
  simp only [Ub]
  rw [Z3 (a:=N / _) (by omega),Z3 hsum,Gb,K7 x,G9 hdiv,Nat.or_comm]
 ·rw [Jj (Ne.symm hq),Uz hi]
  congr 1
  by_cases hlt:i < j / 4
  ·have:4294967296 ^ (j / 4) = 4294967296 * 4294967296 ^ (j / 4 - i - 1) * 4294967296 ^ i:=by
    rw [Vo,← Wl,← Qop]; congr 1; omega
   rw [hpow,this]
   rw [show x * (2 ^ (8 * (j % 4)) * (4294967296 * 4294967296 ^ (j / 4 - i - 1) * 4294967296 ^ i)) = (x * 2 ^ (8 * (j % 4)) * 4294967296 ^ (j / 4 - i - 1) * 4294967296) * 4294967296 ^ i by simp only [Vo,Wf,K7]]
   rw [Mr _ _ (Ws (by decide)),Bt]
  ·have hle:4294967296 ^ (j / 4 + 1) ≤ 4294967296 ^ i:=Vf (by decide) (by omega)
   have h1:N + x * 256 ^ j < 4294967296 ^ i:=by
    refine X1 ?_ hle
    have:(256:Nat) ^ (j + 1) ≤ 4294967296 ^ (j / 4 + 1):=by
     rw [e256,eW,← Yp,← Yp]; exact Vf (by decide) (by omega)
    refine X1 ?_ this
    rw [Kq]
    have:x * 256 ^ j ≤ 255 * 256 ^ j:=Vt _ (by omega)
    omega
   rw [Wz h1,Wz (by omega)]
def ns (k:IntKind) (l:List Nat):List Value:=l.map fun n => .int k (n:Nat)
theorem J2 (k:IntKind) (l:List Nat):(ns k l).length = l.length:=by simp [ns]
theorem Ux (k:IntKind) (l:List Nat) (i n:Nat):(ns k l).set i (.int k (n:Nat)) = ns k (l.set i n):=by simp [ns,Q3k]
theorem Yo {k:IntKind} {l:List Nat} {i x:Nat} (h:l[i]? = some x):(ns k l)[i]? = some (.int k (x:Nat)):=by simp [ns,h]
theorem Qa4 (k:IntKind) (a b:List Nat):ns k (a ++ b) = ns k a ++ ns k b:=by simp [ns]
theorem Qj6 {H:List Ob} {id:Nat} {o:Ob} (h:liveAt H id = some o):id < H.length:=by
 simp only [liveAt,Qc] at h
 obtain ⟨o',h1,_⟩:=h
 exact (Q8.1 h1).1
theorem Th {H H':List Ob} {id:Nat} (h:H'[id]? = H[id]?):liveAt H' id = liveAt H id:=by simp only [liveAt,h]
inductive Sl (k:IntKind) (H:List Ob):Value → List Nat → Prop
 | nil:Sl k H (.slice none 0 0) []
 | mk {id off c:Nat} {o:Ob} {l:List Nat}:liveAt H id = some o → off + l.length ≤ o.cells.length → (∀ (i x:Nat),l[i]? = some x → o.cells[off + i]? = some (.int k (x:Nat))) → Sl k H (.slice (some ⟨id,off,none⟩) l.length c) l
theorem Sl.row {k:IntKind} {H:List Ob} {v:Value} {l:List Nat} (h:Sl k H v l) (hl:0 < l.length):∃ id off c,v = .slice (some ⟨id,off,none⟩) l.length c ∧ Row k H id off l:=by
 cases h with
 | nil => simp at hl
 | mk h1 h2 h3 => exact ⟨_,_,_,rfl,_,h1,h3⟩
theorem Sl.congr {k:IntKind} {H H':List Ob} {v:Value} {l:List Nat} (h:Sl k H v l) (hH:∀ id,id < H.length → H'[id]? = H[id]?):Sl k H' v l:=by
 cases h with
 | nil => exact .nil
 | mk h1 h2 h3 => exact .mk (by rw [Th (hH _ (Qj6 h1))]; exact h1) h2 h3
theorem Sl.app {k:IntKind} {H l':List Ob} {v:Value} {l:List Nat} (h:Sl k H v l):Sl k (H ++ l') v l :=
 h.congr fun id hid => Qy hid
theorem Sl.lenV {k:IntKind} {H:List Ob} {v:Value} {l:List Nat} (h:Sl k H v l):lenV v = some l.length:=by
 cases h <;> rfl
theorem Sl.elems {k:IntKind} {H:List Ob} {v:Value} {l:List Nat} (h:Sl k H v l):elemsOf H 1 l.length v = some (ns k l):=by
 cases h with
 | nil => rfl
 | mk h1 h2 h3 =>
  simp only [elemsOf,h1,Q4,Jd,Xy,h2,and_self,if_true,Q7]
  apply Ym
  intro i
  rw [Ks]
  by_cases hi:i < l.length
  ·rw [if_pos hi,Vx,h3 i _ (Q1 hi),Yo (Q1 hi)]
  ·rw [if_neg hi,J0 (by rw [J2]; omega)]
inductive Grown (k:IntKind) (B:Nat) (H:List Ob):Value → List Nat → Prop
 | nil:Grown k B H (.slice none 0 0) []
 | own {id:Nat} {bs:List Nat}:B ≤ id → 0 < bs.length → H[id]? = some (Ob.grown 1 (ns k bs)) → Grown k B H (.slice (some ⟨id,0,none⟩) bs.length bs.length) bs
 | new {id:Nat} {bs:List Nat}:B ≤ id → 0 < bs.length → H[id]? = some (Ob.fresh (ns k bs)) → Grown k B H (.slice (some ⟨id,0,none⟩) bs.length bs.length) bs
theorem Grown.sl {k:IntKind} {B:Nat} {H:List Ob} {v:Value} {l:List Nat} (h:Grown k B H v l):Sl k H v l:=by
 cases h with
 | nil => exact .nil
 | own h1 h2 h3 => exact .mk (Yg h3 rfl) (by simp [Ob.grown,J2]) (fun i x hx => by rw [Z1]; exact Yo hx)
 | new h1 h2 h3 => exact .mk (Yg h3 rfl) (by simp [Ob.fresh,J2]) (fun i x hx => by rw [Z1]; exact Yo hx)
theorem Grown.app {k:IntKind} {B:Nat} {H l':List Ob} {v:Value} {l:List Nat} (h:Grown k B H v l):Grown k B (H ++ l') v l:=by
 cases h with
 | nil => exact .nil
 | own h1 h2 h3 => exact .own h1 h2 (by rw [Qy (Q8.1 h3).1]; exact h3)
 | new h1 h2 h3 => exact .new h1 h2 (by rw [Qy (Q8.1 h3).1]; exact h3)
theorem Grown.append {k:IntKind} {B bytes:Nat} {H:List Ob} {s x:Value} {bs new:List Nat} (h:Grown k B H s bs) (hB:B ≤ H.length) (hl:Go.Ev.lenV x = some new.length) (he:elemsOf H 1 new.length x = some (ns k new)) (hb:(bs.length + new.length) * bytes ≤ 2 ^ 47) (hb0:0 < bytes) :
  ∃ s' H' M,Y4 1 bytes H s x = some (s',H',none,M) ∧ Grown k B H' s' (bs ++ new) ∧ (∀ i ∈ M,B ≤ i) ∧ H.length ≤ H'.length ∧ ∀ i,i < B → H'[i]? = H[i]? := by
 rcases Yd new.length with hn | hn
 ·have:new = []:=Yl hn
  subst this
  rw [Kw]
  refine ⟨s,H,[],?_,h,by simp,Zj _,fun _ _ => rfl⟩
  rw [Jf] at hl he
  cases h <;> simp only [Y4,hl,he,Q4,if_true]
 ·cases h with
  | nil =>
   refine ⟨.slice (some ⟨H.length,0,none⟩) new.length new.length,H ++ [Ob.grown 1 (ns k new)],[],?_,?_,by simp,by simp,?_⟩
   ·have h1:¬ new.length = 0:=by omega
    have h2:(0 + new.length) * bytes ≤ 2 ^ 47 ∧ 0 < bytes ∧ 0 < 1:=⟨by simpa using hb,hb0,by decide⟩
    simp only [Y4,hl,he,Q4,if_neg h1,h2,and_self,not_true_eq_false,if_false,if_true]
   ·rw [Za]
    exact .own hB hn (by simp)
   ·intro i hi
    rw [Qy (by omega)]
  | @own id0 _ h1 h2 h3 =>
   refine ⟨.slice (some ⟨H.length,0,none⟩) (bs.length + new.length) (bs.length + new.length),(H.set id0 Ob.dead) ++ [Ob.grown 1 (ns k (bs ++ new))],[id0],?_,?_,by simpa using h1,by simp,?_⟩
   ·have h4:liveAt H id0 = some (Ob.grown 1 (ns k bs)):=Yg h3 rfl
    have h5:¬ new.length = 0:=by omega
    have h6:(bs.length + new.length) * bytes ≤ 2 ^ 47 ∧ 0 < bytes ∧ 0 < 1:=⟨hb,hb0,by decide⟩
    have h7:¬ (bs.length + new.length ≤ bs.length):=by omega
    have h8:elemsOf H 1 bs.length (.slice (some ⟨id0,0,none⟩) bs.length bs.length) = some (ns k bs):=(Grown.own h1 h2 h3).sl.elems
    simp only [Y4,hl,he,Q4,if_neg h5,h6,and_self,not_true_eq_false,if_false,if_true,h4,h8]
    simp only [Ob.grown,not_true_eq_false,if_false,if_neg h7,Zv,Zj,if_true,← Qa4]
   ·have:=Grown.own (k:=k) (B:=B) (H:=(H.set id0 Ob.dead) ++ [Ob.grown 1 (ns k (bs ++ new))]) (id:=H.length) (bs:=bs ++ new) hB (by simp; omega) (by simp)
    rwa [Z4] at this
   ·intro i hi
    rw [Qy (by simp; have:=(Q8.1 h3).1; omega),Jj (by omega)]
  | @new id0 _ h1 h2 h3 =>
   refine ⟨.slice (some ⟨H.length,0,none⟩) (bs.length + new.length) (bs.length + new.length),H ++ [Ob.grown 1 (ns k (bs ++ new))],[],?_,?_,by simp,by simp,?_⟩
   ·have h4:liveAt H id0 = some (Ob.fresh (ns k bs)):=Yg h3 rfl
    have h5:¬ new.length = 0:=by omega
    have h6:(bs.length + new.length) * bytes ≤ 2 ^ 47 ∧ 0 < bytes ∧ 0 < 1:=⟨hb,hb0,by decide⟩
    have h7:¬ (bs.length + new.length ≤ bs.length):=by omega
    have h8:elemsOf H 1 bs.length (.slice (some ⟨id0,0,none⟩) bs.length bs.length) = some (ns k bs):=(Grown.new h1 h2 h3).sl.elems
    simp only [Y4,hl,he,Q4,if_neg h5,h6,and_self,not_true_eq_false,if_false,if_true,h4,h8]
    simp only [Ob.fresh,not_true_eq_false,if_false,if_neg h7,Zv,Zj,if_true,← Qa4]
   ·have:=Grown.own (k:=k) (B:=B) (H:=H ++ [Ob.grown 1 (ns k (bs ++ new))]) (id:=H.length) (bs:=bs ++ new) hB (by simp; omega) (by simp)
    rwa [Z4] at this
   ·intro i hi
    rw [Qy (by omega)]
theorem Dz {H H':List Ob} (h1:H.length ≤ H'.length) (h2:∀ i,i < H.length → H'[i]? = H[i]?):∃ l,H' = H ++ l:=by
 refine ⟨H'.drop H.length,?_⟩
 apply Ym
 intro i
 by_cases hi:i < H.length
 ·rw [Qy hi,h2 i hi]
 ·rw [Zh (by omega),Vx]
  congr 1; omega
theorem Yi {base:Nat}:∀ {log M:List Nat},(∀ i ∈ M,base ≤ i) → Xo base log M = log
 | log,[],_ => rfl
 | log,i :: r,h => by
  have h1:¬ i < base:=by have:=h i (by simp); omega
  simp only [Xo,h1,false_and,if_false]
  exact Yi fun j hj => h j (by simp [hj])
end Go.Ev
set_option linter.unusedSimpArgs false
set_option linter.unusedVariables false
namespace Go.Ev
def gate {α:Type} (p:Prop) [Decidable p] (x:Option α):Option α:=if p then x else none
theorem Um {α:Type} {p p':Prop} [Decidable p] [Decidable p'] (x:Option α) (h:∀ _:Unit,p = p'):gate p x = gate p' x:=by
 have h:=h (); subst h; unfold gate; congr
theorem W7 {α β:Type} {x y:Option α} (f:α → Option β) (h:∀ _:Unit,x = y):x.bind f = y.bind f:=by rw [h ()]
theorem Ul {α:Type} {c c':Prop} [Decidable c] [Decidable c'] (x y:α) (h:∀ _:Unit,c = c'):(if c then x else y) = (if c' then x else y):=by
 have h:=h (); subst h; congr
theorem Qdb {α:Type} (b:Bool) (x:Option α):(if b = true then none else x) = gate (b = false) x:=by cases b <;> rfl
theorem Qka {α:Type} [Decidable True] {x:Option α}:gate True x = x:=by simp [gate]
def Dw {α:Type} (v:Value) (w:Bool) (x y:Option α):Option α:=match v with
 | .bool c => if c = w then x else y
 | _ => none
def gd (w:Bool) (v:Value):Value:=match v with
 | .tuple _ => .bool (!w)
 | v => v
theorem Q1j {w b:Bool}:gd w (.bool b) = .bool b:=Eq.trans rfl rfl
theorem gd_ut:gd true undef = .bool false:=Eq.trans rfl rfl
theorem gd_uf:gd false undef = .bool true:=Eq.trans rfl rfl
theorem Wv {α:Type} {v v':Value} (w:Bool) (x y:Option α) (h:∀ _:Unit,v = v'):Dw v w x y = Dw v' w x y:=by rw [h ()]
theorem Zw {α:Type} {x y:Option α}:Dw (.bool true) true x y = x:=rfl
theorem Zz {α:Type} {x y:Option α}:Dw (.bool false) false x y = x:=rfl
theorem Zx {α:Type} {x y:Option α}:Dw (.bool true) false x y = y:=rfl
theorem Zy {α:Type} {x y:Option α}:Dw (.bool false) true x y = y:=rfl
def Qxe (t:Nat) (v:Option Value) (l:Env):Env:=match v with
 | some v => (t,v) :: l
 | none => l
theorem Zo {t:Nat} {v:Value} {l:Env}:Qxe t (some v) l = (t,v) :: l:=rfl
theorem Qxd {e:Env}:Env.keep e [] = []:=rfl
theorem Qtj {e:Env} {t:Nat} {r:List Nat}:Env.keep e (t :: r) = Qxe t (e.get t) (Env.keep e r):=rfl
theorem Q1q {T:Tab} {base:Nat} {c:Operand} {a b:ACode} {s:St}:Jl T base (.cond c a b) s = (opd s.env c).bind fun v => Dw v true (Jl T base a s) (Jl T base b s):=by
 rw [Ko]
 cases opd s.env c with
 | none => rfl
 | some v =>
  cases v <;> try rfl
  rename_i c
  cases c <;> rfl
def steps (T:Tab) (b:Nat) (q:Bool):List AOper → St → Option St
 | [],s => some s
 | o :: r,s => match guardOf s.env o.guard with
  | some true => (Yt T o.op s.env s.h).bind fun x => if (q && !x.2.2.2.isEmpty) = true then none else steps T b q r ⟨s.env.put o.dst x.1,x.2.1,Xo b s.log x.2.2.2⟩
  | some false => steps T b q r ⟨s.env.put o.dst undef,s.h,s.log⟩
  | none => none
section
variable {T:Tab} {b:Nat} {q:Bool}
theorem Qag:∀ (ops:List AOper) (s:St) (recs:List Rec),(evOps T b ops s recs).map (·.1) = steps T b false ops s
 | [],s,recs => by rw [Vc]; rfl
 | o :: r,s,recs => by
  rw [Kr]
  unfold steps
  cases hg:guardOf s.env o.guard with
  | none => rfl
  | some g =>
   cases g with
   | false => exact Qag r _ _
   | true =>
    cases hx:Yt T o.op s.env s.h with
    | none => simp [hx]
    | some x =>
     simp only [hx,Q4,Qfx,Zv,if_false]
     exact Qag r _ _
theorem M7:∀ (ops:List AOper) (s:St) (recs:List Rec) (s':St),steps T b true ops s = some s' → (∀ r ∈ recs,r.2 = []) → ∃ recs',evOps T b ops s recs = some (s',recs') ∧ (∀ r ∈ recs',r.2 = []) ∧ recs'.length = recs.length + ops.length
 | [],s,recs,s',h,hr => by
  simp only [steps,Q7] at h
  subst h
  exact ⟨recs,Vc,hr,rfl⟩
 | o :: r,s,recs,s',h,hr => by
  rw [Kr]
  unfold steps at h
  cases hg:guardOf s.env o.guard with
  | none => simp only [hg] at h; cases h
  | some g =>
   simp only [hg] at h
   cases g with
   | false =>
    obtain ⟨recs',h1,h2,h3⟩:=M7 r _ (recs ++ [(some [],[])]) s' h (fun x hx => by
     rcases Jb.1 hx with h | h
     ·exact hr x h
     ·simp at h; subst h; rfl)
    exact ⟨recs',h1,h2,by rw [h3]; simp; omega⟩
   | true =>
    cases hx:Yt T o.op s.env s.h with
    | none => simp [hx] at h
    | some x =>
     simp only [hx,Q4] at h
     split at h
     ·cases h
     ·rename_i hq
      have hq':x.2.2.2 = []:=by simpa using hq
      obtain ⟨recs',h1,h2,h3⟩:=M7 r _ (recs ++ [(x.2.2.1,x.2.2.2)]) s' h (fun y hy => by
       rcases Jb.1 hy with h | h
       ·exact hr y h
       ·simp at h; subst h; exact hq')
      exact ⟨recs',h1,h2,by rw [h3]; simp; omega⟩
theorem Qtm {ops:List AOper} {keep:Option (List Nat)} {s:St}:Jl T b (.region ops keep []) s = (steps T b false ops s).bind fun s' => some (.normal,s'.after keep):=by
 rw [Xf,← Qag ops s []]
 cases evOps T b ops s [] <;> rfl
def Qff {α:Type} (x y:Option α):Option α:=match x with
 | some v => some v
 | none => y
theorem Zn {α:Type} {v:α} {y:Option α}:Qff (some v) y = some v:=rfl
theorem W6 {α:Type} {x x':Option α} (y:Option α) (h:∀ _:Unit,x = x'):Qff x y = Qff x' y:=by rw [h ()]
def quiet (T:Tab) (b:Nat) (ops:List AOper) (pairs:List (Nat × Nat)) (s:St):Option St :=
 match (pairs.all fun p => decide (p.1 < ops.length) && decide (p.2 < ops.length)) with
 | true => steps T b true ops s
 | false => none
theorem Ri {recs:List Rec} (hr:∀ r ∈ recs,r.2 = []):∀ {pairs:List (Nat × Nat)},(pairs.all fun p => decide (p.1 < recs.length) && decide (p.2 < recs.length)) = true → Vu recs pairs = true
 | [],_ => rfl
 | (i,j) :: ps,h => by
  simp only [J4,Vw,decide_eq_true_eq] at h
  have ih:=Ri hr (pairs:=ps) h.2
  simp only [Vu,J4,Vw] at ih ⊢
  refine ⟨?_,ih⟩
  rw [Q1 h.1.1,Q1 h.1.2]
  simp only [Qf8,hr _ (Qcl h.1.1),hr _ (Qcl h.1.2),List.isEmpty_nil,Bool.true_or,Xr]
def Qxi (T:Tab) (b:Nat) (c:ACode) (s:St):Option (AExit × St):=Jl T b c s
theorem Xv {ops:List AOper} {keep:Option (List Nat)} {p:Nat × Nat} {ps:List (Nat × Nat)} {s:St}:Jl T b (.region ops keep (p :: ps)) s = Qff ((quiet T b ops (p :: ps) s).bind fun s' => some (.normal,s'.after keep)) (Qxi T b (.region ops keep (p :: ps)) s):=by
 cases hq:quiet T b ops (p :: ps) s with
 | none => rfl
 | some s' =>
  simp only [Q4,Qff]
  unfold quiet at hq
  split at hq
  ·rename_i hp
   obtain ⟨recs,h1,h2,h3⟩:=M7 ops s [] s' hq (by simp)
   simp only [Jf,Z1] at h3
   rw [Xf,h1]
   simp only [Q4]
   rw [if_pos (Ri h2 (by rw [h3]; exact hp))]
  ·cases hq
theorem Q57 {s:St}:steps T b q [] s = some s:=rfl
theorem Qxu {o:AOp} {d:Option Nat} {t:Nat} {w:Bool} {r:List AOper} {e:Env} {H:List Ob} {l:List Nat}:steps T b q (⟨d,o,some (t,w)⟩ :: r) ⟨e,H,l⟩ = (e.get t).bind fun v => Dw (gd w v) w (steps T b q (⟨d,o,none⟩ :: r) ⟨e,H,l⟩) (steps T b q r ⟨e.put d undef,H,l⟩):=by
 simp only [steps,guardOf]
 cases e.get t with
 | none => rfl
 | some v =>
  cases v <;> try rfl
  all_goals first | (cases w <;> rfl) | (rename_i c; cases c <;> cases w <;> rfl)
theorem Ui {o:AOp} {d:Nat} {r:List AOper} {e:Env} {H:List Ob} {l:List Nat} {v:Option Value} (h:Yt T o e H = Yc H v):steps T b q (⟨some d,o,none⟩ :: r) ⟨e,H,l⟩ = v.bind fun v => steps T b q r ⟨(d,v) :: e,H,l⟩:=by
 simp only [steps,guardOf,h,Yc]
 cases v <;> cases q <;> rfl
theorem Qtq {base id:Nat} {x y:ACode} {s:St}:Jl T base (.block id (.seq x y)) s = (Jl T base (.seq x y) s).bind fun r => match r.1 with
  | .exit i => if i = id then some (.normal,r.2) else some (.exit i,r.2)
  | z => some (z,r.2):=Jq
theorem Qtr {base id:Nat} {ops:List AOper} {keep:Option (List Nat)} {pairs:List (Nat × Nat)} {s:St}:Jl T base (.block id (.region ops keep pairs)) s = (Jl T base (.region ops keep pairs) s).bind fun r => match r.1 with
  | .exit i => if i = id then some (.normal,r.2) else some (.exit i,r.2)
  | z => some (z,r.2):=Jq
theorem Qtt {base id:Nat} {c:Operand} {x y:ACode} {s:St}:Jl T base (.block id (.cond c x y)) s = (Jl T base (.cond c x y) s).bind fun r => match r.1 with
  | .exit i => if i = id then some (.normal,r.2) else some (.exit i,r.2)
  | z => some (z,r.2):=Jq
theorem Qts {base id:Nat} {s:St}:Jl T base (.block id .skip) s = some (.normal,s):=by rw [Jq,Kf]; rfl
theorem Qtu {base id id2:Nat} {x:ACode} {s:St}:Jl T base (.block id (.block id2 x)) s = (Jl T base (.block id2 x) s).bind fun r => match r.1 with
  | .exit i => if i = id then some (.normal,r.2) else some (.exit i,r.2)
  | z => some (z,r.2):=Jq
def Qut:Value → Value → Value → Option Value
 | .bool t,a,b => some (if t then a else b)
 | _,_,_ => none
def vEq (ks:Option (List Bool)) (neg:Bool) (x y:Value):Option Value :=
 (match ks,x,y with
  | some ks,.agg a,.agg b => Y2 ks a.toList b.toList
  | none,.bool a,.bool b => some (a == b)
  | _,_,_ => none).bind fun b => some (.bool (if neg then !b else b))
def Q3p (k:IntKind):Value → Option Value
 | .int _ n => some (.int k (k.wrap n))
 | _ => none
def vStr:Value → Option Value
 | .string s => some (.string s)
 | _ => none
def Quw (n:Option Nat) (off:Nat):Value → Option Value
 | .agg cs => Yn n cs.toList off
 | _ => none
def Qkn (n:Option Nat) (len es:Nat):Value → Value → Option Value
 | .agg cs,.int _ i => if 0 ≤ i ∧ i < len then Yn n cs.toList (i.toNat * es) else none
 | _,_ => none
def Qav:Value → Value → Option Value
 | .string s,.int _ i => if 0 ≤ i then (s.data.toList[i.toNat]?).bind fun b => some (.int .u8 b.toNat) else none
 | _,_ => none
def Qge (off:Nat):Value → Option Value
 | .pointer (some a) => some (.pointer (some (a.add off)))
 | _ => none
def Qgd (len es:Nat):Value → Value → Option Value
 | .pointer (some a),.int _ i => if 0 ≤ i ∧ i < len then some (.pointer (some (a.add (i.toNat * es)))) else none
 | _,_ => none
def Qmd (es:Nat):Value → Value → Option Value
 | .slice (some a) len _,.int _ i => if 0 ≤ i ∧ i < len then some (.pointer (some (a.add (i.toNat * es)))) else none
 | _,_ => none
def Qed (n es:Nat) (lo hi mx:Option Value):Value → Option Value
 | .pointer (some a) => (W4 n n lo hi mx).bind fun r => some (.slice (some (a.add (r.1 * es))) (r.2.1 - r.1) (r.2.2 - r.1))
 | _ => none
def vSliceSl (H:List Ob) (es:Nat) (lo hi mx:Option Value):Value → Option Value
 | .slice (some a) len cap => (W4 len cap lo hi mx).bind fun r => (liveAt H a.block).bind fun o =>
    if o.exact ∨ ¬ o.own ∨ es ≤ o.es then some (.slice (some (a.add (r.1 * es))) (r.2.1 - r.1) (r.2.2 - r.1)) else none
 | .slice none 0 0 => (W4 0 0 lo hi mx).bind fun _ => some (.slice none 0 0)
 | _ => none
def Qjh (lo hi:Option Value):Value → Option Value
 | .string s => (W4 s.size s.size lo hi none).bind fun r => some (.string (s.extract r.1 r.2.1))
 | _ => none
def Qme (i:Nat):Value → Option Value
 | .tuple vs => vs.toList[i]?
 | _ => none
def Qji:Value → Option Value
 | .pointer (some a) => some (.pointer (some a))
 | _ => none
def Q3n (n:Nat):Value → Option Value
 | .slice (some a) len _ => if n ≤ len ∧ 0 < n then some (.pointer (some a)) else none
 | _ => none
def vLen (str:Bool):Value → Option Value
 | .slice _ n _ => if str then none else some (.int .i64 n)
 | .string s => if str then some (.int .i64 s.size) else none
 | _ => none
def Qco (mx:Bool):Value → Value → Option Value
 | .int k a,.int k' b => if k = k' then some (.int k (if mx then (if b > a then b else a) else (if b < a then b else a))) else none
 | _,_ => none
def Qmb (H:List Ob) (n:Option Nat):Value → Option Value
 | .pointer (some a) => (liveAt H a.block).bind fun o => if a.spot.isNone then Yn n o.cells a.off else none
 | _ => none
def Q38 (H:List Ob) (x:Value):Option Value:=match x with
 | .slice _ n _ => (elemsOf H 1 n x).bind fun cs => (Uv cs).bind fun l => some (.string ⟨l.toArray⟩)
 | _ => none
theorem Q1m {x:Operand} {d:Nat} {r:List AOper} {e:Env} {H:List Ob} {l:List Nat}:steps T b q (⟨some d,.move x,none⟩ :: r) ⟨e,H,l⟩ = (opd e x).bind fun v => steps T b q r ⟨(d,v) :: e,H,l⟩:=Ui Ki
theorem Q1l {c x y:Operand} {d:Nat} {r:List AOper} {e:Env} {H:List Ob} {l:List Nat}:steps T b q (⟨some d,.pick c x y,none⟩ :: r) ⟨e,H,l⟩ = (opd e c).bind fun c => (opd e x).bind fun x => (opd e y).bind fun y => (Qut c x y).bind fun v => steps T b q r ⟨(d,v) :: e,H,l⟩:=by
 rw [Ui Kh]
 cases opd e c with
 | none => rfl
 | some c =>
  cases opd e x with
  | none => rfl
  | some x =>
   cases opd e y with
   | none => rfl
   | some y => cases c <;> cases q <;> rfl
theorem Qxz {zero:List Value} {d:Nat} {r:List AOper} {e:Env} {H:List Ob} {l:List Nat}:steps T b q (⟨some d,.alloc zero,none⟩ :: r) ⟨e,H,l⟩ = steps T b q r ⟨(d,.pointer (some ⟨H.length,0,none⟩)) :: e,H ++ [⟨zero,true,true,true,1⟩],l⟩:=by
 simp only [steps,guardOf,X8,Zs,Q4,Env.put,Xo,Ob.fresh]
 cases q <;> rfl
theorem Q6a {x:Operand} {d:Nat} {r:List AOper} {e:Env} {H:List Ob} {l:List Nat}:steps T b q (⟨some d,.box x,none⟩ :: r) ⟨e,H,l⟩ = (opd e x).bind fun v => gate (Yk v = true) (steps T b q r ⟨(d,.pointer (some ⟨H.length,0,none⟩)) :: e,H ++ [⟨v.cells.toList,true,true,true,1⟩],l⟩):=by
 simp only [steps,guardOf,K0,Zs,Env.put,Xo,Ob.fresh]
 cases opd e x with
 | none => rfl
 | some v => simp only [Q4,gate]; split <;> cases q <;> rfl
theorem Q1n {n:Option Nat} {x:Operand} {d:Nat} {r:List AOper} {e:Env} {H:List Ob} {l:List Nat}:steps T b q (⟨some d,.load n x,none⟩ :: r) ⟨e,H,l⟩ = (opd e x).bind fun a => (Qmb H n a).bind fun v => steps T b q r ⟨(d,v) :: e,H,l⟩:=by
 simp only [steps,guardOf,Kj,Zs,Env.put]
 cases opd e x with
 | none => rfl
 | some v =>
  cases v <;> try rfl
  rename_i p
  cases p with
  | none => rfl
  | some a =>
   simp only [Q4,Qmb]
   cases liveAt H a.block with
   | none => rfl
   | some o =>
    simp only [Q4]
    split
    ·cases Yn n o.cells a.off <;> cases q <;> rfl
    ·rfl
def Qov (H:List Ob) (n:Nat):Value → Value → Option (List Ob)
 | .pointer (some a),v => if v.cells.size = n ∧ Yk v = true then storeAt H a v.cells.toList else none
 | _,_ => none
def Qyx:Value → List Nat
 | .pointer (some a) => [a.block]
 | _ => []
theorem Qxr {n:Nat} {a x:Operand} {r:List AOper} {e:Env} {H:List Ob} {l:List Nat}:steps T b q (⟨none,.store n a x,none⟩ :: r) ⟨e,H,l⟩ = (opd e a).bind fun a => (opd e x).bind fun v => (Qov H n a v).bind fun H' => gate (q = false) (steps T b q r ⟨e,H',Xo b l (Qyx a)⟩):=by
 simp only [steps,guardOf,X3,Zs,Env.put]
 cases opd e a with
 | none => rfl
 | some av =>
  cases opd e x with
  | none => rfl
  | some v =>
   cases av <;> try rfl
   rename_i p
   cases p with
   | none => rfl
   | some a =>
    simp only [Q4,Qov,Qyx]
    split
    ·cases storeAt H a v.cells.toList <;> cases q <;> rfl
    ·rfl
theorem Q6b {op:BinOp} {x y:Operand} {d:Nat} {r:List AOper} {e:Env} {H:List Ob} {l:List Nat}:steps T b q (⟨some d,.bin op x y,none⟩ :: r) ⟨e,H,l⟩ = (opd e x).bind fun x => (opd e y).bind fun y => (Y3 op x y).bind fun v => steps T b q r ⟨(d,v) :: e,H,l⟩:=by
 rw [Ui K3]
 cases opd e x <;> cases opd e y <;> cases q <;> rfl
theorem Q59 {ks:Option (List Bool)} {neg:Bool} {x y:Operand} {d:Nat} {r:List AOper} {e:Env} {H:List Ob} {l:List Nat}:steps T b q (⟨some d,.eqv ks neg x y,none⟩ :: r) ⟨e,H,l⟩ = (opd e x).bind fun x => (opd e y).bind fun y => (vEq ks neg x y).bind fun v => steps T b q r ⟨(d,v) :: e,H,l⟩:=by
 rw [Ui Kz]
 cases opd e x <;> cases opd e y <;> cases q <;> rfl
theorem Qxs {k:Nat} {neg:Bool} {x:Operand} {d:Nat} {r:List AOper} {e:Env} {H:List Ob} {l:List Nat}:steps T b q (⟨some d,.isNil k neg x,none⟩ :: r) ⟨e,H,l⟩ = (opd e x).bind fun x => (Dv k x).bind fun c => steps T b q r ⟨(d,.bool (if neg then !c else c)) :: e,H,l⟩:=by
 rw [Ui X4]
 cases opd e x with
 | none => rfl
 | some v => simp only [Q4]; cases Dv k v <;> cases q <;> rfl
theorem fs_un {op:UnOp} {x:Operand} {d:Nat} {r:List AOper} {e:Env} {H:List Ob} {l:List Nat}:steps T b q (⟨some d,.un op x,none⟩ :: r) ⟨e,H,l⟩ = (opd e x).bind fun x => (unV op x).bind fun v => steps T b q r ⟨(d,v) :: e,H,l⟩:=by
 rw [Ui Vg]
 cases opd e x <;> cases q <;> rfl
theorem Q1p {k:IntKind} {x:Operand} {d:Nat} {r:List AOper} {e:Env} {H:List Ob} {l:List Nat}:steps T b q (⟨some d,.conv k x,none⟩ :: r) ⟨e,H,l⟩ = (opd e x).bind fun x => (Q3p k x).bind fun v => steps T b q r ⟨(d,v) :: e,H,l⟩:=by
 rw [Ui Kl]
 cases opd e x <;> cases q <;> rfl
def Qf0 (H:List Ob):Value → Option Value
 | .slice (some a) n c => (liveAt H a.block).bind fun o => if o.own = true ∧ a.spot.isNone = true then some (.slice (some a) n c) else none
 | _ => none
theorem Qtp {x:Operand} {d:Nat} {r:List AOper} {e:Env} {H:List Ob} {l:List Nat}:steps T b q (⟨some d,.convSl x,none⟩ :: r) ⟨e,H,l⟩ = (opd e x).bind fun x => (Qf0 H x).bind fun v => steps T b q r ⟨(d,v) :: e,H,l⟩:=by
 simp only [steps,guardOf,Qjb,Zs,Env.put]
 cases opd e x with
 | none => rfl
 | some v =>
  simp only [Q4]
  cases v with
  | slice a n c =>
   cases a with
   | none => rfl
   | some a =>
    simp only [Qf0]
    cases liveAt H a.block with
    | none => rfl
    | some o =>
     simp only [Q4]
     split <;> cases q <;> rfl
  | _ => rfl
theorem Qqf {x:Operand} {d:Nat} {r:List AOper} {e:Env} {H:List Ob} {l:List Nat}:steps T b q (⟨some d,.convStr x,none⟩ :: r) ⟨e,H,l⟩ = (opd e x).bind fun x => (vStr x).bind fun v => steps T b q r ⟨(d,v) :: e,H,l⟩:=by
 rw [Ui J9]
 cases opd e x <;> cases q <;> rfl
theorem Qxv {n:Option Nat} {off:Nat} {x:Operand} {d:Nat} {r:List AOper} {e:Env} {H:List Ob} {l:List Nat}:steps T b q (⟨some d,.field n off x,none⟩ :: r) ⟨e,H,l⟩ = (opd e x).bind fun x => (Quw n off x).bind fun v => steps T b q r ⟨(d,v) :: e,H,l⟩:=by
 rw [Ui X6]
 cases opd e x <;> cases q <;> rfl
theorem Qxt {n:Option Nat} {len es:Nat} {x i:Operand} {d:Nat} {r:List AOper} {e:Env} {H:List Ob} {l:List Nat}:steps T b q (⟨some d,.index n len es x i,none⟩ :: r) ⟨e,H,l⟩ = (opd e x).bind fun x => (opd e i).bind fun i => (Qkn n len es x i).bind fun v => steps T b q r ⟨(d,v) :: e,H,l⟩:=by
 rw [Ui X5]
 cases opd e x <;> cases opd e i <;> cases q <;> rfl
theorem Qnw {x i:Operand} {d:Nat} {r:List AOper} {e:Env} {H:List Ob} {l:List Nat}:steps T b q (⟨some d,.indexStr x i,none⟩ :: r) ⟨e,H,l⟩ = (opd e x).bind fun x => (opd e i).bind fun i => (Qav x i).bind fun v => steps T b q r ⟨(d,v) :: e,H,l⟩:=by
 rw [Ui Jw]
 cases opd e x <;> cases opd e i <;> cases q <;> rfl
theorem Qxy {zero:List Value} {ps:List (Nat × Nat × Operand)} {d:Nat} {r:List AOper} {e:Env} {H:List Ob} {l:List Nat}:steps T b q (⟨some d,.build zero ps,none⟩ :: r) ⟨e,H,l⟩ = (Vb e ps).bind fun ps => (fillL zero ps).bind fun cs => steps T b q r ⟨(d,.agg cs.toArray) :: e,H,l⟩:=by
 rw [Ui X7]
 cases Vb e ps with
 | none => rfl
 | some v => simp only [Q4]; cases fillL zero v <;> cases q <;> rfl
theorem Qja {cells:List Value} {len:Nat} {ps:List (Nat × Nat × Operand)} {d:Nat} {r:List AOper} {e:Env} {H:List Ob} {l:List Nat}:steps T b q (⟨some d,.buildSlice cells len ps,none⟩ :: r) ⟨e,H,l⟩ = (Vb e ps).bind fun ps => (fillL cells ps).bind fun cs => steps T b q r ⟨(d,.slice (some ⟨H.length,0,none⟩) len len) :: e,H ++ [⟨cs,true,true,true,1⟩],l⟩:=by
 simp only [steps,guardOf,Ji,Zs,Env.put,Ob.fresh]
 cases Vb e ps with
 | none => rfl
 | some v => simp only [Q4]; cases fillL cells v <;> cases q <;> rfl
theorem Qlm {off:Nat} {x:Operand} {d:Nat} {r:List AOper} {e:Env} {H:List Ob} {l:List Nat}:steps T b q (⟨some d,.fieldAddr off x,none⟩ :: r) ⟨e,H,l⟩ = (opd e x).bind fun x => (Qge off x).bind fun v => steps T b q r ⟨(d,v) :: e,H,l⟩:=by
 rw [Ui Jp]
 cases opd e x <;> cases q <;> rfl
theorem Qll {len es:Nat} {x i:Operand} {d:Nat} {r:List AOper} {e:Env} {H:List Ob} {l:List Nat}:steps T b q (⟨some d,.indexAddr len es x i,none⟩ :: r) ⟨e,H,l⟩ = (opd e x).bind fun x => (opd e i).bind fun i => (Qgd len es x i).bind fun v => steps T b q r ⟨(d,v) :: e,H,l⟩:=by
 rw [Ui Jo]
 cases opd e x <;> cases opd e i <;> cases q <;> rfl
theorem Qqd {es:Nat} {x i:Operand} {d:Nat} {r:List AOper} {e:Env} {H:List Ob} {l:List Nat}:steps T b q (⟨some d,.indexSl es x i,none⟩ :: r) ⟨e,H,l⟩ = (opd e x).bind fun x => (opd e i).bind fun i => (Qmd es x i).bind fun v => steps T b q r ⟨(d,v) :: e,H,l⟩:=by
 rw [Ui J7]
 cases opd e x <;> cases opd e i <;> cases q <;> rfl
theorem Qnu {n es:Nat} {x:Operand} {lo hi mx:Option Operand} {d:Nat} {r:List AOper} {e:Env} {H:List Ob} {l:List Nat}:steps T b q (⟨some d,.sliceArr n es x lo hi mx,none⟩ :: r) ⟨e,H,l⟩ = (opd e x).bind fun x => (Vp e lo).bind fun lo => (Vp e hi).bind fun hi => (Vp e mx).bind fun mx => (Qed n es lo hi mx x).bind fun v => steps T b q r ⟨(d,v) :: e,H,l⟩:=by
 rw [Ui Ju]
 cases opd e x <;> cases Vp e lo <;> cases Vp e hi <;> cases Vp e mx <;> cases q <;> rfl
theorem Qqb {es:Nat} {x:Operand} {lo hi mx:Option Operand} {d:Nat} {r:List AOper} {e:Env} {H:List Ob} {l:List Nat}:steps T b q (⟨some d,.sliceSl es x lo hi mx,none⟩ :: r) ⟨e,H,l⟩ = (opd e x).bind fun x => (Vp e lo).bind fun lo => (Vp e hi).bind fun hi => (Vp e mx).bind fun mx => (vSliceSl H es lo hi mx x).bind fun v => steps T b q r ⟨(d,v) :: e,H,l⟩:=by
 simp only [steps,guardOf,J5,Zs,Env.put]
 cases opd e x with
 | none => rfl
 | some v =>
  cases Vp e lo with
  | none => rfl
  | some lo =>
   cases Vp e hi with
   | none => rfl
   | some hi =>
    cases Vp e mx with
    | none => rfl
    | some mx =>
     simp only [Q4]
     cases v <;> try rfl
     rename_i base len cap
     cases base with
     | some a =>
      simp only [vSliceSl]
      cases W4 len cap lo hi mx with
      | none => rfl
      | some r =>
       simp only [Q4]
       cases liveAt H a.block with
       | none => rfl
       | some o => simp only [Q4]; split <;> cases q <;> rfl
     | none =>
      cases len <;> cases cap <;> try rfl
      simp only [vSliceSl]
      cases W4 0 0 lo hi mx <;> cases q <;> rfl
theorem Qnt {x:Operand} {lo hi:Option Operand} {d:Nat} {r:List AOper} {e:Env} {H:List Ob} {l:List Nat}:steps T b q (⟨some d,.sliceStr x lo hi,none⟩ :: r) ⟨e,H,l⟩ = (opd e x).bind fun x => (Vp e lo).bind fun lo => (Vp e hi).bind fun hi => (Qjh lo hi x).bind fun v => steps T b q r ⟨(d,v) :: e,H,l⟩:=by
 rw [Ui Jt]
 cases opd e x <;> cases Vp e lo <;> cases Vp e hi <;> cases q <;> rfl
def Quu (zero:List Value) (bytes:Nat) (id:Nat):Value → Value → Option (Value × Ob)
 | .int _ l,.int _ c => if 0 ≤ l ∧ l ≤ c ∧ c * bytes ≤ 2 ^ 47 ∧ 0 < bytes ∧ 0 < zero.length then some (.slice (some ⟨id,0,none⟩) l.toNat c.toNat,⟨(Qa c.toNat zero).flatten,true,true,true,1⟩) else none
 | _,_ => none
theorem Qlk {zero:List Value} {bytes:Nat} {x y:Operand} {d:Nat} {r:List AOper} {e:Env} {H:List Ob} {l:List Nat}:steps T b q (⟨some d,.makeSlice zero bytes x y,none⟩ :: r) ⟨e,H,l⟩ = (opd e x).bind fun x => (opd e y).bind fun y => (Quu zero bytes H.length x y).bind fun v => steps T b q r ⟨(d,v.1) :: e,H ++ [v.2],l⟩:=by
 simp only [steps,guardOf,Jn,Zs,Env.put]
 cases opd e x with
 | none => rfl
 | some v =>
  cases opd e y with
  | none => rfl
  | some w =>
   simp only [Q4]
   unfold Quu
   cases v <;> try rfl
   cases w <;> try rfl
   dsimp only
   split <;> cases q <;> rfl
theorem Qqe {x:Operand} {i d:Nat} {r:List AOper} {e:Env} {H:List Ob} {l:List Nat}:steps T b q (⟨some d,.extract x i,none⟩ :: r) ⟨e,H,l⟩ = (opd e x).bind fun x => (Qme i x).bind fun v => steps T b q r ⟨(d,v) :: e,H,l⟩:=by
 rw [Ui J8]
 cases opd e x <;> cases q <;> rfl
theorem Qqc {t:TypeId} {x:Operand} {d:Nat} {r:List AOper} {e:Env} {H:List Ob} {l:List Nat}:steps T b q (⟨some d,.mkIface t x,none⟩ :: r) ⟨e,H,l⟩ = (opd e x).bind fun x => steps T b q r ⟨(d,.iface t x) :: e,H,l⟩:=by
 rw [Ui J6]
 cases opd e x <;> cases q <;> rfl
theorem Qtn {fn:Fn} {fs cs:List Operand} {d:Nat} {r:List AOper} {e:Env} {H:List Ob} {l:List Nat}:steps T b q (⟨some d,.mkFunc fn fs cs,none⟩ :: r) ⟨e,H,l⟩ = (Wj e fs).bind fun fs => (Wj e cs).bind fun cs => steps T b q r ⟨(d,.func fn fs.toArray cs.toArray) :: e,H,l⟩:=by
 rw [Ui Xl]
 cases Wj e fs <;> cases Wj e cs <;> cases q <;> rfl
theorem Qnv {x:Operand} {d:Nat} {r:List AOper} {e:Env} {H:List Ob} {l:List Nat}:steps T b q (⟨some d,.nilCheck x,none⟩ :: r) ⟨e,H,l⟩ = (opd e x).bind fun x => (Qji x).bind fun v => steps T b q r ⟨(d,v) :: e,H,l⟩:=by
 rw [Ui Jv]
 cases opd e x <;> cases q <;> rfl
theorem Q1k {n:Nat} {x:Operand} {d:Nat} {r:List AOper} {e:Env} {H:List Ob} {l:List Nat}:steps T b q (⟨some d,.s2ap n x,none⟩ :: r) ⟨e,H,l⟩ = (opd e x).bind fun x => (Q3n n x).bind fun v => steps T b q r ⟨(d,v) :: e,H,l⟩:=by
 rw [Ui Kg]
 cases opd e x <;> cases q <;> rfl
theorem Q58 {str:Bool} {x:Operand} {d:Nat} {r:List AOper} {e:Env} {H:List Ob} {l:List Nat}:steps T b q (⟨some d,.len str x,none⟩ :: r) ⟨e,H,l⟩ = (opd e x).bind fun x => (vLen str x).bind fun v => steps T b q r ⟨(d,v) :: e,H,l⟩:=by
 rw [Ui Ky]
 cases opd e x <;> cases q <;> rfl
theorem Qto {mx:Bool} {x y:Operand} {d:Nat} {r:List AOper} {e:Env} {H:List Ob} {l:List Nat}:steps T b q (⟨some d,.minmax mx x y,none⟩ :: r) ⟨e,H,l⟩ = (opd e x).bind fun x => (opd e y).bind fun y => (Qco mx x y).bind fun v => steps T b q r ⟨(d,v) :: e,H,l⟩:=by
 rw [Ui Xm]
 cases opd e x <;> cases opd e y <;> cases q <;> rfl
def Qy8 (id:Nat):Value → Option (Value × Ob)
 | .string s => if s.size ≤ 2 ^ 47 then some (.slice (some ⟨id,0,none⟩) s.size s.size,⟨s.data.toList.map fun b => .int .u8 b.toNat,true,true,false,1⟩) else none
 | _ => none
theorem Q56 {x:Operand} {d:Nat} {r:List AOper} {e:Env} {H:List Ob} {l:List Nat}:steps T b q (⟨some d,.s2b x,none⟩ :: r) ⟨e,H,l⟩ = (opd e x).bind fun x => (Qy8 H.length x).bind fun v => steps T b q r ⟨(d,v.1) :: e,H ++ [v.2],l⟩:=by
 simp only [steps,guardOf,Kx,Zs,Env.put,Ob.grown]
 cases opd e x with
 | none => rfl
 | some v =>
  cases v <;> try rfl
  simp only [Q4,Qy8]
  split <;> cases q <;> rfl
theorem Q6c {x:Operand} {d:Nat} {r:List AOper} {e:Env} {H:List Ob} {l:List Nat}:steps T b q (⟨some d,.b2s x,none⟩ :: r) ⟨e,H,l⟩ = (opd e x).bind fun x => (Q38 H x).bind fun v => steps T b q r ⟨(d,v) :: e,H,l⟩:=by
 simp only [steps,guardOf,K4,Zs,Env.put]
 cases opd e x with
 | none => rfl
 | some v =>
  cases v <;> try rfl
  rename_i base n cap
  simp only [Q4,Q38]
  cases elemsOf H 1 n (.slice base n cap) with
  | none => rfl
  | some cs =>
   simp only [Q4]
   cases Uv cs <;> cases q <;> rfl
theorem Qtv {es bytes:Nat} {x y:Operand} {d:Nat} {r:List AOper} {e:Env} {H:List Ob} {l:List Nat}:steps T b q (⟨some d,.append es bytes x y,none⟩ :: r) ⟨e,H,l⟩ = (opd e x).bind fun x => (opd e y).bind fun y => (Y4 es bytes H x y).bind fun v => gate ((q && !v.2.2.2.isEmpty) = false) (steps T b q r ⟨(d,v.1) :: e,v.2.1,Xo b l v.2.2.2⟩):=by
 simp only [steps,guardOf,Qdb,Xn,Zs,Env.put]
 cases opd e x <;> cases opd e y <;> cases q <;> rfl
def Q3o (H:List Ob) (es:Nat) (d s:Value):Option (Value × List Ob × List Nat):=match d with
 | .slice base dl _ => (lenV s).bind fun sl => (elemsOf H es (min sl dl) s).bind fun cs => match base with
   | some a => (storeAt H a cs).bind fun H' => some (.int .i64 (min sl dl:Nat),H',[a.block])
   | none => if dl = 0 then some (.int .i64 0,H,[]) else none
 | _ => none
theorem Q1o {es:Nat} {x y:Operand} {d:Option Nat} {r:List AOper} {e:Env} {H:List Ob} {l:List Nat}:steps T b q (⟨d,.copy es x y,none⟩ :: r) ⟨e,H,l⟩ = (opd e x).bind fun x => (opd e y).bind fun y => (Q3o H es x y).bind fun v => gate ((q && !v.2.2.isEmpty) = false) (steps T b q r ⟨e.put d v.1,v.2.1,Xo b l v.2.2⟩):=by
 simp only [steps,guardOf,Qdb,Kk,Zs]
 cases opd e x with
 | none => rfl
 | some v =>
  cases opd e y with
  | none => rfl
  | some s =>
   simp only [Q4]
   cases v <;> try rfl
   rename_i base dl cap
   unfold Q3o
   dsimp only
   cases lenV s with
   | none => rfl
   | some sl =>
    simp only [Q4]
    cases elemsOf H es (min sl dl) s with
    | none => rfl
    | some cs =>
     simp only [Q4]
     cases base with
     | none => dsimp only; split <;> cases q <;> rfl
     | some a => dsimp only; cases storeAt H a cs <;> cases q <;> rfl
theorem Yq {f:Nat} {xs:List Operand} {d:Option Nat} {r:List AOper} {e:Env} {H:List Ob} {l:List Nat}:steps T b q (⟨d,.call f xs true,none⟩ :: r) ⟨e,H,l⟩ = (Wj e xs).bind fun args => gate (args.all rf = true) ((V6 T f args []).bind fun v => gate (rf v.1 = true) (steps T b q r ⟨e.put d v.1,H,l⟩)):=by
 simp only [steps,guardOf,Xa]
 cases Wj e xs with
 | none => rfl
 | some args =>
  simp only [Q4]
  cases args.all rf with
  | false => rfl
  | true =>
   simp only [if_true,Qka]
   cases V6 T f args [] with
   | none => rfl
   | some v =>
    simp only [Q4]
    cases rf v.1 <;> cases q <;> rfl
theorem Qxx {f:Nat} {xs:List Operand} {d:Option Nat} {r:List AOper} {e:Env} {H:List Ob} {l:List Nat}:steps T b q (⟨d,.call f xs false,none⟩ :: r) ⟨e,H,l⟩ = (Wj e xs).bind fun args => (V6 T f args H).bind fun v => gate ((q && !v.2.2.isEmpty) = false) (steps T b q r ⟨e.put d v.1,v.2.1,Xo b l v.2.2⟩):=by
 simp only [steps,guardOf,Qdb,Km]
 cases Wj e xs with
 | none => rfl
 | some args =>
  simp only [Zv,if_false,Q4]
  cases V6 T f args H <;> cases q <;> rfl
def callee:Value → List Value → Option (Nat × List Value)
 | .func (.func f) first captured,args => some (f,first.toList ++ args ++ captured.toList)
 | _,_ => none
theorem Qtz {f:Operand} {xs:List Operand} {e:Env} {H:List Ob}:Yt T (.callv f xs) e H = (opd e f).bind fun f => (Wj e xs).bind fun args => (callee f args).bind fun c => (V6 T c.1 c.2 H).bind fun r => some (r.1,r.2.1,none,r.2.2):=by
 rw [Yt.eq_def]
 dsimp only
 cases opd e f with
 | none => rfl
 | some fv =>
  cases Wj e xs with
  | none =>
   cases fv <;> try rfl
   rename_i fn _ _
   cases fn <;> rfl
  | some args =>
   cases fv <;> try rfl
   rename_i fn _ _
   cases fn <;> rfl
theorem Qxw {f:Operand} {xs:List Operand} {d:Option Nat} {r:List AOper} {e:Env} {H:List Ob} {l:List Nat}:steps T b q (⟨d,.callv f xs,none⟩ :: r) ⟨e,H,l⟩ = (opd e f).bind fun f => (Wj e xs).bind fun args => (callee f args).bind fun c => (V6 T c.1 c.2 H).bind fun v => gate ((q && !v.2.2.isEmpty) = false) (steps T b q r ⟨e.put d v.1,v.2.1,Xo b l v.2.2⟩):=by
 simp only [steps,guardOf,Qdb,Qtz]
 cases opd e f with
 | none => rfl
 | some fv =>
  cases Wj e xs with
  | none => rfl
  | some args =>
   simp only [Q4]
   cases callee fv args with
   | none => rfl
   | some c => simp only [Q4]; cases V6 T c.1 c.2 H <;> cases q <;> rfl
end
theorem hget0 {H l:List Ob}:(H ++ l)[H.length]? = l[0]? := by rw [Zh (Zj _),Kv]
theorem hgetK {H l:List Ob} {k:Nat}:(H ++ l)[H.length + k]? = l[k]? := by rw [Zh (by omega)]; congr 1; omega
theorem Qhn {H l:List Ob} {o:Ob}:(H ++ l).set H.length o = H ++ l.set 0 o:=by rw [Uk _ _ (Zj _),Kv]
theorem hsetK {H l:List Ob} {o:Ob} {k:Nat}:(H ++ l).set (H.length + k) o = H ++ l.set k o:=by rw [Uk _ _ (by omega)]; congr 2; omega
theorem Qku {cs v:List Value} (h:v.length = cs.length):splice cs 0 v = v:=by
 rw [Mc _ _ _ (by omega),Q3,Za,Z1,h,List.drop_length,Kw]
theorem Qo3 {cs:List Value} {n:Nat} (h:cs.length = n):(cs.drop 0).take n = cs:=by rw [Q2,Zl (by omega)]
theorem Ga:∀ {n:Nat} {p q:List Nat},p.length = n → q.length = n → Y2 (Qa n true) (u8s p) (u8s q) = some (p == q)
 | 0,[],[],_,_ => rfl
 | n + 1,x :: p,y :: q,hp,hq => by
  have:=Ga (n:=n) (p:=p) (q:=q) (by simpa using hp) (by simpa using hq)
  simp only [u8s,Y9,Uh,Y2,Qal,if_true,Q4] at this ⊢
  rw [this]
  simp only [Q4,List.cons_beq_cons]
  congr 2
  by_cases h:x = y
  ·subst h; simp
  ·have:¬ ((x:Int) = y):=by omega
   rw [beq_eq_false_iff_ne.2 h,beq_eq_false_iff_ne.2 this]
theorem Qvw (l:List Nat):rf (.agg (u8s l).toArray) = true:=by
 show (u8s l).toArray.toList.all Vq = true
 rw [show (u8s l).toArray.toList = u8s l from rfl]
 simp [u8s,Vq]
theorem Qrd (b:Bool):rf (.bool b) = true:=rfl
theorem Qyz (l:List Value):l.toArray.toList = l:=rfl
theorem Grown.len {k:IntKind} {B:Nat} {H:List Ob} {s:Value} {bs:List Nat} (h:Grown k B H s bs):vLen false s = some (.int .i64 bs.length):=by cases h <;> rfl
theorem Sl.len {k:IntKind} {H:List Ob} {s:Value} {bs:List Nat} (h:Sl k H s bs):vLen false s = some (.int .i64 bs.length):=by cases h <;> rfl
section
variable {e:Env} {H:List Ob}
theorem Q0m {t:Nat}:opd e (.tmp t) = e.get t:=Eq.trans rfl rfl
theorem Qs0 {v:Value}:opd e (.const v) = some v:=Eq.trans rfl rfl
theorem Qwl {f:FuncId}:opd e (.func f) = some (.func (.func f) #[] #[]):=Eq.trans rfl rfl
theorem Qwk:Wj e [] = some []:=Eq.trans rfl rfl
theorem Qsz {x:Operand} {r:List Operand}:Wj e (x :: r) = (opd e x).bind fun v => (Wj e r).bind fun vs => some (v :: vs):=Eq.trans rfl rfl
theorem Qm7:Vp e none = some none:=Eq.trans rfl rfl
theorem Qm6 {x:Operand}:Vp e (some x) = (opd e x).bind fun v => some (some v):=Eq.trans rfl rfl
theorem Qk9:Vb e [] = some []:=Eq.trans rfl rfl
theorem Qi3 {o n:Nat} {x:Operand} {r:List (Nat × Nat × Operand)}:Vb e ((o,n,x) :: r) = (opd e x).bind fun v => (Vb e r).bind fun vs => some ((o,n,v) :: vs):=Eq.trans rfl rfl
theorem Q1i {t:Nat} {v:Value} {r:Env}:Env.get ((t,v) :: r) t = some v:=by simp [Env.get]
theorem Qxp {t u:Nat} {v:Value} {r:Env} (h:(t = u) = False):Env.get ((u,v) :: r) t = Env.get r t:=by simp [Env.get,h]
theorem Qza {a b:Value}:Qut (.bool true) a b = some a:=Eq.trans rfl rfl
theorem Qzb {a b:Value}:Qut (.bool false) a b = some b:=Eq.trans rfl rfl
theorem Qq2 {ks:List Bool} {a b:Array Value}:vEq (some ks) false (.agg a) (.agg b) = (Y2 ks a.toList b.toList).bind fun c => some (.bool c):=Eq.trans rfl rfl
theorem Qcp {ks:List Bool} {a b:Array Value}:vEq (some ks) true (.agg a) (.agg b) = (Y2 ks a.toList b.toList).bind fun c => some (.bool !c):=Eq.trans rfl rfl
theorem Quy {a b:Bool}:vEq none false (.bool a) (.bool b) = some (.bool (a == b)):=Eq.trans rfl rfl
theorem Qr6 {a b:Bool}:vEq none true (.bool a) (.bool b) = some (.bool !(a == b)):=Eq.trans rfl rfl
theorem Qr7 {k j:IntKind} {n:Int}:Q3p k (.int j n) = some (.int k (k.wrap n)):=Eq.trans rfl rfl
theorem Q33 {s:ByteArray}:vStr (.string s) = some (.string s):=Eq.trans rfl rfl
theorem Qoy {n:Option Nat} {off:Nat} {cs:Array Value}:Quw n off (.agg cs) = Yn n cs.toList off:=Eq.trans rfl rfl
theorem Qbz {n:Option Nat} {len es:Nat} {cs:Array Value} {k:IntKind} {i:Int}:Qkn n len es (.agg cs) (.int k i) = gate (0 ≤ i ∧ i < len) (Yn n cs.toList (i.toNat * es)):=Eq.trans rfl rfl
theorem Qmc {s:ByteArray} {k:IntKind} {i:Int}:Qav (.string s) (.int k i) = gate (0 ≤ i) ((s.data.toList[i.toNat]?).bind fun b => some (.int .u8 b.toNat)):=Eq.trans rfl rfl
theorem Qko {off b o:Nat}:Qge off (.pointer (some ⟨b,o,none⟩)) = some (.pointer (some ⟨b,o + off,none⟩)):=by rw [← Vk]; rfl
theorem Qkm {len es b o:Nat} {k:IntKind} {i:Int}:Qgd len es (.pointer (some ⟨b,o,none⟩)) (.int k i) = gate (0 ≤ i ∧ i < len) (some (.pointer (some ⟨b,o + i.toNat * es,none⟩))):=by rw [← Vk]; rfl
theorem Qox {es b o len cap:Nat} {k:IntKind} {i:Int}:Qmd es (.slice (some ⟨b,o,none⟩) len cap) (.int k i) = gate (0 ≤ i ∧ i < len) (some (.pointer (some ⟨b,o + i.toNat * es,none⟩))):=by rw [← Vk]; rfl
theorem Ql9 {n es b o:Nat} {lo hi mx:Option Value}:Qed n es lo hi mx (.pointer (some ⟨b,o,none⟩)) = (W4 n n lo hi mx).bind fun r => some (.slice (some ⟨b,o + r.1 * es,none⟩) (r.2.1 - r.1) (r.2.2 - r.1)):=by
 simp only [Qed,Vk]
theorem Qr8 {i o n c:Nat}:Qf0 H (.slice (some ⟨i,o,none⟩) n c) = (liveAt H i).bind fun ob => gate (ob.own = true) (some (.slice (some ⟨i,o,none⟩) n c)):=by
 simp only [Qf0,gate,Jd,and_true]
theorem Hz {es b o len cap:Nat} {lo hi mx:Option Value}:vSliceSl H es lo hi mx (.slice (some ⟨b,o,none⟩) len cap) = (W4 len cap lo hi mx).bind fun r => (liveAt H b).bind fun ob => gate (ob.exact ∨ ¬ ob.own ∨ es ≤ ob.es) (some (.slice (some ⟨b,o + r.1 * es,none⟩) (r.2.1 - r.1) (r.2.2 - r.1))):=by
 simp only [vSliceSl,Vk,gate]
theorem Qow {es:Nat} {lo hi mx:Option Value}:vSliceSl H es lo hi mx (.slice none 0 0) = (W4 0 0 lo hi mx).bind fun _ => some (.slice none 0 0):=Eq.trans rfl rfl
theorem Ql8 {s:ByteArray} {lo hi:Option Value}:Qjh lo hi (.string s) = (W4 s.size s.size lo hi none).bind fun r => some (.string (s.extract r.1 r.2.1)):=Eq.trans rfl rfl
theorem Mb {i:Nat} {vs:Array Value}:Qme i (.tuple vs) = vs.toList[i]? := Eq.trans rfl rfl
theorem Qma {a:Addr}:Qji (.pointer (some a)) = some (.pointer (some a)):=Eq.trans rfl rfl
theorem Qy9 {n:Nat} {a:Addr} {len cap:Nat}:Q3n n (.slice (some a) len cap) = gate (n ≤ len ∧ 0 < n) (some (.pointer (some a))):=Eq.trans rfl rfl
theorem Q36 {a:Option Addr} {n c:Nat}:vLen false (.slice a n c) = some (.int .i64 n):=Eq.trans rfl rfl
theorem Quv {s:ByteArray}:vLen true (.string s) = some (.int .i64 s.size):=Eq.trans rfl rfl
theorem Q34 {k:IntKind} {a b:Int}:Qco false (.int k a) (.int k b) = some (.int k (if b < a then b else a)):=by simp [Qco]
theorem Q35 {k:IntKind} {a b:Int}:Qco true (.int k a) (.int k b) = some (.int k (if b > a then b else a)):=by simp [Qco]
theorem Qzd {n:Option Nat} {b o:Nat}:Qmb H n (.pointer (some ⟨b,o,none⟩)) = (liveAt H b).bind fun ob => Yn n ob.cells o:=by simp [Qmb]
theorem Qur {n b o:Nat} {v:Value}:Qov H n (.pointer (some ⟨b,o,none⟩)) v = gate (v.cells.size = n ∧ Yk v = true) (storeAt H ⟨b,o,none⟩ v.cells.toList):=Eq.trans rfl rfl
theorem Q2p {b o:Nat}:Qyx (.pointer (some ⟨b,o,none⟩)) = [b]:=rfl
theorem Q37 {a:Option Addr} {n c:Nat}:Q38 H (.slice a n c) = (elemsOf H 1 n (.slice a n c)).bind fun cs => (Uv cs).bind fun l => some (.string ⟨l.toArray⟩):=Eq.trans rfl rfl
theorem Qzc {zero:List Value} {bytes id:Nat} {k j:IntKind} {l c:Int}:Quu zero bytes id (.int k l) (.int j c) = gate (0 ≤ l ∧ l ≤ c ∧ c * bytes ≤ 2 ^ 47 ∧ 0 < bytes ∧ 0 < zero.length) (some (.slice (some ⟨id,0,none⟩) l.toNat c.toNat,⟨(Qa c.toNat zero).flatten,true,true,true,1⟩)):=Eq.trans rfl rfl
theorem Qus {id:Nat} {s:ByteArray}:Qy8 id (.string s) = gate (s.size ≤ 2 ^ 47) (some (.slice (some ⟨id,0,none⟩) s.size s.size,⟨s.data.toList.map fun b => .int .u8 b.toNat,true,true,false,1⟩)):=Eq.trans rfl rfl
theorem Qyo {f:FuncId} {a b:Array Value} {args:List Value}:callee (.func (.func f) a b) args = some (f,a.toList ++ args ++ b.toList):=Eq.trans rfl rfl
theorem Qtf {id:Nat}:liveAt H id = (H[id]?).bind fun o => gate (o.live = true) (some o):=Eq.trans rfl rfl
theorem Qo6 {b o:Nat} {v:List Value}:storeAt H ⟨b,o,none⟩ v = (liveAt H b).bind fun ob => gate (ob.own = true ∧ o + v.length ≤ ob.cells.length) (some (H.set b ⟨splice ob.cells o v,ob.live,ob.own,ob.exact,ob.es⟩)):=by simp [storeAt,gate]
theorem Qpq {cs:List Value} {off:Nat}:Yn none cs off = cs[off]? := Eq.trans rfl rfl
theorem Qpp {n:Nat} {cs:List Value} {off:Nat}:Yn (some n) cs off = gate (off + n ≤ cs.length) (some (.agg ((cs.drop off).take n).toArray)):=Eq.trans rfl rfl
theorem Tf {y d:Nat}:Dl none y d = some d:=Eq.trans rfl rfl
theorem Qs6 {k:IntKind} {i:Int} {y d:Nat}:Dl (some (.int k i)) y d = gate (0 ≤ i ∧ i ≤ y) (some i.toNat):=Eq.trans rfl rfl
theorem Bo {len cap:Nat} {lo hi:Option Value}:W4 len cap lo hi none = (Dl hi cap len).bind fun h => (Dl lo h 0).bind fun l => some (l,h,cap):=by simp [W4,Dl]
theorem Q2n {k:IntKind} {a b:Int}:Y3 .add (.int k a) (.int k b) = some (.int k (k.wrap (a + b))):=by simp [Y3,V7]
theorem Q19 {k:IntKind} {a b:Int}:Y3 .sub (.int k a) (.int k b) = some (.int k (k.wrap (a - b))):=by simp [Y3,V7]
theorem Q2g {k:IntKind} {a b:Int}:Y3 .mul (.int k a) (.int k b) = some (.int k (k.wrap (a * b))):=by simp [Y3,V7]
theorem Q2e {k:IntKind} {a b:Int} (h:(b = 0) = False):Y3 .quo (.int k a) (.int k b) = some (.int k (k.wrap (a.tdiv b))):=by simp [Y3,V7,h]
theorem Q2d {k:IntKind} {a b:Int} (h:(b = 0) = False):Y3 .rem (.int k a) (.int k b) = some (.int k (a.tmod b)):=by simp [Y3,V7,h]
theorem Q2m {k:IntKind} {a b:Int}:Y3 .and (.int k a) (.int k b) = some (.int k (Vz .and k a b)):=by simp [Y3,V7]
theorem Q6m {k:IntKind} {a b:Int}:Y3 .or (.int k a) (.int k b) = some (.int k (Vz .or k a b)):=by simp [Y3,V7]
theorem Q18 {k:IntKind} {a b:Int}:Y3 .xor (.int k a) (.int k b) = some (.int k (Vz .xor k a b)):=by simp [Y3,V7]
theorem Qqr {k:IntKind} {a b:Int}:Y3 .andNot (.int k a) (.int k b) = some (.int k (Vz .andNot k a b)):=by simp [Y3,V7]
theorem Q2l {k:IntKind} {a b:Int}:Y3 .eql (.int k a) (.int k b) = some (.bool (a == b)):=by simp [Y3,V7]
theorem Q2f {k:IntKind} {a b:Int}:Y3 .neq (.int k a) (.int k b) = some (.bool (a != b)):=by simp [Y3,V7]
theorem Q2h {k:IntKind} {a b:Int}:Y3 .lss (.int k a) (.int k b) = some (.bool (decide (a < b))):=by simp [Y3,V7]
theorem Q2i {k:IntKind} {a b:Int}:Y3 .leq (.int k a) (.int k b) = some (.bool (decide (a ≤ b))):=by simp [Y3,V7]
theorem Q2j {k:IntKind} {a b:Int}:Y3 .gtr (.int k a) (.int k b) = some (.bool (decide (b < a))):=by simp [Y3,V7]
theorem Q2k {k:IntKind} {a b:Int}:Y3 .geq (.int k a) (.int k b) = some (.bool (decide (b ≤ a))):=by simp [Y3,V7]
theorem Q2b {k j:IntKind} {a b:Int} (h:(b < 0) = False):Y3 .shl (.int k a) (.int j b) = some (.int k (k.wrap (a * 2 ^ (min b.toNat k.bits)))):=by simp [Y3,Vy,h]
theorem Q2a {k j:IntKind} {a b:Int} (h:(b < 0) = False):Y3 .shr (.int k a) (.int j b) = some (.int k (a.fdiv (2 ^ (min b.toNat k.bits)))):=by simp [Y3,Vy,h]
theorem Qoh {a b:ByteArray}:Y3 .add (.string a) (.string b) = gate (a.size + b.size ≤ 2 ^ 47) (some (.string (a ++ b))):=Eq.trans rfl rfl
theorem Qyv {a b:ByteArray}:Y3 .eql (.string a) (.string b) = some (.bool (a.toList == b.toList)):=Eq.trans rfl rfl
theorem Qyu {a b:ByteArray}:Y3 .neq (.string a) (.string b) = some (.bool !(a.toList == b.toList)):=Eq.trans rfl rfl
theorem Q4a {b:Bool}:unV .not (.bool b) = some (.bool !b):=Eq.trans rfl rfl
theorem Q4b {k:IntKind} {n:Int}:unV .neg (.int k n) = some (.int k (k.wrap (0 - n))):=Eq.trans rfl rfl
theorem Q39 {k:IntKind} {n:Int}:unV .xor (.int k n) = some (.int k (Vz .xor k (if k.signed then -1 else k.max) n)):=Eq.trans rfl rfl
theorem Qqw {l:List Nat} {k:List Nat}:St.after ⟨e,H,l⟩ (some k) = ⟨e.keep k,H,l⟩:=rfl
theorem Qv9 {d:Nat} {v:Value}:Env.put e (some d) v = (d,v) :: e:=rfl
theorem Qwa {v:Value}:Env.put e none v = e:=rfl
theorem Qz0:Va e H [] = some []:=Eq.trans rfl rfl
theorem Qzz {t:Nat} {r:List (Nat × Option (Option Nat))}:Va e H ((t,none) :: r) = (e.get t).bind fun v => (Va e H r).bind fun vs => some (v :: vs):=Eq.trans rfl rfl
theorem Qzy {t:Nat} {n:Option Nat} {r:List (Nat × Option (Option Nat))}:Va e H ((t,some n) :: r) = (e.get t).bind fun p => (Qmb H n p).bind fun v => (Va e H r).bind fun vs => some (v :: vs):=Eq.trans rfl rfl
theorem Qpu {v:Value}:packed [v] = v:=rfl
theorem Qps {v w:Value} {r:List Value}:packed (v :: w :: r) = .tuple (v :: w :: r).toArray:=rfl
theorem Qtd {b:Nat} {l:List Nat}:Xo b l [] = l:=rfl
theorem Qw5 {b i:Nat} {l r:List Nat} (h:b ≤ i):Xo b l (i :: r) = Xo b l r:=by
 have h1:¬ i < b:=by omega
 simp only [Xo,h1,false_and,if_false]
theorem Q0x {k:IntKind} {n:Int}:Yk (.int k n) = true:=rfl
theorem Qww {b:Bool}:Yk (.bool b) = true:=rfl
theorem Q0v {s:ByteArray}:Yk (.string s) = true:=rfl
theorem Q0y {a:Array Value}:Yk (.agg a) = true:=rfl
theorem Q0w {a:Option Addr}:Yk (.pointer a) = true:=rfl
theorem Qs4 {a:Option Addr} {n c:Nat}:Yk (.slice a n c) = true:=rfl
theorem Qwv {f:Fn} {a b:Array Value}:Yk (.func f a b) = true:=rfl
theorem Qne:Yk .nilFunc = true:=rfl
theorem Qs5 {t:TypeId} {v:Value}:Yk (.iface t v) = true:=rfl
theorem Qld:Yk .nilIface = true:=rfl
theorem Qqn (b:Bool):(Value.bool b).cells.toList = [.bool b]:=rfl
theorem Qfs (b:Bool):(Value.bool b).cells.size = 1:=rfl
theorem Qt8 (a:Option Addr):(Value.pointer a).cells.toList = [.pointer a]:=rfl
theorem Qhu (a:Option Addr):(Value.pointer a).cells.size = 1:=rfl
theorem Qoa (a:Option Addr) (n c:Nat):(Value.slice a n c).cells.toList = [.slice a n c]:=rfl
theorem Qe1 (a:Option Addr) (n c:Nat):(Value.slice a n c).cells.size = 1:=rfl
theorem Qt7 (s:ByteArray):(Value.string s).cells.toList = [.string s]:=rfl
theorem Qht (s:ByteArray):(Value.string s).cells.size = 1:=rfl
theorem Ta {a b:Value} (h1:Tb a = true) (h2:Tb b = true):rf (.tuple #[a,b]) = true:=by simp [rf,h1,h2]
theorem Qmx {k:IntKind} {n:Int}:Tb (.int k n) = true:=rfl
theorem Qsn {b:Bool}:Tb (.bool b) = true:=rfl
theorem Qmw (l:List Nat):Tb (.agg (u8s l).toArray) = true:=Qvw l
theorem Q5b {s:ByteArray}:rf (.string s) = true:=rfl
theorem Qvx {s:ByteArray}:Tb (.string s) = true:=rfl
end
set_option linter.defProp false
def cF:=Q9 (Q9 (Q9 (Q9 (Q9 (Q9 (Q9 (@Kf) (Q9 (@Kn) (@K5))) (Q9 (@Qtq) (Q9 (@Qtr) (@Qtt)))) (Q9 (Q9 (@Qts) (Q9 (@Qtu) (@K6))) (Q9 (@Qxd) (Q9 (@Qtj) (@Q1q))))) (Q9 (Q9 (Q9 (@Qtm) (Q9 (@Q57) (@Qxu))) (Q9 (@Q1m) (Q9 (@Q1l) (@Qxz)))) (Q9 (Q9 (@Q6a) (Q9 (@Q1n) (@Qxr))) (Q9 (@Q6b) (Q9 (@Q59) (@Qxs)))))) (Q9 (Q9 (Q9 (Q9 (@fs_un) (Q9 (@Q1p) (@Qqf))) (Q9 (@Qtp) (Q9 (@Qxv) (@Qxt)))) (Q9 (Q9 (@Qnw) (Q9 (@Qxy) (@Qja))) (Q9 (@Qlm) (Q9 (@Qll) (@Qqd))))) (Q9 (Q9 (Q9 (@Qnu) (Q9 (@Qqb) (@Qnt))) (Q9 (@Qlk) (Q9 (@Qqe) (@Qqc)))) (Q9 (Q9 (@Qtn) (Q9 (@Qnv) (@Q1k))) (Q9 (@Q58) (Q9 (@Qto) (@Q56))))))) (Q9 (Q9 (Q9 (Q9 (Q9 (@Q6c) (Q9 (@Qtv) (@Q1o))) (Q9 (@Qxx) (Q9 (@Qxw) (@Q0m)))) (Q9 (Q9 (@Qs0) (Q9 (@Qwl) (@Qwk))) (Q9 (@Qsz) (Q9 (@Qm7) (@Qm6))))) (Q9 (Q9 (Q9 (@Qk9) (Q9 (@Qi3) (@Qxp))) (Q9 (@Qza) (Q9 (@Qzb) (@Qq2)))) (Q9 (Q9 (@Qcp) (Q9 (@Quy) (@Qr6))) (Q9 (@Qr7) (Q9 (@Q33) (@Qr8)))))) (Q9 (Q9 (Q9 (Q9 (@Qoy) (Q9 (@Qbz) (@Qmc))) (Q9 (@Qko) (Q9 (@Qkm) (@Qox)))) (Q9 (Q9 (@Ql9) (Q9 (@Hz) (@Qow))) (Q9 (@Ql8) (Q9 (@Mb) (@Qma))))) (Q9 (Q9 (Q9 (@Qy9) (Q9 (@Q36) (@Quv))) (Q9 (@Q34) (Q9 (@Q35) (@Qzd)))) (Q9 (Q9 (@Qur) (Q9 (@Q2p) (@Q37))) (Q9 (@Qzc) (Q9 (@Qus) (@Qyo)))))))) (Q9 (Q9 (Q9 (Q9 (Q9 (Q9 (@Qtf) (Q9 (@Qo6) (@Qpq))) (Q9 (@Qpp) (Q9 (@Tf) (@Qs6)))) (Q9 (Q9 (@Bo) (Q9 (@Q2n) (@Q19))) (Q9 (@Q2g) (Q9 (@Q2e) (@Q2d))))) (Q9 (Q9 (Q9 (@Q2m) (Q9 (@Q6m) (@Q18))) (Q9 (@Qqr) (Q9 (@Q2l) (@Q2f)))) (Q9 (Q9 (@Q2h) (Q9 (@Q2i) (@Q2j))) (Q9 (@Q2k) (Q9 (@Q2b) (@Q2a)))))) (Q9 (Q9 (Q9 (Q9 (@Qoh) (Q9 (@Qyv) (@Qyu))) (Q9 (@Q4a) (Q9 (@Q4b) (@Q39)))) (Q9 (Q9 (@Qqw) (Q9 (@Qv9) (@Qwa))) (Q9 (@Qz0) (Q9 (@Qzz) (@Qzy))))) (Q9 (Q9 (Q9 (@Qpu) (Q9 (@Qps) (@Qtd))) (Q9 (@Qw5) (Q9 (@Ta) (@Qmx)))) (Q9 (Q9 (@Qsn) (Q9 (@Qmw) (@Q5b))) (Q9 (@Qvx) (Q9 (@Q1j) (@gd_ut))))))) (Q9 (Q9 (Q9 (Q9 (Q9 (@gd_uf) (Q9 (@Za.{0}) (@Zb.{0}))) (Q9 (@Kd.{0}) (Q9 (@J4.{0}) (@List.isEmpty_nil.{0})))) (Q9 (Q9 (@Zv) (Q9 (@beq_self_eq_true.{0}) (@bne_self_eq_false.{0}))) (Q9 (@Xx) (Q9 (@J1) (@Jg))))) (Q9 (Q9 (Q9 (@Xj) (Q9 (@false_and) (@Y1))) (Q9 (@Qrd) (Q9 (@Xk) (@Qvw)))) (Q9 (Q9 (@Qyz) (Q9 (@Ye) (@Xr))) (Q9 (@Jz) (Q9 (@Xw) (@Qft)))))) (Q9 (Q9 (Q9 (Q9 (@Nat.le_add_right) (Q9 (@Ve) (@J3))) (Q9 (@Vh) (Q9 (@Xb) (@Q0x)))) (Q9 (Q9 (@Qww) (Q9 (@Q0v) (@Q0y))) (Q9 (@Q0w) (Q9 (@Qs4) (@Qwv))))) (Q9 (Q9 (Q9 (@Qne) (Q9 (@Qs5) (@Qld))) (Q9 (@Qqn) (Q9 (@Qfs) (@Qt8)))) (Q9 (Q9 (@Qhu) (Q9 (@Qoa) (@Qe1))) (Q9 (@Qt7) (Q9 (@Qht) (@eq_self.{1}))))))))
def pF:=Q9 (Q9 (@Qka) (@Q1i)) (Q9 (@Q4.{0,0}) (Q9 (@if_true.{1}) (@if_false.{1})))
def cL:=Q9 (Q9 (Q9 (Q9 (Q9 (@K9) (@Xu)) (Q9 (@B0) (Q9 (@Ww) (@Jf.{0})))) (Q9 (Q9 (@Ja.{0}) (@Zq.{0})) (Q9 (@Zp.{0}) (Q9 (@Tt.{0}) (@Tu.{0}))))) (Q9 (Q9 (Q9 (@Z1) (@Jr)) (Q9 (@Xy) (Q9 (@Xi) (@Jh)))) (Q9 (Q9 (@Int.toNat_zero) (@Int.lt_irrefl)) (Q9 (@Ke) (Q9 (@Zj) (@and_self)))))) (Q9 (Q9 (Q9 (Q9 (@true_and) (@and_true)) (Q9 (@decide_true) (Q9 (@decide_false) (@Nat.min_self)))) (Q9 (Q9 (@ge_iff_le.{0}) (@gt_iff_lt.{0})) (Q9 (@Jd.{0}) (Q9 (@Je.{0}) (@Option.isNone_some.{0}))))) (Q9 (Q9 (Q9 (@Tr.{0}) (@Xz)) (Q9 (@Xq) (Q9 (@Bool.and_false) (@Qfx)))) (Q9 (Q9 (@not_true_eq_false) (Q9 (@not_false_eq_true) (@or_true))) (Q9 (@true_or) (Q9 (@false_or) (@or_false))))))
def cJ:=Q9 (Q9 (Q9 (@hget0) (@hgetK)) (Q9 (@Qhn) (Q9 (@hsetK) (@Xc)))) (Q9 (Q9 (@Qku) (@Qo3)) (Q9 (@List.getElem?_nil.{0}) (Q9 (@Z4.{0}) (@Jx.{0}))))
end Go.Ev
set_option linter.unusedSimpArgs false
set_option linter.unusedVariables false
namespace Go.Ev
open Go.RowKit Go.WideShapes Go.ChangeShapes
section
variable {P:Program} {T:Tab}
theorem Qe2 (hm:P.follows .mixedOrders = true) (hT:TabOk P T) {f:Nat} {args args':List Value} {v:Value} {H H':List Ob} {M:List Nat} (h:V6 T f args H = some (v,H',M)) (hn:T.fn f ≠ none) (hv:rf v = true) {ρ:Pl} {w:World} (hl:LRel ρ args args')
  (hrel:RelF ρ (hp H) w) (hfree:∀ id,H.length ≤ id → ρ id = none) (hown:∀ (i:Nat) (o:Ob),H[i]? = some o → o.own = false) :
  Calls P f args'.toArray w fun e w' => e = .returned v ∧ Below w.heap.size w w':=by
 have h1:=(sound hm hT f args H _ h).1
 have h2:=h1 ρ args' w hl hrel (fun id h _ => hfree id h) { (default:Oper) with dst:=some 0 } { tmps := #[undef],defers:=[] }
  (fun a w' => ∃ v',a.tmps = #[v'] ∧ v' = v ∧ Below w.heap.size w w') (fun _ _ _ => False) fun v' w' ρ' hp => ⟨v',by simp [Act.put],hp.val.of_rf hv,⟨hp.frm.os,hp.frm.tape,hp.frm.output,hp.frm.size,fun k hk => hp.frm.blocks k hk fun id ob pl hc _ _ ho => by rw [hown id ob hc] at ho; cases ho⟩⟩
 obtain ⟨af,haf⟩:=Option.ne_none_iff_exists'.1 hn
 obtain ⟨pf,g1,g2,g3⟩:=hT.fn f af haf
 obtain ⟨code,g4,g5,g6⟩:=Qai g2
 have hcf:(callFunc f args'.toArray).run P w = .ok (.enter f args'.toArray) w:=by
  have g3' : ¬ (pf.name = "runtime.NumGoroutine") := by simpa using g3
  simp [callFunc,g1,g3',g4]
 rw [hcf,Oper.upon_enter] at h2
 refine h2.mono fun e w' he => ?_
 cases e with
 | returned v1 =>
  obtain ⟨v',k1,k2,k3⟩:=he
  have:v1 = v':=by simpa [Act.put] using k1
  exact ⟨by rw [this,k2],k3⟩
 | panicked c => exact he.elim
 | outgrown => obtain ⟨_,_,hx⟩:=he; exact hx.elim
structure Lies8 (w:World) (a:Addr) (len cap:Nat) (l:List Nat):Prop where
 spot:a.spot = none
 at_:∃ cs e fr,w.heap[a.block]? = some (.cells cs e fr) ∧ (cap = 0 ∨ a.off + cap ≤ cs.size) ∧ ∀ (i x:Nat),l[i]? = some x → cs[a.off + i]? = some (.int .u8 (x:Nat))
 le:len ≤ cap
 max:cap ≤ maxLen
 len:l.length = len
 lt:∀ x ∈ l,x < 256
theorem Qbu {w:World} {base:Nat} {a:Addr} {cs:List Value} (h:w.cells? base a 1 = some cs):∃ v,cs = [v] ∧ w.cell? a = some v:=by
 obtain ⟨_,hlen1,hcell⟩:=World.cells?_some h
 obtain ⟨v,rfl⟩:∃ v,cs = [v]:=by
  match cs,hlen1 with
  | [v],_ => exact ⟨v,rfl⟩
 refine ⟨v,rfl,?_⟩
 have h0:=hcell 0 (by omega)
 simpa [Addr.add] using h0
theorem Qm4 {w:World} {r:Reach} {b0:Nat} {H:Type} {enc:TypeId × Value → H} {t e:TypeId} {v:Value} {d:DataW H} {ps:List MemPlace} (ht:P.underlying t = some (.slice e)) (he:P.underlying e = some (.int .u8)) (hc:P.cellsOf e = 1)
  (hval:Value.okWide P w r b0 t v) (hd:DataW.Trod enc P w 0 (fun _ => true) true t v d ps) :
  v = .slice none 0 0 ∨ ∃ a len cap l,v = .slice (some a) len cap ∧ Lies8 w a len cap l:=by
 obtain ⟨a0,len0,cap0,rfl⟩:=okWide_slice ht hval
 obtain ⟨fuel,hf⟩:=hd
 rcases DataW.trod_slice ht hf with ⟨h1,h2⟩ | ⟨a,len,cap,elems,rest,n,_,h1,h2,h3,h4,h5,h6,h7,h8,h9⟩
 ·left
  simpa [Value.cells] using h1
 ·right
  simp only [Value.cells,R6,Value.slice.injEq,and_true] at h1
  obtain ⟨rfl,rfl,rfl⟩:=h1
  simp only [Value.okWide,ht,Cell.okWide,Cell.ok] at hval
  obtain ⟨_,_,_,hsp,row,cells,hsh,_⟩:=hval
  simp only [World.shape?] at hsh
  cases hb:w.heap[a.block]? with
  | none => rw [hb] at hsh; cases hsh
  | some ob =>
   rw [hb] at hsh
   cases ob with
   | cells cs el fr =>
    have hcell:∀ i,w.cell? (a.add i) = cs[a.off + i]? := fun i => by
     have h1:(a.add i) = ⟨a.block,a.off + i,none⟩:=by
      obtain ⟨ab,ao,asp⟩:=a
      simp only at hsp
      subst hsp
      exact Vk _ _ _
     rw [h1]
     simp [World.cell?,hb]
    have hel:∀ i,i < len0 → ∃ x:Nat,cs[a.off + i]? = some (.int .u8 (x:Nat)) ∧ x < 256:=fun i hi => by
     have h10:=h7 i hi
     rw [hc,Xy] at h10
     obtain ⟨y,hy⟩:∃ y,elems[i]? = some y:=⟨_,Q1 (by omega)⟩
     rw [hy,Qc] at h10
     obtain ⟨c1,hc1,hof⟩:=h10
     obtain ⟨v1,rfl,hv1⟩:=Qbu hc1
     obtain ⟨m,hm,_,hw⟩:=DataW.trod_int he hof
     simp only [R6,and_true] at hm
     subst hm
     rw [hcell] at hv1
     simp only [Lit.wf,decide_eq_true_eq,Vw] at hw
     have hw1:(0:Int) ≤ m:=hw.1
     have hw2:m ≤ 255:=hw.2
     exact ⟨m.toNat,by rw [hv1,Int.toNat_of_nonneg hw1],by omega⟩
    have hcap:cap0 = 0 ∨ a.off + cap0 ≤ cs.size:=by
     rcases Yd cap0 with h0 | h0
     ·exact .inl h0
     ·right
      rcases V5 len0 cap0 with hlt | hge
      ·obtain ⟨hr1,hr2⟩:=h8 rfl
       have h10:=hr2 (cap0 - len0 - 1) (by omega)
       rw [hc,Xy] at h10
       obtain ⟨y,hy⟩:∃ y,rest[cap0 - len0 - 1]? = some y:=⟨_,Q1 (by omega)⟩
       rw [hy,Qc] at h10
       obtain ⟨c1,hc1,hof⟩:=h10
       obtain ⟨v1,rfl,hv1⟩:=Qbu hc1
       rw [hcell] at hv1
       have:=(Tx.1 hv1).1
       omega
      ·obtain ⟨x,hx,_⟩:=hel (cap0 - 1) (by omega)
       have:=(Tx.1 hx).1
       omega
    refine ⟨a,len0,cap0,(Y5 len0).map fun i => match cs[a.off + i]? with | some (.int _ m) => m.toNat | _ => 0,rfl,hsp,⟨cs,el,fr,hb,hcap,fun i x hx => ?_⟩,h4,h5,by simp,fun x hx => ?_⟩
    ·simp only [Uw,Jm] at hx
     obtain ⟨j,hj,rfl⟩:=hx
     have hj2:=Q8.1 hj
     obtain ⟨hj3,hj4⟩:=hj2
     simp only [List.length_range] at hj3
     rw [List.getElem_range] at hj4
     subst hj4
     obtain ⟨y,hy,_⟩:=hel i hj3
     rw [hy]
     simp
    ·simp only [U7,D4] at hx
     obtain ⟨j,hj,rfl⟩:=hx
     obtain ⟨y,hy,hy2⟩:=hel j hj
     rw [hy]
     simpa using hy2
   | _ => cases hsh
theorem Qmn {w:World} {H:Type} {enc:TypeId × Value → H} {t e:TypeId} {v:Value} {d:DataW H} {ps:List MemPlace} {ts:List TypeId} {ds:List (DataW H)} (hw:(DataW.weightsEach P ts ds).all (· ≤ reachBytes) = true) {j:Nat} (htj:ts[j]? = some t) (hdj:ds[j]? = some d)
  (ht:P.underlying t = some (.slice e)) (hb:P.bytesOf e = 1) (hd:DataW.Trod enc P w 0 (fun _ => true) true t v d ps) {a:Addr} {len cap:Nat} (hv:v = .slice (some a) len cap):len ≤ 2 ^ 47 - 4096:=by
 subst hv
 obtain ⟨fuel,hf⟩:=hd
 rcases DataW.trod_slice ht hf with ⟨h1,h2⟩ | ⟨a',len',cap',elems,rest,n,_,h1,h2,h3,h4,h5,h6,h7,h8,h9⟩
 ·simp [Value.cells] at h1
 ·simp only [Value.cells,R6,Value.slice.injEq,and_true] at h1
  obtain ⟨_,rfl,_⟩:=h1
  simp only [Prod.mk.injEq] at h2
  obtain ⟨rfl,-⟩:=h2
  have:=sized_slice hw htj hdj ht
  rw [hb,List.length_map,h6] at this
  have e1:reachBytes = 2 ^ 47 - 4096:=by decide
  omega
theorem Qgc (ρ:Pl) (l:List Nat):VRel ρ (.agg (u8s l).toArray) (.agg (u8s l).toArray) :=
 .agg (LRel.same (by rw [Yh]; intro x hx; simp only [u8s,U7] at hx; obtain ⟨n,-,rfl⟩:=hx; rfl)) (fun x hx => by simp only [u8s,U7] at hx; obtain ⟨n,-,rfl⟩:=hx; rfl)
def ob8 (l:List Nat):Ob:=⟨u8s l,true,false,false,1⟩
theorem Qc8 {w:World} {a:Addr} {len cap:Nat} {l:List Nat} (h:Lies8 w a len cap l):∃ pl:Place,pl.block = a.block ∧ pl.block < w.heap.size ∧ (∀ ρ,ObjRel ρ w pl (ob8 l)) ∧
  ∀ (ρ:Pl) (id:Nat),ρ id = some pl → VRel ρ (.slice (some ⟨id,0,none⟩) len len) (.slice (some a) len cap):=by
 obtain ⟨cs,e,fr,h1,h2,h3⟩:=h.at_
 have hlt:a.block < w.heap.size:=(Tx.1 h1).1
 have hle:=h.le
 have hln:=h.len
 rcases Yd cap with h0 | h0
 ·subst h0
  have hl0:l = []:=Yl (by omega)
  have hlen0:len = 0:=by omega
  subst hl0 hlen0
  refine ⟨⟨a.block,0,cs.size,1,.foreign⟩,rfl,hlt,fun ρ => ⟨rfl,rfl,cs,e,fr,h1,rfl,by simp [ob8,u8s],fun i v hv => by simp [ob8,u8s] at hv,fun ho => by simp [ob8] at ho⟩,fun ρ id hρ => ?_⟩
  exact .slice hρ rfl h.spot rfl (.inr rfl) (Zj _) (Zj _) trivial
 ·have h4:a.off + cap ≤ cs.size:=by
   rcases h2 with h2 | h2
   ·omega
   ·exact h2
  refine ⟨⟨a.block,a.off,cs.size,1,.foreign⟩,rfl,hlt,fun ρ => ⟨rfl,rfl,cs,e,fr,h1,rfl,by simp only [ob8,X2]; omega,fun i v hv => ?_,fun ho => by simp [ob8] at ho⟩,fun ρ id hρ => ?_⟩
  ·simp only [ob8,u8s,Uw,Jm] at hv
   obtain ⟨x,hx,rfl⟩:=hv
   exact ⟨rfl,_,h3 i x hx,.same rfl⟩
  ·exact .slice hρ rfl h.spot rfl (.inl rfl) (Zj _) h.le trivial
def pl1 (pl:Place):Pl:=fun id => if id = 0 then some pl else none
theorem Qre {w:World} {pl:Place} {l:List Nat} (h1:pl.block < w.heap.size) (h2:∀ ρ,ObjRel ρ w pl (ob8 l)):RelF (pl1 pl) (hp [ob8 l]) w:=by
 refine ⟨fun id p h => ?_,fun id ob p h k hl => ?_,fun i j oi oj pi pj hi hj hpi hpj hl ho hlj hne => ?_⟩
 ·unfold pl1 at h
  split at h
  ·cases h; exact h1
  ·cases h
 ·unfold pl1 at k
  split at k
  ·rename_i h0
   subst h0
   cases k
   simp [hp] at h
   subst h
   exact h2 _
  ·cases k
 ·rcases i with _ | i
  ·simp [hp] at hi
   subst hi
   cases ho
  ·simp [hp] at hi
theorem Qrl {l:List Nat}:∀ (i:Nat) (o:Ob),([ob8 l]:List Ob)[i]? = some o → o.own = false:=by
 intro i o h
 rcases i with _ | i
 ·simp at h; subst h; rfl
 ·simp at h
theorem Qnx {pl:Place} {l:List Nat}:∀ id,([ob8 l]:List Ob).length ≤ id → pl1 pl id = none:=by
 intro id h
 have:¬ id = 0:=by simp at h; omega
 simp [pl1,this]
end
end Go.Ev
set_option linter.unusedSimpArgs false
set_option linter.unusedVariables false
set_option maxRecDepth 100000
namespace Go.Ev.YtgacigcbglflkaaGreat
open Go Go.Ev
abbrev kt (n:Nat):Operand := .tmp n
abbrev ki (n:Int):Operand := .const (.int .i64 n)
abbrev ko (n:Nat) (o:AOp):AOper:=AOper.mk (some n) o none
abbrev kq (o:AOp):AOper:=AOper.mk none o none
abbrev kr (l:List AOper) (k:List Nat):ACode := .region l (some k) []
def a16:AFun:=⟨(.seq (kr [ko 1 (.box (kt 0)),ko 2 (.alloc (Qa 32 (.int .u8 0)))] [1,2]) (.seq (kr [ko 3 (.indexAddr 32 1 (kt 1) (ki 0)),ko 4 (.load none (kt 3)),ko 5 (.bin .and (kt 4) (.const (.int .u8 248))),ko 6 (.indexAddr 32 1 (kt 1) (ki 0)),kq (.store 1 (kt 6) (kt 5))] [1,2]) (.seq (kr [ko 7 (.indexAddr 32 1 (kt 1) (ki 31)),ko 8 (.load none (kt 7)),ko 9 (.bin .and (kt 8) (.const (.int .u8 127))),ko 10 (.bin .or (kt 9) (.const (.int .u8 64))),ko 11 (.indexAddr 32 1 (kt 1) (ki 31)),kq (.store 1 (kt 11) (kt 10))] [1,2]) (.seq (kr [ko 12 (.load (some 32) (kt 1)),kq (.store 32 (kt 2) (kt 12))] [2]) .ret)))),[(2,(some (some 32)))]⟩
def Qix:ACode:=(.seq (kr [ko 9 (.bin .lss (kt 8) (kt 7))] [2,3,6,7,8,9]) (.seq (.cond (kt 9) .skip (.exit 0)) (.seq (.block 1 (.seq (kr [ko 10 (.indexSl 1 (kt 6) (kt 8)),ko 11 (.load none (kt 10)),ko 5 (.move (kt 11))] [2,3,5,6,7,8]) (kr [ko 12 (.move (kt 3)),ko 13 (.move (kt 5)),ko 14 (.append 1 1 (kt 12) (kt 13)),ko 3 (.move (kt 14))] [2,3,6,7,8]))) (kr [ko 15 (.bin .add (kt 8) (ki 1)),ko 8 (.move (kt 15))] [2,3,6,7,8]))))
def a17:AFun:=⟨(.seq (kr [ko 2 (.alloc (Qa 32 (.int .u8 0)))] [0,2]) (.seq (kr [ko 3 (.move (.const (.slice none 0 0)))] [0,2,3]) (.seq (.seq (kr [ko 6 (.move (kt 0)),ko 7 (.len false (kt 6)),ko 8 (.move (ki 0))] [2,3,6,7,8]) (.block 0 (.loop Qix))) (.seq (kr [ko 16 (.move (kt 3)),ko 17 (.call 48 [(kt 16)] false),ko 18 (.call 51 [(kt 17)] false),ko 19 (.call 52 [(kt 18)] false),kq (.store 32 (kt 2) (kt 19))] [2]) .ret)))),[(2,(some (some 32)))]⟩
def Qiw:ACode:=(.seq (.seq (kr [ko 8 (.move (kt 4)),ko 9 (.move (kt 0)),ko 10 (.len true (kt 9)),ko 11 (.bin .lss (kt 8) (kt 10))] [0,2,3,4,11]) (.cond (kt 11) .skip (.exit 0))) (.seq (.block 1 (kr [ko 14 (.move (kt 3)),ko 15 (.move (kt 4)),ko 16 (.move (kt 0)),ko 17 (.move (kt 4)),ko 18 (.indexStr (kt 16) (kt 17)),ko 19 (.conv .i64 (kt 18)),ko 20 (.indexSl 1 (kt 14) (kt 15)),kq (.store 1 (kt 20) (kt 19))] [0,2,3,4])) (kr [ko 12 (.move (kt 4)),ko 13 (.bin .add (kt 12) (ki 1)),ko 4 (.move (kt 13))] [0,2,3,4])))
def a18:AFun:=⟨(.seq (kr [ko 2 (.alloc (Qa 32 (.int .u8 0)))] [0,2]) (.seq (kr [ko 5 (.move (kt 0)),ko 6 (.len true (kt 5)),ko 7 (.makeSlice [(.int .i64 0)] 8 (kt 6) (kt 6)),ko 3 (.move (kt 7))] [0,2,3]) (.seq (.seq (kr [ko 4 (.move (ki 0))] [0,2,3,4]) (.block 0 (.loop Qiw))) (.seq (kr [ko 21 (.move (kt 3)),ko 22 (.call 60 [(kt 21)] false),kq (.store 32 (kt 2) (kt 22))] [2]) .ret)))),[(2,(some (some 32)))]⟩
def a19:AFun:=⟨(.seq (kr [ko 3 (.box (kt 0)),ko 4 (.box (kt 1)),ko 5 (.box (kt 2)),ko 6 (.alloc (Qa 32 (.int .u8 0)))] [3,4,5,6]) (.seq (kr [ko 7 (.sliceArr 32 1 (kt 3) none none none),ko 8 (.call 48 [(kt 7)] false),ko 9 (.sliceArr 32 1 (kt 4) none none none),ko 10 (.call 48 [(kt 9)] false),ko 11 (.call 49 [(kt 8),(kt 10)] false),ko 12 (.sliceArr 32 1 (kt 5) none none none),ko 13 (.call 48 [(kt 12)] false),ko 14 (.call 50 [(kt 11),(kt 13)] false),ko 15 (.call 51 [(kt 14)] false),ko 16 (.call 52 [(kt 15)] false),kq (.store 32 (kt 6) (kt 16))] [6]) .ret)),[(6,(some (some 32)))]⟩
def a21:AFun:=⟨(.seq (kr [ko 1 (.box (kt 0)),ko 2 (.move (.const (.bool false)))] [1]) (.seq (kr [ko 3 (.sliceArr 32 1 (kt 1) none none none),ko 4 (.call 48 [(kt 3)] false),ko 5 (.call 69 [] false),ko 6 (.call 68 [(kt 4),(kt 5)] false),ko 2 (.move (kt 6))] [2]) .ret)),[(2,none)]⟩
def Qiv:ACode:=(.seq (.seq (kr [ko 6 (.move (kt 4)),ko 7 (.bin .lss (kt 6) (ki 32))] [1,3,4,7]) (.cond (kt 7) .skip (.exit 0))) (.seq (.block 1 (kr [ko 10 (.move (kt 3)),ko 11 (.move (kt 4)),ko 12 (.move (kt 4)),ko 13 (.indexAddr 32 1 (kt 1) (kt 12)),ko 14 (.load none (kt 13)),ko 15 (.conv .i64 (kt 14)),ko 16 (.indexSl 1 (kt 10) (kt 11)),kq (.store 1 (kt 16) (kt 15))] [1,3,4])) (kr [ko 8 (.move (kt 4)),ko 9 (.bin .add (kt 8) (ki 1)),ko 4 (.move (kt 9))] [1,3,4])))
def a22:AFun:=⟨(.seq (kr [ko 1 (.box (kt 0)),ko 2 (.move (.const (.bool false)))] [1]) (.seq (kr [ko 5 (.makeSlice [(.int .i64 0)] 8 (ki 32) (ki 32)),ko 3 (.move (kt 5))] [1,3]) (.seq (.seq (kr [ko 4 (.move (ki 0))] [1,3,4]) (.block 0 (.loop Qiv))) (.seq (kr [ko 17 (.move (kt 3)),ko 18 (.call 76 [] false),ko 19 (.call 75 [(kt 17),(kt 18)] false),ko 2 (.move (kt 19))] [2]) .ret)))),[(2,none)]⟩
def Ql1:ACode:=(.seq (.seq (kr [ko 3 (.move (kt 1)),ko 4 (.len false (kt 3)),ko 5 (.bin .lss (kt 4) (ki 31))] [1,5]) (.cond (kt 5) .skip (.exit 0))) (.block 1 (kr [ko 6 (.move (kt 1)),ko 7 (.buildSlice [(.int .i64 0)] 1 [(0,(1,(ki 0)))]),ko 8 (.append 1 8 (kt 6) (kt 7)),ko 1 (.move (kt 8))] [1])))
def a23:AFun:=⟨(.seq (kr [ko 0 (.move (.const (.slice none 0 0)))] []) (.seq (kr [ko 2 (.buildSlice (Qa 16 (.int .i64 0)) 16 [(0,(1,(ki 237))),(1,(1,(ki 211))),(2,(1,(ki 245))),(3,(1,(ki 92))),(4,(1,(ki 26))),(5,(1,(ki 99))),(6,(1,(ki 18))),(7,(1,(ki 88))),(8,(1,(ki 214))),(9,(1,(ki 156))),(10,(1,(ki 247))),(11,(1,(ki 162))),(12,(1,(ki 222))),(13,(1,(ki 249))),(14,(1,(ki 222))),(15,(1,(ki 20)))]),ko 1 (.move (kt 2))] [1]) (.seq (.block 0 (.loop Ql1)) (.seq (kr [ko 9 (.move (kt 1)),ko 10 (.buildSlice [(.int .i64 0)] 1 [(0,(1,(ki 16)))]),ko 11 (.append 1 8 (kt 9) (kt 10)),ko 0 (.move (kt 11))] [0]) .ret)))),[(0,none)]⟩
def a25:AFun:=⟨(.seq (kr [ko 0 (.alloc (Qa 20 (.int .u64 0)))] [0]) (.seq (kr [ko 3 (.build (Qa 32 (.int .u8 0)) [(0,(1,(.const (.int .u8 26)))),(1,(1,(.const (.int .u8 213)))),(2,(1,(.const (.int .u8 37)))),(3,(1,(.const (.int .u8 143)))),(4,(1,(.const (.int .u8 96)))),(5,(1,(.const (.int .u8 45)))),(6,(1,(.const (.int .u8 86)))),(7,(1,(.const (.int .u8 201)))),(8,(1,(.const (.int .u8 178)))),(9,(1,(.const (.int .u8 167)))),(10,(1,(.const (.int .u8 37)))),(11,(1,(.const (.int .u8 149)))),(12,(1,(.const (.int .u8 96)))),(13,(1,(.const (.int .u8 199)))),(14,(1,(.const (.int .u8 44)))),(15,(1,(.const (.int .u8 105)))),(16,(1,(.const (.int .u8 92)))),(17,(1,(.const (.int .u8 220)))),(18,(1,(.const (.int .u8 214)))),(19,(1,(.const (.int .u8 253)))),(20,(1,(.const (.int .u8 49)))),(21,(1,(.const (.int .u8 226)))),(22,(1,(.const (.int .u8 164)))),(23,(1,(.const (.int .u8 192)))),(24,(1,(.const (.int .u8 254)))),(25,(1,(.const (.int .u8 83)))),(26,(1,(.const (.int .u8 110)))),(27,(1,(.const (.int .u8 205)))),(28,(1,(.const (.int .u8 211)))),(29,(1,(.const (.int .u8 54)))),(30,(1,(.const (.int .u8 105)))),(31,(1,(.const (.int .u8 33))))]),ko 4 (.call 37 [(kt 3)] true),ko 1 (.alloc (Qa 5 (.int .u64 0))),kq (.store 5 (kt 1) (kt 4))] [0,1]) (.seq (kr [ko 5 (.build (Qa 32 (.int .u8 0)) [(0,(1,(.const (.int .u8 88)))),(1,(1,(.const (.int .u8 102)))),(2,(1,(.const (.int .u8 102)))),(3,(1,(.const (.int .u8 102)))),(4,(1,(.const (.int .u8 102)))),(5,(1,(.const (.int .u8 102)))),(6,(1,(.const (.int .u8 102)))),(7,(1,(.const (.int .u8 102)))),(8,(1,(.const (.int .u8 102)))),(9,(1,(.const (.int .u8 102)))),(10,(1,(.const (.int .u8 102)))),(11,(1,(.const (.int .u8 102)))),(12,(1,(.const (.int .u8 102)))),(13,(1,(.const (.int .u8 102)))),(14,(1,(.const (.int .u8 102)))),(15,(1,(.const (.int .u8 102)))),(16,(1,(.const (.int .u8 102)))),(17,(1,(.const (.int .u8 102)))),(18,(1,(.const (.int .u8 102)))),(19,(1,(.const (.int .u8 102)))),(20,(1,(.const (.int .u8 102)))),(21,(1,(.const (.int .u8 102)))),(22,(1,(.const (.int .u8 102)))),(23,(1,(.const (.int .u8 102)))),(24,(1,(.const (.int .u8 102)))),(25,(1,(.const (.int .u8 102)))),(26,(1,(.const (.int .u8 102)))),(27,(1,(.const (.int .u8 102)))),(28,(1,(.const (.int .u8 102)))),(29,(1,(.const (.int .u8 102)))),(30,(1,(.const (.int .u8 102)))),(31,(1,(.const (.int .u8 102))))]),ko 6 (.call 37 [(kt 5)] true),ko 2 (.alloc (Qa 5 (.int .u64 0))),kq (.store 5 (kt 2) (kt 6))] [0,1,2]) (.seq (kr [ko 7 (.load (some 5) (kt 1)),ko 8 (.load (some 5) (kt 2)),ko 9 (.call 38 [(.const (.int .u32 1))] true),ko 10 (.load (some 5) (kt 1)),ko 11 (.load (some 5) (kt 2)),ko 12 (.call 39 [(kt 10),(kt 11)] true),ko 13 (.build (Qa 20 (.int .u64 0)) [(0,(5,(kt 7))),(5,(5,(kt 8))),(10,(5,(kt 9))),(15,(5,(kt 12)))]),kq (.store 20 (kt 0) (kt 13))] [0]) .ret)))),[(0,(some (some 20)))]⟩
def Qe7:ACode:=(.seq (.seq (kr [ko 10 (.move (kt 7)),ko 11 (.bin .geq (kt 10) (ki 0))] [2,3,4,5,6,7,11]) (.cond (kt 11) .skip (.exit 0))) (.seq (.block 1 (.seq (kr [ko 14 (.load (some 20) (kt 5)),ko 15 (.call 42 [(kt 14)] true),kq (.store 20 (kt 5) (kt 15))] [2,3,4,5,6,7]) (.seq (kr [ko 16 (.move (kt 7)),ko 17 (.bin .quo (kt 16) (ki 8)),ko 18 (.indexAddr 32 1 (kt 3) (kt 17)),ko 19 (.load none (kt 18)),ko 20 (.move (kt 7)),ko 21 (.bin .rem (kt 20) (ki 8)),ko 22 (.bin .shr (kt 19) (kt 21)),ko 23 (.bin .and (kt 22) (.const (.int .u8 1))),ko 24 (.bin .eql (kt 23) (.const (.int .u8 1)))] [2,3,4,5,6,7,24]) (.cond (kt 24) (kr [ko 25 (.load (some 20) (kt 5)),ko 26 (.load (some 20) (kt 2)),ko 27 (.load (some 5) (kt 6)),ko 28 (.call 43 [(kt 25),(kt 26),(kt 27)] true),kq (.store 20 (kt 5) (kt 28))] [2,3,4,5,6,7]) .skip)))) (kr [ko 12 (.move (kt 7)),ko 13 (.bin .sub (kt 12) (ki 1)),ko 7 (.move (kt 13))] [2,3,4,5,6,7])))
def a26:AFun:=⟨(.seq (kr [ko 2 (.box (kt 0)),ko 3 (.box (kt 1)),ko 4 (.alloc (Qa 20 (.int .u64 0)))] [2,3,4]) (.seq (kr [ko 8 (.call 40 [] true),ko 9 (.call 41 [] true),ko 5 (.alloc (Qa 20 (.int .u64 0))),ko 6 (.alloc (Qa 5 (.int .u64 0))),kq (.store 20 (kt 5) (kt 8)),kq (.store 5 (kt 6) (kt 9))] [2,3,4,5,6]) (.seq (.seq (kr [ko 7 (.move (ki 255))] [2,3,4,5,6,7]) (.block 0 (.loop Qe7))) (.seq (kr [ko 29 (.load (some 20) (kt 5)),kq (.store 20 (kt 4) (kt 29))] [4]) .ret)))),[(4,(some (some 20)))]⟩
def Qiu:ACode:=(.seq (kr [ko 12 (.bin .lss (kt 11) (kt 10))] [2,3,4,9,10,11,12]) (.seq (.cond (kt 12) .skip (.exit 0)) (.seq (.block 1 (.seq (kr [ko 13 (.indexSl 20 (kt 9) (kt 11)),ko 14 (.load (some 20) (kt 13)),ko 6 (.alloc (Qa 20 (.int .u64 0))),kq (.store 20 (kt 6) (kt 14))] [2,3,4,6,9,10,11]) (kr [ko 15 (.load (some 20) (kt 3)),ko 16 (.load (some 20) (kt 6)),ko 17 (.load (some 5) (kt 4)),ko 18 (.call 43 [(kt 15),(kt 16),(kt 17)] true),kq (.store 20 (kt 3) (kt 18))] [2,3,4,9,10,11]))) (kr [ko 19 (.bin .add (kt 11) (ki 1)),ko 11 (.move (kt 19))] [2,3,4,9,10,11]))))
def a27:AFun:=⟨(.seq (kr [ko 2 (.alloc (Qa 20 (.int .u64 0)))] [0,2]) (.seq (kr [ko 7 (.call 40 [] true),ko 8 (.call 41 [] true),ko 3 (.alloc (Qa 20 (.int .u64 0))),ko 4 (.alloc (Qa 5 (.int .u64 0))),kq (.store 20 (kt 3) (kt 7)),kq (.store 5 (kt 4) (kt 8))] [0,2,3,4]) (.seq (.seq (kr [ko 9 (.move (kt 0)),ko 10 (.len false (kt 9)),ko 11 (.move (ki 0))] [2,3,4,9,10,11]) (.block 0 (.loop Qiu))) (.seq (kr [ko 20 (.load (some 20) (kt 3)),kq (.store 20 (kt 2) (kt 20))] [2]) .ret)))),[(2,(some (some 20)))]⟩
def a28:AFun:=⟨(.seq (kr [ko 2 (.box (kt 0)),ko 3 (.box (kt 1)),ko 4 (.move (.const (.bool false)))] [2,3]) (.seq (kr [ko 5 (.fieldAddr 0 (kt 2)),ko 6 (.load (some 5) (kt 5)),ko 7 (.fieldAddr 10 (kt 3)),ko 8 (.load (some 5) (kt 7)),ko 9 (.call 39 [(kt 6),(kt 8)] true),ko 10 (.fieldAddr 0 (kt 3)),ko 11 (.load (some 5) (kt 10)),ko 12 (.fieldAddr 10 (kt 2)),ko 13 (.load (some 5) (kt 12)),ko 14 (.call 39 [(kt 11),(kt 13)] true),ko 15 (.call 96 [(kt 9),(kt 14)] true),ko 16 (.move (kt 15)),.mk (some 17) (.fieldAddr 5 (kt 2)) (some (16,true)),.mk (some 18) (.load (some 5) (kt 17)) (some (16,true)),.mk (some 19) (.fieldAddr 10 (kt 3)) (some (16,true)),.mk (some 20) (.load (some 5) (kt 19)) (some (16,true)),.mk (some 21) (.call 39 [(kt 18),(kt 20)] true) (some (16,true)),.mk (some 22) (.fieldAddr 5 (kt 3)) (some (16,true)),.mk (some 23) (.load (some 5) (kt 22)) (some (16,true)),.mk (some 24) (.fieldAddr 10 (kt 2)) (some (16,true)),.mk (some 25) (.load (some 5) (kt 24)) (some (16,true)),.mk (some 26) (.call 39 [(kt 23),(kt 25)] true) (some (16,true)),.mk (some 27) (.call 96 [(kt 21),(kt 26)] true) (some (16,true)),ko 28 (.pick (kt 16) (kt 27) (.const (.bool false))),ko 4 (.move (kt 28))] [4]) .ret)),[(4,none)]⟩
def a29:AFun:=⟨(.seq (kr [ko 1 (.box (kt 0)),ko 2 (.alloc (Qa 32 (.int .u8 0)))] [1,2]) (.seq (kr [ko 5 (.fieldAddr 10 (kt 1)),ko 6 (.load (some 5) (kt 5)),ko 7 (.call 44 [(kt 6)] true),ko 3 (.alloc (Qa 5 (.int .u64 0))),kq (.store 5 (kt 3) (kt 7))] [1,2,3]) (.seq (kr [ko 8 (.fieldAddr 5 (kt 1)),ko 9 (.load (some 5) (kt 8)),ko 10 (.load (some 5) (kt 3)),ko 11 (.call 39 [(kt 9),(kt 10)] true),ko 12 (.call 45 [(kt 11)] true),ko 4 (.alloc (Qa 32 (.int .u8 0))),kq (.store 32 (kt 4) (kt 12))] [1,2,3,4]) (.seq (.seq (kr [ko 13 (.fieldAddr 0 (kt 1)),ko 14 (.load (some 5) (kt 13)),ko 15 (.load (some 5) (kt 3)),ko 16 (.call 39 [(kt 14),(kt 15)] true),ko 17 (.call 46 [(kt 16)] true)] [2,4,17]) (.cond (kt 17) (kr [ko 18 (.indexAddr 32 1 (kt 4) (ki 31)),ko 19 (.load none (kt 18)),ko 20 (.bin .or (kt 19) (.const (.int .u8 128))),ko 21 (.indexAddr 32 1 (kt 4) (ki 31)),kq (.store 1 (kt 21) (kt 20))] [2,4]) .skip)) (.seq (kr [ko 22 (.load (some 32) (kt 4)),kq (.store 32 (kt 2) (kt 22))] [2]) .ret))))),[(2,(some (some 32)))]⟩
def a30:AFun:=⟨(.seq (kr [ko 0 (.alloc (Qa 20 (.int .u64 0)))] [0]) (.seq (kr [ko 1 (.call 38 [(.const (.int .u32 1))] true),ko 2 (.call 38 [(.const (.int .u32 1))] true),ko 3 (.build (Qa 20 (.int .u64 0)) [(5,(5,(kt 1))),(10,(5,(kt 2)))]),kq (.store 20 (kt 0) (kt 3))] [0]) .ret)),[(0,(some (some 20)))]⟩
def a31:AFun:=⟨(.seq (kr [ko 1 (.box (kt 0)),ko 2 (.alloc (Qa 20 (.int .u64 0))),ko 3 (.move (ki 0))] [1,2]) (.seq (kr [ko 9 (.indexAddr 32 1 (kt 1) (ki 31)),ko 10 (.load none (kt 9)),ko 11 (.bin .shr (kt 10) (.const (.int .u64 7))),ko 12 (.bin .eql (kt 11) (.const (.int .u8 1))),ko 4 (.move (kt 12))] [1,2,4]) (.seq (kr [ko 13 (.indexAddr 32 1 (kt 1) (ki 31)),ko 14 (.load none (kt 13)),ko 15 (.bin .and (kt 14) (.const (.int .u8 127))),ko 16 (.indexAddr 32 1 (kt 1) (ki 31)),kq (.store 1 (kt 16) (kt 15))] [1,2,4]) (.seq (kr [ko 17 (.load (some 32) (kt 1)),ko 18 (.call 37 [(kt 17)] true),ko 5 (.alloc (Qa 5 (.int .u64 0))),kq (.store 5 (kt 5) (kt 18))] [1,2,4,5]) (.seq (.seq (kr [ko 19 (.load (some 32) (kt 1)),ko 20 (.call 61 [(kt 19)] true),ko 21 (.un .not (kt 20))] [2,4,5,21]) (.cond (kt 21) (.seq (kr [ko 22 (.build (Qa 20 (.int .u64 0)) []),kq (.store 20 (kt 2) (kt 22)),ko 3 (.move (ki 60))] [2,3]) .ret) .skip)) (.seq (kr [ko 23 (.load (some 5) (kt 5)),ko 24 (.load (some 5) (kt 5)),ko 25 (.call 39 [(kt 23),(kt 24)] true),ko 6 (.alloc (Qa 5 (.int .u64 0))),kq (.store 5 (kt 6) (kt 25))] [2,4,5,6]) (.seq (kr [ko 27 (.load (some 5) (kt 6)),ko 28 (.call 38 [(.const (.int .u32 1))] true),ko 29 (.call 63 [(kt 27),(kt 28)] true),ko 30 (.call 41 [] true),ko 31 (.load (some 5) (kt 6)),ko 32 (.call 39 [(kt 30),(kt 31)] true),ko 33 (.call 38 [(.const (.int .u32 1))] true),ko 34 (.buildSlice (Qa 10 (.int .u64 0)) 2 [(0,(5,(kt 32))),(5,(5,(kt 33)))]),ko 35 (.call 64 [(kt 34)] false),ko 36 (.call 62 [(kt 29),(kt 35)] true),ko 26 (.move (kt 36)),ko 37 (.extract (kt 26) 0),ko 38 (.extract (kt 26) 1),ko 7 (.alloc (Qa 5 (.int .u64 0))),kq (.store 5 (kt 7) (kt 37)),ko 8 (.move (kt 38))] [2,4,5,7,8]) (.seq (.seq (kr [ko 39 (.move (kt 8)),ko 40 (.un .not (kt 39)),ko 41 (.move (kt 40)),.mk (some 42) (.move (kt 4)) (some (41,false)),.mk (some 43) (.move (kt 42)) (some (41,false)),.mk (some 44) (.load (some 5) (kt 7)) (some (43,true)),.mk (some 45) (.call 65 [(kt 44)] true) (some (43,true)),.mk (some 46) (.pick (kt 43) (kt 45) (.const (.bool false))) (some (41,false)),ko 47 (.pick (kt 41) (.const (.bool true)) (kt 46))] [2,4,5,7,47]) (.cond (kt 47) (.seq (kr [ko 48 (.build (Qa 20 (.int .u64 0)) []),kq (.store 20 (kt 2) (kt 48)),ko 3 (.move (ki 60))] [2,3]) .ret) .skip)) (.seq (.seq (kr [ko 49 (.move (kt 4))] [2,5,7,49]) (.cond (kt 49) (kr [ko 50 (.load (some 5) (kt 7)),ko 51 (.call 66 [(kt 50)] true),kq (.store 5 (kt 7) (kt 51))] [2,5,7]) .skip)) (.seq (kr [ko 52 (.load (some 5) (kt 7)),ko 53 (.load (some 5) (kt 5)),ko 54 (.call 38 [(.const (.int .u32 1))] true),ko 55 (.load (some 5) (kt 7)),ko 56 (.load (some 5) (kt 5)),ko 57 (.call 39 [(kt 55),(kt 56)] true),ko 58 (.build (Qa 20 (.int .u64 0)) [(0,(5,(kt 52))),(5,(5,(kt 53))),(10,(5,(kt 54))),(15,(5,(kt 57)))]),kq (.store 20 (kt 2) (kt 58)),ko 3 (.move (ki 0))] [2,3]) .ret)))))))))),[(2,(some (some 20))),(3,none)]⟩
def a32:AFun:=⟨(.seq (kr [ko 1 (.box (kt 0)),ko 2 (.alloc (Qa 48 (.int .u64 0))),ko 3 (.move (ki 0))] [1,2]) (.seq (kr [ko 9 (.indexAddr 32 1 (kt 1) (ki 31)),ko 10 (.load none (kt 9)),ko 11 (.bin .geq (kt 10) (.const (.int .u8 128))),ko 4 (.move (kt 11))] [1,2,4]) (.seq (kr [ko 12 (.indexAddr 32 1 (kt 1) (ki 31)),ko 13 (.load none (kt 12)),ko 14 (.bin .rem (kt 13) (.const (.int .u8 128))),ko 15 (.indexAddr 32 1 (kt 1) (ki 31)),kq (.store 1 (kt 15) (kt 14))] [1,2,4]) (.seq (kr [ko 16 (.load (some 32) (kt 1)),ko 17 (.call 70 [(kt 16)] true),ko 5 (.alloc (Qa 16 (.int .u64 0))),kq (.store 16 (kt 5) (kt 17))] [1,2,4,5]) (.seq (.seq (kr [ko 18 (.load (some 16) (kt 5)),ko 19 (.call 56 [(kt 18)] true),ko 20 (.load (some 32) (kt 1)),ko 21 (.eqv (some (Qa 32 true)) true (kt 19) (kt 20))] [2,4,5,21]) (.cond (kt 21) (.seq (kr [ko 22 (.build (Qa 48 (.int .u64 0)) []),kq (.store 48 (kt 2) (kt 22)),ko 3 (.move (ki 60))] [2,3]) .ret) .skip)) (.seq (kr [ko 23 (.load (some 16) (kt 5)),ko 24 (.load (some 16) (kt 5)),ko 25 (.call 57 [(kt 23),(kt 24)] true),ko 6 (.alloc (Qa 16 (.int .u64 0))),kq (.store 16 (kt 6) (kt 25))] [2,4,5,6]) (.seq (kr [ko 27 (.load (some 16) (kt 6)),ko 28 (.call 59 [(.const (.int .u64 1))] true),ko 29 (.call 72 [(kt 27),(kt 28)] true),ko 30 (.call 34 [] true),ko 31 (.load (some 16) (kt 6)),ko 32 (.call 57 [(kt 30),(kt 31)] true),ko 33 (.call 59 [(.const (.int .u64 1))] true),ko 34 (.call 73 [(kt 32),(kt 33)] true),ko 35 (.call 55 [(kt 34)] true),ko 36 (.call 57 [(kt 29),(kt 35)] true),ko 37 (.call 71 [(kt 36)] true),ko 26 (.move (kt 37)),ko 38 (.extract (kt 26) 0),ko 39 (.extract (kt 26) 1),ko 7 (.alloc (Qa 16 (.int .u64 0))),kq (.store 16 (kt 7) (kt 38)),ko 8 (.move (kt 39))] [2,4,5,7,8]) (.seq (.seq (kr [ko 40 (.move (kt 8)),ko 41 (.un .not (kt 40)),ko 42 (.move (kt 41)),.mk (some 43) (.load (some 16) (kt 7)) (some (42,false)),.mk (some 44) (.build (Qa 16 (.int .u64 0)) []) (some (42,false)),.mk (some 45) (.eqv (some (Qa 16 true)) false (kt 43) (kt 44)) (some (42,false)),.mk (some 46) (.move (kt 45)) (some (42,false)),.mk (some 47) (.move (kt 4)) (some (46,true)),.mk (some 48) (.pick (kt 46) (kt 47) (.const (.bool false))) (some (42,false)),ko 49 (.pick (kt 42) (.const (.bool true)) (kt 48))] [2,4,5,7,49]) (.cond (kt 49) (.seq (kr [ko 50 (.build (Qa 48 (.int .u64 0)) []),kq (.store 48 (kt 2) (kt 50)),ko 3 (.move (ki 60))] [2,3]) .ret) .skip)) (.seq (.seq (kr [ko 51 (.indexAddr 16 1 (kt 7) (ki 0)),ko 52 (.load none (kt 51)),ko 53 (.bin .rem (kt 52) (.const (.int .u64 2))),ko 54 (.bin .eql (kt 53) (.const (.int .u64 1))),ko 55 (.move (kt 4)),ko 56 (.eqv none true (kt 54) (kt 55))] [2,5,7,56]) (.cond (kt 56) (kr [ko 57 (.load (some 16) (kt 7)),ko 58 (.call 74 [(kt 57)] true),kq (.store 16 (kt 7) (kt 58))] [2,5,7]) .skip)) (.seq (kr [ko 59 (.load (some 16) (kt 7)),ko 60 (.load (some 16) (kt 5)),ko 61 (.call 59 [(.const (.int .u64 1))] true),ko 62 (.build (Qa 48 (.int .u64 0)) [(0,(16,(kt 59))),(16,(16,(kt 60))),(32,(16,(kt 61)))]),kq (.store 48 (kt 2) (kt 62)),ko 3 (.move (ki 0))] [2,3]) .ret)))))))))),[(2,(some (some 48))),(3,none)]⟩
def a33:AFun:=⟨(.seq (kr [ko 1 (.box (kt 0)),ko 2 (.alloc (Qa 32 (.int .u8 0)))] [1,2]) (.seq (kr [ko 6 (.fieldAddr 32 (kt 1)),ko 7 (.load (some 16) (kt 6)),ko 8 (.call 55 [(kt 7)] true),ko 3 (.alloc (Qa 16 (.int .u64 0))),kq (.store 16 (kt 3) (kt 8))] [1,2,3]) (.seq (kr [ko 9 (.fieldAddr 16 (kt 1)),ko 10 (.load (some 16) (kt 9)),ko 11 (.load (some 16) (kt 3)),ko 12 (.call 57 [(kt 10),(kt 11)] true),ko 13 (.call 56 [(kt 12)] true),ko 4 (.alloc (Qa 32 (.int .u8 0))),kq (.store 32 (kt 4) (kt 13))] [1,2,3,4]) (.seq (kr [ko 14 (.fieldAddr 0 (kt 1)),ko 15 (.load (some 16) (kt 14)),ko 16 (.load (some 16) (kt 3)),ko 17 (.call 57 [(kt 15),(kt 16)] true),ko 18 (.call 56 [(kt 17)] true),ko 5 (.alloc (Qa 32 (.int .u8 0))),kq (.store 32 (kt 5) (kt 18))] [2,4,5]) (.seq (.seq (kr [ko 19 (.indexAddr 32 1 (kt 5) (ki 0)),ko 20 (.load none (kt 19)),ko 21 (.bin .rem (kt 20) (.const (.int .u8 2))),ko 22 (.bin .eql (kt 21) (.const (.int .u8 1)))] [2,4,22]) (.cond (kt 22) (kr [ko 23 (.indexAddr 32 1 (kt 4) (ki 31)),ko 24 (.load none (kt 23)),ko 25 (.bin .add (kt 24) (.const (.int .u8 128))),ko 26 (.indexAddr 32 1 (kt 4) (ki 31)),kq (.store 1 (kt 26) (kt 25))] [2,4]) .skip)) (.seq (kr [ko 27 (.load (some 32) (kt 4)),kq (.store 32 (kt 2) (kt 27))] [2]) .ret)))))),[(2,(some (some 32)))]⟩
def a34:AFun:=⟨(.seq (kr [ko 1 (.box (kt 0)),ko 2 (.alloc (Qa 20 (.int .u64 0)))] [1,2]) (.seq (kr [ko 3 (.fieldAddr 0 (kt 1)),ko 4 (.load (some 5) (kt 3)),ko 5 (.call 66 [(kt 4)] true),ko 6 (.fieldAddr 5 (kt 1)),ko 7 (.load (some 5) (kt 6)),ko 8 (.fieldAddr 10 (kt 1)),ko 9 (.load (some 5) (kt 8)),ko 10 (.fieldAddr 15 (kt 1)),ko 11 (.load (some 5) (kt 10)),ko 12 (.call 66 [(kt 11)] true),ko 13 (.build (Qa 20 (.int .u64 0)) [(0,(5,(kt 5))),(5,(5,(kt 7))),(10,(5,(kt 9))),(15,(5,(kt 12)))]),kq (.store 20 (kt 2) (kt 13))] [2]) .ret)),[(2,(some (some 20)))]⟩
def a35:AFun:=⟨(.seq (kr [ko 3 (.box (kt 0)),ko 4 (.box (kt 1)),ko 5 (.box (kt 2)),ko 6 (.alloc (Qa 48 (.int .u64 0)))] [3,4,5,6]) (.seq (kr [ko 15 (.fieldAddr 32 (kt 3)),ko 16 (.load (some 16) (kt 15)),ko 17 (.fieldAddr 32 (kt 4)),ko 18 (.load (some 16) (kt 17)),ko 19 (.call 57 [(kt 16),(kt 18)] true),ko 7 (.alloc (Qa 16 (.int .u64 0))),kq (.store 16 (kt 7) (kt 19))] [3,4,5,6,7]) (.seq (kr [ko 20 (.load (some 16) (kt 7)),ko 21 (.load (some 16) (kt 7)),ko 22 (.call 57 [(kt 20),(kt 21)] true),ko 8 (.alloc (Qa 16 (.int .u64 0))),kq (.store 16 (kt 8) (kt 22))] [3,4,5,6,7,8]) (.seq (kr [ko 23 (.fieldAddr 0 (kt 3)),ko 24 (.load (some 16) (kt 23)),ko 25 (.fieldAddr 0 (kt 4)),ko 26 (.load (some 16) (kt 25)),ko 27 (.call 57 [(kt 24),(kt 26)] true),ko 28 (.fieldAddr 16 (kt 3)),ko 29 (.load (some 16) (kt 28)),ko 30 (.fieldAddr 16 (kt 4)),ko 31 (.load (some 16) (kt 30)),ko 32 (.call 57 [(kt 29),(kt 31)] true),ko 9 (.alloc (Qa 16 (.int .u64 0))),ko 10 (.alloc (Qa 16 (.int .u64 0))),kq (.store 16 (kt 9) (kt 27)),kq (.store 16 (kt 10) (kt 32))] [3,4,5,6,7,8,9,10]) (.seq (kr [ko 33 (.load (some 16) (kt 5)),ko 34 (.load (some 16) (kt 9)),ko 35 (.load (some 16) (kt 10)),ko 36 (.call 57 [(kt 34),(kt 35)] true),ko 37 (.call 57 [(kt 33),(kt 36)] true),ko 11 (.alloc (Qa 16 (.int .u64 0))),kq (.store 16 (kt 11) (kt 37))] [3,4,6,7,8,9,10,11]) (.seq (kr [ko 38 (.load (some 16) (kt 8)),ko 39 (.load (some 16) (kt 11)),ko 40 (.call 72 [(kt 38),(kt 39)] true),ko 41 (.load (some 16) (kt 8)),ko 42 (.load (some 16) (kt 11)),ko 43 (.call 73 [(kt 41),(kt 42)] true),ko 12 (.alloc (Qa 16 (.int .u64 0))),ko 13 (.alloc (Qa 16 (.int .u64 0))),kq (.store 16 (kt 12) (kt 40)),kq (.store 16 (kt 13) (kt 43))] [3,4,6,7,9,10,12,13]) (.seq (kr [ko 44 (.fieldAddr 0 (kt 3)),ko 45 (.load (some 16) (kt 44)),ko 46 (.fieldAddr 16 (kt 3)),ko 47 (.load (some 16) (kt 46)),ko 48 (.call 73 [(kt 45),(kt 47)] true),ko 49 (.fieldAddr 0 (kt 4)),ko 50 (.load (some 16) (kt 49)),ko 51 (.fieldAddr 16 (kt 4)),ko 52 (.load (some 16) (kt 51)),ko 53 (.call 73 [(kt 50),(kt 52)] true),ko 54 (.call 57 [(kt 48),(kt 53)] true),ko 55 (.load (some 16) (kt 9)),ko 56 (.call 72 [(kt 54),(kt 55)] true),ko 57 (.load (some 16) (kt 10)),ko 58 (.call 72 [(kt 56),(kt 57)] true),ko 14 (.alloc (Qa 16 (.int .u64 0))),kq (.store 16 (kt 14) (kt 58))] [6,7,9,10,12,13,14]) (.seq (kr [ko 59 (.load (some 16) (kt 7)),ko 60 (.load (some 16) (kt 12)),ko 61 (.call 57 [(kt 59),(kt 60)] true),ko 62 (.load (some 16) (kt 14)),ko 63 (.call 57 [(kt 61),(kt 62)] true),ko 64 (.load (some 16) (kt 7)),ko 65 (.load (some 16) (kt 13)),ko 66 (.call 57 [(kt 64),(kt 65)] true),ko 67 (.load (some 16) (kt 10)),ko 68 (.load (some 16) (kt 9)),ko 69 (.call 73 [(kt 67),(kt 68)] true),ko 70 (.call 57 [(kt 66),(kt 69)] true),ko 71 (.load (some 16) (kt 12)),ko 72 (.load (some 16) (kt 13)),ko 73 (.call 57 [(kt 71),(kt 72)] true),ko 74 (.build (Qa 48 (.int .u64 0)) [(0,(16,(kt 63))),(16,(16,(kt 70))),(32,(16,(kt 73)))]),kq (.store 48 (kt 6) (kt 74))] [6]) .ret)))))))),[(6,(some (some 48)))]⟩
def a36:AFun:=⟨(.seq (kr [ko 0 (.alloc (Qa 16 (.int .u64 0)))] [0]) (.seq (kr [ko 1 (.call 59 [(.const (.int .u64 121665))] true),ko 2 (.call 74 [(kt 1)] true),ko 3 (.call 59 [(.const (.int .u64 121666))] true),ko 4 (.call 55 [(kt 3)] true),ko 5 (.call 57 [(kt 2),(kt 4)] true),kq (.store 16 (kt 0) (kt 5))] [0]) .ret)),[(0,(some (some 16)))]⟩
def a37:AFun:=⟨(.seq (kr [ko 0 (.alloc (Qa 48 (.int .u64 0)))] [0]) (.seq (kr [ko 4 (.call 59 [(.const (.int .u64 4))] true),ko 5 (.call 59 [(.const (.int .u64 5))] true),ko 6 (.call 55 [(kt 5)] true),ko 7 (.call 57 [(kt 4),(kt 6)] true),ko 8 (.call 56 [(kt 7)] true),ko 9 (.call 31 [(kt 8)] true),ko 3 (.move (kt 9)),ko 10 (.extract (kt 3) 0),ko 11 (.extract (kt 3) 1),ko 1 (.alloc (Qa 48 (.int .u64 0))),kq (.store 48 (kt 1) (kt 10)),ko 2 (.move (kt 11))] [0,1]) (.seq (kr [ko 12 (.load (some 48) (kt 1)),kq (.store 48 (kt 0) (kt 12))] [0]) .ret))),[(0,(some (some 48)))]⟩
def Qit:ACode:=(.seq (.seq (kr [ko 21 (.move (kt 9)),ko 22 (.move (kt 7)),ko 23 (.bin .rem (kt 22) (ki 8)),ko 24 (.bin .lss (kt 21) (kt 23))] [2,3,4,5,6,7,8,9,24]) (.cond (kt 24) .skip (.exit 2))) (.seq (.block 3 (kr [ko 27 (.move (kt 8)),ko 28 (.bin .quo (kt 27) (ki 2)),ko 8 (.move (kt 28))] [2,3,4,5,6,7,8,9])) (kr [ko 25 (.move (kt 9)),ko 26 (.bin .add (kt 25) (ki 1)),ko 9 (.move (kt 26))] [2,3,4,5,6,7,8,9])))
def Qe6:ACode:=(.seq (.seq (kr [ko 12 (.move (kt 7)),ko 13 (.bin .lss (kt 12) (ki 256))] [2,3,4,5,6,7,13]) (.cond (kt 13) .skip (.exit 0))) (.seq (.block 1 (.seq (kr [ko 16 (.move (kt 7)),ko 17 (.bin .quo (kt 16) (ki 8)),ko 18 (.indexAddr 32 1 (kt 2) (kt 17)),ko 19 (.load none (kt 18)),ko 20 (.conv .i64 (kt 19)),ko 8 (.move (kt 20))] [2,3,4,5,6,7,8]) (.seq (.seq (kr [ko 9 (.move (ki 0))] [2,3,4,5,6,7,8,9]) (.block 2 (.loop Qit))) (.seq (.seq (kr [ko 29 (.move (kt 8)),ko 30 (.bin .rem (kt 29) (ki 2)),ko 31 (.bin .eql (kt 30) (ki 1))] [2,3,4,5,6,7,31]) (.cond (kt 31) (kr [ko 32 (.load (some 48) (kt 5)),ko 33 (.load (some 48) (kt 3)),ko 34 (.load (some 16) (kt 6)),ko 35 (.call 33 [(kt 32),(kt 33),(kt 34)] true),kq (.store 48 (kt 5) (kt 35))] [2,3,4,5,6,7]) .skip)) (kr [ko 36 (.load (some 48) (kt 3)),ko 37 (.load (some 48) (kt 3)),ko 38 (.load (some 16) (kt 6)),ko 39 (.call 33 [(kt 36),(kt 37),(kt 38)] true),kq (.store 48 (kt 3) (kt 39))] [2,3,4,5,6,7]))))) (kr [ko 14 (.move (kt 7)),ko 15 (.bin .add (kt 14) (ki 1)),ko 7 (.move (kt 15))] [2,3,4,5,6,7])))
def a38:AFun:=⟨(.seq (kr [ko 2 (.box (kt 0)),ko 3 (.box (kt 1)),ko 4 (.alloc (Qa 48 (.int .u64 0)))] [2,3,4]) (.seq (kr [ko 10 (.call 58 [] true),ko 5 (.alloc (Qa 48 (.int .u64 0))),kq (.store 48 (kt 5) (kt 10))] [2,3,4,5]) (.seq (kr [ko 11 (.call 34 [] true),ko 6 (.alloc (Qa 16 (.int .u64 0))),kq (.store 16 (kt 6) (kt 11))] [2,3,4,5,6]) (.seq (.seq (kr [ko 7 (.move (ki 0))] [2,3,4,5,6,7]) (.block 0 (.loop Qe6))) (.seq (kr [ko 40 (.load (some 48) (kt 5)),kq (.store 48 (kt 4) (kt 40))] [4]) .ret))))),[(4,(some (some 48)))]⟩
def a39:AFun:=⟨(.seq (kr [ko 1 (.box (kt 0)),ko 2 (.move (.const (.bool false)))] [1]) (.seq (kr [ko 3 (.load (some 20) (kt 1)),ko 4 (.call 42 [(kt 3)] true),ko 5 (.call 42 [(kt 4)] true),ko 6 (.call 42 [(kt 5)] true),ko 7 (.call 40 [] true),ko 8 (.call 67 [(kt 6),(kt 7)] true),ko 2 (.move (kt 8))] [2]) .ret)),[(2,none)]⟩
def Qck:ACode:=(.seq (kr [ko 14 (.bin .lss (kt 13) (kt 12))] [3,11,12,13,14]) (.seq (.cond (kt 14) .skip (.exit 0)) (.seq (.block 1 (.seq (kr [ko 15 (.move (kt 13)),ko 16 (.indexSl 1 (kt 11) (kt 13)),ko 17 (.load none (kt 16)),ko 4 (.move (kt 15)),ko 5 (.move (kt 17))] [3,4,5,11,12,13]) (kr [ko 18 (.move (kt 3)),ko 19 (.move (kt 4)),ko 20 (.bin .quo (kt 19) (ki 4)),ko 21 (.indexSl 1 (kt 18) (kt 20)),ko 22 (.load none (kt 21)),ko 23 (.move (kt 5)),ko 24 (.conv .u32 (kt 23)),ko 25 (.move (kt 4)),ko 26 (.bin .rem (kt 25) (ki 4)),ko 27 (.bin .mul (ki 8) (kt 26)),ko 28 (.bin .shl (kt 24) (kt 27)),ko 29 (.bin .or (kt 22) (kt 28)),ko 30 (.indexSl 1 (kt 18) (kt 20)),kq (.store 1 (kt 30) (kt 29))] [3,11,12,13]))) (kr [ko 31 (.bin .add (kt 13) (ki 1)),ko 13 (.move (kt 31))] [3,11,12,13]))))
def a40:AFun:=⟨(.seq (kr [ko 2 (.move (.const (.slice none 0 0)))] [0]) (.seq (kr [ko 6 (.move (kt 0)),ko 7 (.len false (kt 6)),ko 8 (.bin .add (kt 7) (ki 3)),ko 9 (.bin .quo (kt 8) (ki 4)),ko 10 (.makeSlice [(.int .u32 0)] 4 (kt 9) (kt 9)),ko 3 (.move (kt 10))] [0,3]) (.seq (.seq (kr [ko 11 (.move (kt 0)),ko 12 (.len false (kt 11)),ko 13 (.move (ki 0))] [3,11,12,13]) (.block 0 (.loop Qck))) (.seq (kr [ko 32 (.move (kt 3)),ko 2 (.move (kt 32))] [2]) .ret)))),[(2,none)]⟩
def Mq:ACode:=(.seq (kr [ko 55 (.bin .lss (kt 54) (kt 53))] [0,3,4,5,6,9,53,54,55]) (.seq (.cond (kt 55) .skip (.exit 4)) (.seq (.block 5 (.seq (kr [ko 56 (.move (kt 54)),ko 10 (.move (kt 56))] [0,3,4,5,6,9,10,53,54]) (kr [ko 58 (.move (kt 5)),ko 59 (.move (kt 10)),ko 60 (.move (kt 3)),ko 61 (.move (kt 10)),ko 62 (.indexSl 1 (kt 60) (kt 61)),ko 63 (.load none (kt 62)),ko 64 (.move (kt 4)),ko 65 (.move (kt 10)),ko 66 (.indexSl 1 (kt 64) (kt 65)),ko 67 (.load none (kt 66)),ko 68 (.move (kt 9)),ko 69 (.call 89 [(kt 63),(kt 67),(kt 68)] true),ko 57 (.move (kt 69)),ko 70 (.extract (kt 57) 0),ko 71 (.extract (kt 57) 1),ko 72 (.indexSl 1 (kt 58) (kt 59)),kq (.store 1 (kt 72) (kt 70)),ko 9 (.move (kt 71))] [0,3,4,5,6,9,53,54]))) (kr [ko 73 (.bin .add (kt 54) (ki 1)),ko 54 (.move (kt 73))] [0,3,4,5,6,9,53,54]))))
def Mp:ACode:=(.seq (kr [ko 34 (.bin .lss (kt 33) (kt 32))] [0,3,4,5,6,7,32,33,34]) (.seq (.cond (kt 34) .skip (.exit 2)) (.seq (.block 3 (.seq (kr [ko 35 (.move (kt 33)),ko 8 (.move (kt 35))] [0,3,4,5,6,7,8,32,33]) (kr [ko 36 (.move (kt 3)),ko 37 (.move (kt 8)),ko 38 (.move (kt 3)),ko 39 (.move (kt 8)),ko 40 (.indexSl 1 (kt 38) (kt 39)),ko 41 (.load none (kt 40)),ko 42 (.bin .shl (kt 41) (.const (.int .u64 1))),ko 43 (.move (kt 7)),ko 44 (.bin .or (kt 42) (kt 43)),ko 45 (.move (kt 3)),ko 46 (.move (kt 8)),ko 47 (.indexSl 1 (kt 45) (kt 46)),ko 48 (.load none (kt 47)),ko 49 (.bin .shr (kt 48) (.const (.int .u64 31))),ko 50 (.indexSl 1 (kt 36) (kt 37)),kq (.store 1 (kt 50) (kt 44)),ko 7 (.move (kt 49))] [0,3,4,5,6,7,32,33]))) (kr [ko 51 (.bin .add (kt 33) (ki 1)),ko 33 (.move (kt 51))] [0,3,4,5,6,7,32,33]))))
def Hb:ACode:=(.seq (.seq (kr [ko 18 (.move (kt 6)),ko 19 (.bin .geq (kt 18) (ki 0))] [0,3,4,5,6,19]) (.cond (kt 19) .skip (.exit 0))) (.seq (.block 1 (.seq (kr [ko 22 (.move (kt 0)),ko 23 (.move (kt 6)),ko 24 (.bin .quo (kt 23) (ki 32)),ko 25 (.indexSl 1 (kt 22) (kt 24)),ko 26 (.load none (kt 25)),ko 27 (.move (kt 6)),ko 28 (.bin .rem (kt 27) (ki 32)),ko 29 (.bin .shr (kt 26) (kt 28)),ko 30 (.bin .and (kt 29) (.const (.int .u32 1))),ko 7 (.move (kt 30))] [0,3,4,5,6,7]) (.seq (.seq (kr [ko 31 (.move (kt 3)),ko 32 (.len false (kt 31)),ko 33 (.move (ki 0))] [0,3,4,5,6,7,32,33]) (.block 2 (.loop Mp))) (.seq (kr [ko 9 (.move (.const (.int .u32 0)))] [0,3,4,5,6,9]) (.seq (.seq (kr [ko 52 (.move (kt 3)),ko 53 (.len false (kt 52)),ko 54 (.move (ki 0))] [0,3,4,5,6,9,53,54]) (.block 4 (.loop Mq))) (.seq (kr [ko 74 (.move (kt 9)),ko 75 (.bin .eql (kt 74) (.const (.int .u32 0)))] [0,3,4,5,6,75]) (.cond (kt 75) (kr [ko 76 (.move (kt 5)),ko 77 (.move (kt 3)),ko 3 (.move (kt 76)),ko 5 (.move (kt 77))] [0,3,4,5,6]) .skip))))))) (kr [ko 20 (.move (kt 6)),ko 21 (.bin .sub (kt 20) (ki 1)),ko 6 (.move (kt 21))] [0,3,4,5,6])))
def a41:AFun:=⟨(.seq (kr [ko 2 (.move (.const (.slice none 0 0)))] [0]) (.seq (kr [ko 11 (.makeSlice [(.int .u32 0)] 4 (ki 8) (ki 8)),ko 12 (.call 69 [] false),ko 13 (.makeSlice [(.int .u32 0)] 4 (ki 8) (ki 8)),ko 3 (.move (kt 11)),ko 4 (.move (kt 12)),ko 5 (.move (kt 13))] [0,3,4,5]) (.seq (.seq (kr [ko 14 (.move (kt 0)),ko 15 (.len false (kt 14)),ko 16 (.bin .mul (ki 32) (kt 15)),ko 17 (.bin .sub (kt 16) (ki 1)),ko 6 (.move (kt 17))] [0,3,4,5,6]) (.block 0 (.loop Hb))) (.seq (kr [ko 78 (.move (kt 3)),ko 2 (.move (kt 78))] [2]) .ret)))),[(2,none)]⟩
def Qis:ACode:=(.seq (kr [ko 6 (.bin .lss (kt 5) (ki 32))] [0,2,3,5,6]) (.seq (.cond (kt 6) .skip (.exit 0)) (.seq (.block 1 (.seq (kr [ko 7 (.move (kt 5)),ko 4 (.move (kt 7))] [0,2,3,4,5]) (kr [ko 8 (.move (kt 4)),ko 9 (.move (kt 0)),ko 10 (.move (kt 4)),ko 11 (.bin .quo (kt 10) (ki 4)),ko 12 (.indexSl 1 (kt 9) (kt 11)),ko 13 (.load none (kt 12)),ko 14 (.move (kt 4)),ko 15 (.bin .rem (kt 14) (ki 4)),ko 16 (.bin .mul (ki 8) (kt 15)),ko 17 (.bin .shr (kt 13) (kt 16)),ko 18 (.conv .u8 (kt 17)),ko 19 (.indexAddr 32 1 (kt 3) (kt 8)),kq (.store 1 (kt 19) (kt 18))] [0,2,3,5]))) (kr [ko 20 (.bin .add (kt 5) (ki 1)),ko 5 (.move (kt 20))] [0,2,3,5]))))
def a42:AFun:=⟨(.seq (kr [ko 2 (.alloc (Qa 32 (.int .u8 0)))] [0,2]) (.seq (kr [ko 3 (.alloc (Qa 32 (.int .u8 0)))] [0,2,3]) (.seq (.seq (kr [ko 5 (.move (ki 0))] [0,2,3,5]) (.block 0 (.loop Qis))) (.seq (kr [ko 21 (.load (some 32) (kt 3)),kq (.store 32 (kt 2) (kt 21))] [2]) .ret)))),[(2,(some (some 32)))]⟩
def Qir:ACode:=(.seq (.seq (kr [ko 85 (.move (kt 12)),ko 86 (.bin .lss (kt 85) (ki 32))] [2,3,11,12,86]) (.cond (kt 86) .skip (.exit 10))) (.seq (.block 11 (kr [ko 89 (.move (kt 12)),ko 90 (.move (kt 3)),ko 91 (.move (kt 12)),ko 92 (.indexSl 1 (kt 90) (kt 91)),ko 93 (.load none (kt 92)),ko 94 (.conv .u8 (kt 93)),ko 95 (.indexAddr 32 1 (kt 11) (kt 89)),kq (.store 1 (kt 95) (kt 94))] [2,3,11,12])) (kr [ko 87 (.move (kt 12)),ko 88 (.bin .add (kt 87) (ki 1)),ko 12 (.move (kt 88))] [2,3,11,12])))
def Ql0:ACode:=(.seq (.seq (kr [ko 74 (.move (kt 10)),ko 75 (.bin .lss (kt 74) (ki 0))] [0,2,3,4,5,7,8,9,10,75]) (.cond (kt 75) .skip (.exit 8))) (.block 9 (.seq (kr [ko 76 (.move (kt 10)),ko 77 (.bin .add (kt 76) (ki 256)),ko 10 (.move (kt 77))] [0,2,3,4,5,7,8,9,10]) (kr [ko 78 (.move (kt 8)),ko 79 (.bin .add (kt 78) (ki 1)),ko 8 (.move (kt 79))] [0,2,3,4,5,7,8,9,10]))))
def Qcj:ACode:=(.seq (.seq (kr [ko 57 (.move (kt 9)),ko 58 (.bin .lss (kt 57) (ki 33))] [0,2,3,4,5,7,8,9,58]) (.cond (kt 58) .skip (.exit 6))) (.seq (.block 7 (.seq (kr [ko 61 (.move (kt 3)),ko 62 (.move (kt 9)),ko 63 (.indexSl 1 (kt 61) (kt 62)),ko 64 (.load none (kt 63)),ko 65 (.move (kt 7)),ko 66 (.move (kt 4)),ko 67 (.move (kt 9)),ko 68 (.indexSl 1 (kt 66) (kt 67)),ko 69 (.load none (kt 68)),ko 70 (.bin .mul (kt 65) (kt 69)),ko 71 (.bin .sub (kt 64) (kt 70)),ko 72 (.move (kt 8)),ko 73 (.bin .sub (kt 71) (kt 72)),ko 10 (.move (kt 73))] [0,2,3,4,5,7,9,10]) (.seq (kr [ko 8 (.move (ki 0))] [0,2,3,4,5,7,8,9,10]) (.seq (.block 8 (.loop Ql0)) (kr [ko 80 (.move (kt 3)),ko 81 (.move (kt 9)),ko 82 (.move (kt 10)),ko 83 (.indexSl 1 (kt 80) (kt 81)),kq (.store 1 (kt 83) (kt 82))] [0,2,3,4,5,7,8,9]))))) (kr [ko 59 (.move (kt 9)),ko 60 (.bin .add (kt 59) (ki 1)),ko 9 (.move (kt 60))] [0,2,3,4,5,7,8,9])))
def Qci:ACode:=(.seq (.seq (kr [ko 42 (.move (kt 3)),ko 43 (.move (kt 4)),ko 44 (.call 75 [(kt 42),(kt 43)] false),ko 45 (.un .not (kt 44))] [0,2,3,4,5,45]) (.cond (kt 45) .skip (.exit 4))) (.block 5 (.seq (kr [ko 46 (.move (kt 3)),ko 47 (.indexSl 1 (kt 46) (ki 32)),ko 48 (.load none (kt 47)),ko 49 (.bin .mul (kt 48) (ki 256)),ko 50 (.move (kt 3)),ko 51 (.indexSl 1 (kt 50) (ki 31)),ko 52 (.load none (kt 51)),ko 53 (.bin .add (kt 49) (kt 52)),ko 54 (.bin .quo (kt 53) (ki 17)),ko 7 (.move (kt 54))] [0,2,3,4,5,7]) (.seq (.seq (kr [ko 55 (.move (kt 7)),ko 56 (.bin .lss (kt 55) (ki 1))] [0,2,3,4,5,7,56]) (.cond (kt 56) (kr [ko 7 (.move (ki 1))] [0,2,3,4,5,7]) .skip)) (.seq (kr [ko 8 (.move (ki 0))] [0,2,3,4,5,7,8]) (.seq (kr [ko 9 (.move (ki 0))] [0,2,3,4,5,7,8,9]) (.block 6 (.loop Qcj))))))))
def Qiq:ACode:=(.seq (.seq (kr [ko 24 (.move (kt 6)),ko 25 (.bin .gtr (kt 24) (ki 0))] [0,2,3,4,5,6,25]) (.cond (kt 25) .skip (.exit 2))) (.seq (.block 3 (kr [ko 28 (.move (kt 3)),ko 29 (.move (kt 6)),ko 30 (.move (kt 3)),ko 31 (.move (kt 6)),ko 32 (.bin .sub (kt 31) (ki 1)),ko 33 (.indexSl 1 (kt 30) (kt 32)),ko 34 (.load none (kt 33)),ko 35 (.indexSl 1 (kt 28) (kt 29)),kq (.store 1 (kt 35) (kt 34))] [0,2,3,4,5,6])) (kr [ko 26 (.move (kt 6)),ko 27 (.bin .sub (kt 26) (ki 1)),ko 6 (.move (kt 27))] [0,2,3,4,5,6])))
def Qip:ACode:=(.seq (.seq (kr [ko 20 (.move (kt 5)),ko 21 (.bin .geq (kt 20) (ki 0))] [0,2,3,4,5,21]) (.cond (kt 21) .skip (.exit 0))) (.seq (.block 1 (.seq (.seq (kr [ko 6 (.move (ki 32))] [0,2,3,4,5,6]) (.block 2 (.loop Qiq))) (.seq (kr [ko 36 (.move (kt 3)),ko 37 (.move (kt 0)),ko 38 (.move (kt 5)),ko 39 (.indexSl 1 (kt 37) (kt 38)),ko 40 (.load none (kt 39)),ko 41 (.indexSl 1 (kt 36) (ki 0)),kq (.store 1 (kt 41) (kt 40))] [0,2,3,4,5]) (.block 4 (.loop Qci))))) (kr [ko 22 (.move (kt 5)),ko 23 (.bin .sub (kt 22) (ki 1)),ko 5 (.move (kt 23))] [0,2,3,4,5])))
def a43:AFun:=⟨(.seq (kr [ko 2 (.alloc (Qa 32 (.int .u8 0)))] [0,2]) (.seq (kr [ko 13 (.makeSlice [(.int .i64 0)] 8 (ki 33) (ki 33)),ko 3 (.move (kt 13))] [0,2,3]) (.seq (kr [ko 14 (.call 76 [] false),ko 15 (.buildSlice [(.int .i64 0)] 1 [(0,(1,(ki 0)))]),ko 16 (.append 1 8 (kt 14) (kt 15)),ko 4 (.move (kt 16))] [0,2,3,4]) (.seq (.seq (kr [ko 17 (.move (kt 0)),ko 18 (.len false (kt 17)),ko 19 (.bin .sub (kt 18) (ki 1)),ko 5 (.move (kt 19))] [0,2,3,4,5]) (.block 0 (.loop Qip))) (.seq (kr [ko 84 (.build (Qa 32 (.int .u8 0)) []),ko 11 (.alloc (Qa 32 (.int .u8 0))),kq (.store 32 (kt 11) (kt 84))] [2,3,11]) (.seq (.seq (kr [ko 12 (.move (ki 0))] [2,3,11,12]) (.block 10 (.loop Qir))) (.seq (kr [ko 96 (.load (some 32) (kt 11)),kq (.store 32 (kt 2) (kt 96))] [2]) .ret))))))),[(2,(some (some 32)))]⟩
def Qio:ACode:=(.seq (kr [ko 27 (.bin .lss (kt 26) (kt 25))] [1,5,6,7,8,17,18,19,24,25,26,27]) (.seq (.cond (kt 27) .skip (.exit 2)) (.seq (.block 3 (.seq (kr [ko 28 (.move (kt 26)),ko 29 (.indexSl 1 (kt 24) (kt 26)),ko 30 (.load none (kt 29)),ko 9 (.move (kt 28)),ko 10 (.move (kt 30))] [1,5,6,7,8,9,10,17,18,19,24,25,26]) (.seq (kr [ko 31 (.move (kt 8)),ko 32 (.move (kt 5)),ko 33 (.move (kt 6)),ko 34 (.move (kt 9)),ko 35 (.bin .add (kt 33) (kt 34)),ko 36 (.indexSl 1 (kt 32) (kt 35)),ko 37 (.load none (kt 36)),ko 38 (.conv .u64 (kt 37)),ko 39 (.move (kt 7)),ko 40 (.conv .u64 (kt 39)),ko 41 (.move (kt 10)),ko 42 (.conv .u64 (kt 41)),ko 43 (.bin .mul (kt 40) (kt 42)),ko 44 (.bin .add (kt 38) (kt 43)),ko 45 (.bin .add (kt 31) (kt 44)),ko 8 (.move (kt 45))] [1,5,6,7,8,9,17,18,19,24,25,26]) (.seq (kr [ko 46 (.move (kt 5)),ko 47 (.move (kt 6)),ko 48 (.move (kt 9)),ko 49 (.bin .add (kt 47) (kt 48)),ko 50 (.move (kt 8)),ko 51 (.conv .u32 (kt 50)),ko 52 (.indexSl 1 (kt 46) (kt 49)),kq (.store 1 (kt 52) (kt 51))] [1,5,6,7,8,17,18,19,24,25,26]) (kr [ko 53 (.move (kt 8)),ko 54 (.bin .shr (kt 53) (.const (.int .u64 32))),ko 8 (.move (kt 54))] [1,5,6,7,8,17,18,19,24,25,26]))))) (kr [ko 55 (.bin .add (kt 26) (ki 1)),ko 26 (.move (kt 55))] [1,5,6,7,8,17,18,19,24,25,26]))))
def Qin:ACode:=(.seq (kr [ko 20 (.bin .lss (kt 19) (kt 18))] [1,5,17,18,19,20]) (.seq (.cond (kt 20) .skip (.exit 0)) (.seq (.block 1 (.seq (kr [ko 21 (.move (kt 19)),ko 22 (.indexSl 1 (kt 17) (kt 19)),ko 23 (.load none (kt 22)),ko 6 (.move (kt 21)),ko 7 (.move (kt 23))] [1,5,6,7,17,18,19]) (.seq (kr [ko 8 (.move (.const (.int .u64 0)))] [1,5,6,7,8,17,18,19]) (.seq (.seq (kr [ko 24 (.move (kt 1)),ko 25 (.len false (kt 24)),ko 26 (.move (ki 0))] [1,5,6,7,8,17,18,19,24,25,26]) (.block 2 (.loop Qio))) (kr [ko 56 (.move (kt 5)),ko 57 (.move (kt 6)),ko 58 (.move (kt 1)),ko 59 (.len false (kt 58)),ko 60 (.bin .add (kt 57) (kt 59)),ko 61 (.move (kt 8)),ko 62 (.conv .u32 (kt 61)),ko 63 (.indexSl 1 (kt 56) (kt 60)),kq (.store 1 (kt 63) (kt 62))] [1,5,17,18,19]))))) (kr [ko 64 (.bin .add (kt 19) (ki 1)),ko 19 (.move (kt 64))] [1,5,17,18,19]))))
def a44:AFun:=⟨(.seq (kr [ko 4 (.move (.const (.slice none 0 0)))] [0,1]) (.seq (kr [ko 11 (.move (kt 0)),ko 12 (.len false (kt 11)),ko 13 (.move (kt 1)),ko 14 (.len false (kt 13)),ko 15 (.bin .add (kt 12) (kt 14)),ko 16 (.makeSlice [(.int .u32 0)] 4 (kt 15) (kt 15)),ko 5 (.move (kt 16))] [0,1,5]) (.seq (.seq (kr [ko 17 (.move (kt 0)),ko 18 (.len false (kt 17)),ko 19 (.move (ki 0))] [1,5,17,18,19]) (.block 0 (.loop Qin))) (.seq (kr [ko 65 (.move (kt 5)),ko 4 (.move (kt 65))] [4]) .ret)))),[(4,none)]⟩
def Qaq:ACode:=(.seq (kr [ko 21 (.bin .lss (kt 20) (kt 19))] [1,5,6,19,20,21]) (.seq (.cond (kt 21) .skip (.exit 0)) (.seq (.block 1 (.seq (kr [ko 22 (.move (kt 20)),ko 7 (.move (kt 22))] [1,5,6,7,19,20]) (.seq (kr [ko 8 (.move (.const (.int .u32 0)))] [1,5,6,7,8,19,20]) (.seq (.seq (kr [ko 23 (.move (kt 7)),ko 24 (.move (kt 1)),ko 25 (.len false (kt 24)),ko 26 (.bin .lss (kt 23) (kt 25))] [1,5,6,7,8,19,20,26]) (.cond (kt 26) (kr [ko 27 (.move (kt 1)),ko 28 (.move (kt 7)),ko 29 (.indexSl 1 (kt 27) (kt 28)),ko 30 (.load none (kt 29)),ko 8 (.move (kt 30))] [1,5,6,7,8,19,20]) .skip)) (kr [ko 32 (.move (kt 5)),ko 33 (.move (kt 7)),ko 34 (.move (kt 5)),ko 35 (.move (kt 7)),ko 36 (.indexSl 1 (kt 34) (kt 35)),ko 37 (.load none (kt 36)),ko 38 (.move (kt 8)),ko 39 (.move (kt 6)),ko 40 (.call 88 [(kt 37),(kt 38),(kt 39)] true),ko 31 (.move (kt 40)),ko 41 (.extract (kt 31) 0),ko 42 (.extract (kt 31) 1),ko 43 (.indexSl 1 (kt 32) (kt 33)),kq (.store 1 (kt 43) (kt 41)),ko 6 (.move (kt 42))] [1,5,6,19,20]))))) (kr [ko 44 (.bin .add (kt 20) (ki 1)),ko 20 (.move (kt 44))] [1,5,6,19,20]))))
def a45:AFun:=⟨(.seq (kr [ko 4 (.move (.const (.slice none 0 0)))] [0,1]) (.seq (kr [ko 9 (.move (kt 0)),ko 10 (.len false (kt 9)),ko 11 (.bin .add (kt 10) (ki 1)),ko 12 (.makeSlice [(.int .u32 0)] 4 (ki 0) (kt 11)),ko 13 (.move (kt 0)),ko 14 (.append 1 4 (kt 12) (kt 13)),ko 5 (.move (kt 14))] [1,5]) (.seq (kr [ko 15 (.move (kt 5)),ko 16 (.buildSlice [(.int .u32 0)] 1 [(0,(1,(.const (.int .u32 0))))]),ko 17 (.append 1 4 (kt 15) (kt 16)),ko 5 (.move (kt 17))] [1,5]) (.seq (kr [ko 6 (.move (.const (.int .u32 0)))] [1,5,6]) (.seq (.seq (kr [ko 18 (.move (kt 5)),ko 19 (.len false (kt 18)),ko 20 (.move (ki 0))] [1,5,6,19,20]) (.block 0 (.loop Qaq))) (.seq (kr [ko 45 (.move (kt 5)),ko 4 (.move (kt 45))] [4]) .ret)))))),[(4,none)]⟩
def Qim:ACode:=(.seq (kr [ko 10 (.bin .lss (kt 9) (kt 8))] [0,1,5,8,9,10]) (.seq (.cond (kt 10) .skip (.exit 0)) (.seq (.block 1 (.seq (kr [ko 11 (.move (kt 9)),ko 6 (.move (kt 11))] [0,1,5,6,8,9]) (kr [ko 13 (.move (kt 0)),ko 14 (.move (kt 6)),ko 15 (.indexSl 1 (kt 13) (kt 14)),ko 16 (.load none (kt 15)),ko 17 (.move (kt 1)),ko 18 (.move (kt 6)),ko 19 (.indexSl 1 (kt 17) (kt 18)),ko 20 (.load none (kt 19)),ko 21 (.move (kt 5)),ko 22 (.call 89 [(kt 16),(kt 20),(kt 21)] true),ko 12 (.move (kt 22)),ko 23 (.extract (kt 12) 0),ko 24 (.extract (kt 12) 1),ko 5 (.move (kt 24))] [0,1,5,8,9]))) (kr [ko 25 (.bin .add (kt 9) (ki 1)),ko 9 (.move (kt 25))] [0,1,5,8,9]))))
def a46:AFun:=⟨(.seq (kr [ko 4 (.move (.const (.bool false)))] [0,1]) (.seq (kr [ko 5 (.move (.const (.int .u32 0)))] [0,1,5]) (.seq (.seq (kr [ko 7 (.move (kt 0)),ko 8 (.len false (kt 7)),ko 9 (.move (ki 0))] [0,1,5,8,9]) (.block 0 (.loop Qim))) (.seq (kr [ko 26 (.move (kt 5)),ko 27 (.bin .eql (kt 26) (.const (.int .u32 1))),ko 4 (.move (kt 27))] [4]) .ret)))),[(4,none)]⟩
def a47:AFun:=⟨(.seq (kr [ko 0 (.move (.const (.slice none 0 0)))] []) (.seq (kr [ko 1 (.buildSlice (Qa 8 (.int .u32 0)) 8 [(0,(1,(.const (.int .u32 1559614445)))),(1,(1,(.const (.int .u32 1477600026)))),(2,(1,(.const (.int .u32 2734136534)))),(3,(1,(.const (.int .u32 350157278)))),(4,(1,(.const (.int .u32 0)))),(5,(1,(.const (.int .u32 0)))),(6,(1,(.const (.int .u32 0)))),(7,(1,(.const (.int .u32 268435456))))]),ko 0 (.move (kt 1))] [0]) .ret)),[(0,none)]⟩
def Qil:ACode:=(.seq (.seq (kr [ko 9 (.move (kt 5)),ko 10 (.bin .geq (kt 9) (ki 0))] [0,1,5,10]) (.cond (kt 10) .skip (.exit 0))) (.seq (.block 1 (.seq (kr [ko 13 (.move (kt 0)),ko 14 (.move (kt 5)),ko 15 (.indexSl 1 (kt 13) (kt 14)),ko 16 (.load none (kt 15)),ko 17 (.move (kt 1)),ko 18 (.move (kt 5)),ko 19 (.indexSl 1 (kt 17) (kt 18)),ko 20 (.load none (kt 19)),ko 21 (.bin .neq (kt 16) (kt 20))] [0,1,5,21]) (.cond (kt 21) (.seq (kr [ko 22 (.move (kt 0)),ko 23 (.move (kt 5)),ko 24 (.indexSl 1 (kt 22) (kt 23)),ko 25 (.load none (kt 24)),ko 26 (.move (kt 1)),ko 27 (.move (kt 5)),ko 28 (.indexSl 1 (kt 26) (kt 27)),ko 29 (.load none (kt 28)),ko 30 (.bin .lss (kt 25) (kt 29)),ko 4 (.move (kt 30))] [4]) .ret) .skip))) (kr [ko 11 (.move (kt 5)),ko 12 (.bin .sub (kt 11) (ki 1)),ko 5 (.move (kt 12))] [0,1,5])))
def a48:AFun:=⟨(.seq (kr [ko 4 (.move (.const (.bool false)))] [0,1]) (.seq (.seq (kr [ko 6 (.move (kt 0)),ko 7 (.len false (kt 6)),ko 8 (.bin .sub (kt 7) (ki 1)),ko 5 (.move (kt 8))] [0,1,5]) (.block 0 (.loop Qil))) (.seq (kr [ko 4 (.move (.const (.bool false)))] [4]) .ret))),[(4,none)]⟩
def Qik:ACode:=(.seq (kr [ko 6 (.bin .lss (kt 5) (ki 255))] [1,2,3,5,6]) (.seq (.cond (kt 6) .skip (.exit 0)) (.seq (.block 1 (.seq (kr [ko 7 (.move (kt 5)),ko 4 (.move (kt 7))] [1,2,3,4,5]) (kr [ko 8 (.move (kt 4)),ko 9 (.bin .quo (kt 8) (ki 51)),ko 10 (.fieldAddr 0 (kt 3)),ko 11 (.indexAddr 5 1 (kt 10) (kt 9)),ko 12 (.load none (kt 11)),ko 13 (.move (kt 4)),ko 14 (.bin .quo (kt 13) (ki 8)),ko 15 (.indexAddr 32 1 (kt 1) (kt 14)),ko 16 (.load none (kt 15)),ko 17 (.move (kt 4)),ko 18 (.bin .rem (kt 17) (ki 8)),ko 19 (.bin .shr (kt 16) (kt 18)),ko 20 (.bin .and (kt 19) (.const (.int .u8 1))),ko 21 (.conv .u64 (kt 20)),ko 22 (.move (kt 4)),ko 23 (.bin .rem (kt 22) (ki 51)),ko 24 (.bin .shl (kt 21) (kt 23)),ko 25 (.bin .or (kt 12) (kt 24)),ko 26 (.fieldAddr 0 (kt 3)),ko 27 (.indexAddr 5 1 (kt 26) (kt 9)),kq (.store 1 (kt 27) (kt 25))] [1,2,3,5]))) (kr [ko 28 (.bin .add (kt 5) (ki 1)),ko 5 (.move (kt 28))] [1,2,3,5]))))
def a49:AFun:=⟨(.seq (kr [ko 1 (.box (kt 0)),ko 2 (.alloc (Qa 5 (.int .u64 0)))] [1,2]) (.seq (kr [ko 3 (.alloc (Qa 5 (.int .u64 0)))] [1,2,3]) (.seq (.seq (kr [ko 5 (.move (ki 0))] [1,2,3,5]) (.block 0 (.loop Qik))) (.seq (kr [ko 29 (.load (some 5) (kt 3)),kq (.store 5 (kt 2) (kt 29))] [2]) .ret)))),[(2,(some (some 5)))]⟩
def a50:AFun:=⟨(.seq (kr [ko 2 (.alloc (Qa 5 (.int .u64 0)))] [0,2]) (.seq (kr [ko 3 (.move (kt 0)),ko 4 (.conv .u64 (kt 3)),ko 5 (.build (Qa 5 (.int .u64 0)) [(0,(1,(kt 4)))]),ko 6 (.build (Qa 5 (.int .u64 0)) [(0,(5,(kt 5)))]),kq (.store 5 (kt 2) (kt 6))] [2]) .ret)),[(2,(some (some 5)))]⟩
def a51:AFun:=⟨(.seq (kr [ko 2 (.box (kt 0)),ko 3 (.box (kt 1)),ko 4 (.alloc (Qa 5 (.int .u64 0)))] [2,3,4]) (.seq (kr [ko 29 (.fieldAddr 0 (kt 2)),ko 30 (.fieldAddr 0 (kt 3)),ko 5 (.move (kt 29)),ko 6 (.move (kt 30))] [4,5,6]) (.seq (kr [ko 31 (.move (kt 5)),ko 32 (.nilCheck (kt 31)),ko 33 (.indexAddr 5 1 (kt 32) (ki 1)),ko 34 (.load none (kt 33)),ko 35 (.bin .mul (.const (.int .u64 19)) (kt 34)),ko 36 (.move (kt 5)),ko 37 (.nilCheck (kt 36)),ko 38 (.indexAddr 5 1 (kt 37) (ki 2)),ko 39 (.load none (kt 38)),ko 40 (.bin .mul (.const (.int .u64 19)) (kt 39)),ko 41 (.move (kt 5)),ko 42 (.nilCheck (kt 41)),ko 43 (.indexAddr 5 1 (kt 42) (ki 3)),ko 44 (.load none (kt 43)),ko 45 (.bin .mul (.const (.int .u64 19)) (kt 44)),ko 46 (.move (kt 5)),ko 47 (.nilCheck (kt 46)),ko 48 (.indexAddr 5 1 (kt 47) (ki 4)),ko 49 (.load none (kt 48)),ko 50 (.bin .mul (.const (.int .u64 19)) (kt 49)),ko 7 (.move (kt 35)),ko 8 (.move (kt 40)),ko 9 (.move (kt 45)),ko 10 (.move (kt 50))] [4,5,6,7,8,9,10]) (.seq (kr [ko 51 (.move (kt 5)),ko 52 (.nilCheck (kt 51)),ko 53 (.indexAddr 5 1 (kt 52) (ki 0)),ko 54 (.load none (kt 53)),ko 55 (.move (kt 6)),ko 56 (.nilCheck (kt 55)),ko 57 (.indexAddr 5 1 (kt 56) (ki 0)),ko 58 (.load none (kt 57)),ko 59 (.call 80 [(kt 54),(kt 58)] true),ko 60 (.move (kt 7)),ko 61 (.move (kt 6)),ko 62 (.nilCheck (kt 61)),ko 63 (.indexAddr 5 1 (kt 62) (ki 4)),ko 64 (.load none (kt 63)),ko 65 (.call 81 [(kt 59),(kt 60),(kt 64)] true),ko 66 (.move (kt 8)),ko 67 (.move (kt 6)),ko 68 (.nilCheck (kt 67)),ko 69 (.indexAddr 5 1 (kt 68) (ki 3)),ko 70 (.load none (kt 69)),ko 71 (.call 81 [(kt 65),(kt 66),(kt 70)] true),ko 72 (.move (kt 9)),ko 73 (.move (kt 6)),ko 74 (.nilCheck (kt 73)),ko 75 (.indexAddr 5 1 (kt 74) (ki 2)),ko 76 (.load none (kt 75)),ko 77 (.call 81 [(kt 71),(kt 72),(kt 76)] true),ko 78 (.move (kt 10)),ko 79 (.move (kt 6)),ko 80 (.nilCheck (kt 79)),ko 81 (.indexAddr 5 1 (kt 80) (ki 1)),ko 82 (.load none (kt 81)),ko 83 (.call 81 [(kt 77),(kt 78),(kt 82)] true),ko 11 (.alloc [(.int .u64 0),(.int .u64 0)]),kq (.store 2 (kt 11) (kt 83))] [4,5,6,8,9,10,11]) (.seq (kr [ko 84 (.move (kt 5)),ko 85 (.nilCheck (kt 84)),ko 86 (.indexAddr 5 1 (kt 85) (ki 0)),ko 87 (.load none (kt 86)),ko 88 (.move (kt 6)),ko 89 (.nilCheck (kt 88)),ko 90 (.indexAddr 5 1 (kt 89) (ki 1)),ko 91 (.load none (kt 90)),ko 92 (.call 80 [(kt 87),(kt 91)] true),ko 93 (.move (kt 5)),ko 94 (.nilCheck (kt 93)),ko 95 (.indexAddr 5 1 (kt 94) (ki 1)),ko 96 (.load none (kt 95)),ko 97 (.move (kt 6)),ko 98 (.nilCheck (kt 97)),ko 99 (.indexAddr 5 1 (kt 98) (ki 0)),ko 100 (.load none (kt 99)),ko 101 (.call 81 [(kt 92),(kt 96),(kt 100)] true),ko 102 (.move (kt 8)),ko 103 (.move (kt 6)),ko 104 (.nilCheck (kt 103)),ko 105 (.indexAddr 5 1 (kt 104) (ki 4)),ko 106 (.load none (kt 105)),ko 107 (.call 81 [(kt 101),(kt 102),(kt 106)] true),ko 108 (.move (kt 9)),ko 109 (.move (kt 6)),ko 110 (.nilCheck (kt 109)),ko 111 (.indexAddr 5 1 (kt 110) (ki 3)),ko 112 (.load none (kt 111)),ko 113 (.call 81 [(kt 107),(kt 108),(kt 112)] true),ko 114 (.move (kt 10)),ko 115 (.move (kt 6)),ko 116 (.nilCheck (kt 115)),ko 117 (.indexAddr 5 1 (kt 116) (ki 2)),ko 118 (.load none (kt 117)),ko 119 (.call 81 [(kt 113),(kt 114),(kt 118)] true),ko 12 (.alloc [(.int .u64 0),(.int .u64 0)]),kq (.store 2 (kt 12) (kt 119))] [4,5,6,9,10,11,12]) (.seq (kr [ko 120 (.move (kt 5)),ko 121 (.nilCheck (kt 120)),ko 122 (.indexAddr 5 1 (kt 121) (ki 0)),ko 123 (.load none (kt 122)),ko 124 (.move (kt 6)),ko 125 (.nilCheck (kt 124)),ko 126 (.indexAddr 5 1 (kt 125) (ki 2)),ko 127 (.load none (kt 126)),ko 128 (.call 80 [(kt 123),(kt 127)] true),ko 129 (.move (kt 5)),ko 130 (.nilCheck (kt 129)),ko 131 (.indexAddr 5 1 (kt 130) (ki 1)),ko 132 (.load none (kt 131)),ko 133 (.move (kt 6)),ko 134 (.nilCheck (kt 133)),ko 135 (.indexAddr 5 1 (kt 134) (ki 1)),ko 136 (.load none (kt 135)),ko 137 (.call 81 [(kt 128),(kt 132),(kt 136)] true),ko 138 (.move (kt 5)),ko 139 (.nilCheck (kt 138)),ko 140 (.indexAddr 5 1 (kt 139) (ki 2)),ko 141 (.load none (kt 140)),ko 142 (.move (kt 6)),ko 143 (.nilCheck (kt 142)),ko 144 (.indexAddr 5 1 (kt 143) (ki 0)),ko 145 (.load none (kt 144)),ko 146 (.call 81 [(kt 137),(kt 141),(kt 145)] true),ko 147 (.move (kt 9)),ko 148 (.move (kt 6)),ko 149 (.nilCheck (kt 148)),ko 150 (.indexAddr 5 1 (kt 149) (ki 4)),ko 151 (.load none (kt 150)),ko 152 (.call 81 [(kt 146),(kt 147),(kt 151)] true),ko 153 (.move (kt 10)),ko 154 (.move (kt 6)),ko 155 (.nilCheck (kt 154)),ko 156 (.indexAddr 5 1 (kt 155) (ki 3)),ko 157 (.load none (kt 156)),ko 158 (.call 81 [(kt 152),(kt 153),(kt 157)] true),ko 13 (.alloc [(.int .u64 0),(.int .u64 0)]),kq (.store 2 (kt 13) (kt 158))] [4,5,6,10,11,12,13]) (.seq (kr [ko 159 (.move (kt 5)),ko 160 (.nilCheck (kt 159)),ko 161 (.indexAddr 5 1 (kt 160) (ki 0)),ko 162 (.load none (kt 161)),ko 163 (.move (kt 6)),ko 164 (.nilCheck (kt 163)),ko 165 (.indexAddr 5 1 (kt 164) (ki 3)),ko 166 (.load none (kt 165)),ko 167 (.call 80 [(kt 162),(kt 166)] true),ko 168 (.move (kt 5)),ko 169 (.nilCheck (kt 168)),ko 170 (.indexAddr 5 1 (kt 169) (ki 1)),ko 171 (.load none (kt 170)),ko 172 (.move (kt 6)),ko 173 (.nilCheck (kt 172)),ko 174 (.indexAddr 5 1 (kt 173) (ki 2)),ko 175 (.load none (kt 174)),ko 176 (.call 81 [(kt 167),(kt 171),(kt 175)] true),ko 177 (.move (kt 5)),ko 178 (.nilCheck (kt 177)),ko 179 (.indexAddr 5 1 (kt 178) (ki 2)),ko 180 (.load none (kt 179)),ko 181 (.move (kt 6)),ko 182 (.nilCheck (kt 181)),ko 183 (.indexAddr 5 1 (kt 182) (ki 1)),ko 184 (.load none (kt 183)),ko 185 (.call 81 [(kt 176),(kt 180),(kt 184)] true),ko 186 (.move (kt 5)),ko 187 (.nilCheck (kt 186)),ko 188 (.indexAddr 5 1 (kt 187) (ki 3)),ko 189 (.load none (kt 188)),ko 190 (.move (kt 6)),ko 191 (.nilCheck (kt 190)),ko 192 (.indexAddr 5 1 (kt 191) (ki 0)),ko 193 (.load none (kt 192)),ko 194 (.call 81 [(kt 185),(kt 189),(kt 193)] true),ko 195 (.move (kt 10)),ko 196 (.move (kt 6)),ko 197 (.nilCheck (kt 196)),ko 198 (.indexAddr 5 1 (kt 197) (ki 4)),ko 199 (.load none (kt 198)),ko 200 (.call 81 [(kt 194),(kt 195),(kt 199)] true),ko 14 (.alloc [(.int .u64 0),(.int .u64 0)]),kq (.store 2 (kt 14) (kt 200))] [4,5,6,11,12,13,14]) (.seq (kr [ko 201 (.move (kt 5)),ko 202 (.nilCheck (kt 201)),ko 203 (.indexAddr 5 1 (kt 202) (ki 0)),ko 204 (.load none (kt 203)),ko 205 (.move (kt 6)),ko 206 (.nilCheck (kt 205)),ko 207 (.indexAddr 5 1 (kt 206) (ki 4)),ko 208 (.load none (kt 207)),ko 209 (.call 80 [(kt 204),(kt 208)] true),ko 210 (.move (kt 5)),ko 211 (.nilCheck (kt 210)),ko 212 (.indexAddr 5 1 (kt 211) (ki 1)),ko 213 (.load none (kt 212)),ko 214 (.move (kt 6)),ko 215 (.nilCheck (kt 214)),ko 216 (.indexAddr 5 1 (kt 215) (ki 3)),ko 217 (.load none (kt 216)),ko 218 (.call 81 [(kt 209),(kt 213),(kt 217)] true),ko 219 (.move (kt 5)),ko 220 (.nilCheck (kt 219)),ko 221 (.indexAddr 5 1 (kt 220) (ki 2)),ko 222 (.load none (kt 221)),ko 223 (.move (kt 6)),ko 224 (.nilCheck (kt 223)),ko 225 (.indexAddr 5 1 (kt 224) (ki 2)),ko 226 (.load none (kt 225)),ko 227 (.call 81 [(kt 218),(kt 222),(kt 226)] true),ko 228 (.move (kt 5)),ko 229 (.nilCheck (kt 228)),ko 230 (.indexAddr 5 1 (kt 229) (ki 3)),ko 231 (.load none (kt 230)),ko 232 (.move (kt 6)),ko 233 (.nilCheck (kt 232)),ko 234 (.indexAddr 5 1 (kt 233) (ki 1)),ko 235 (.load none (kt 234)),ko 236 (.call 81 [(kt 227),(kt 231),(kt 235)] true),ko 237 (.move (kt 5)),ko 238 (.nilCheck (kt 237)),ko 239 (.indexAddr 5 1 (kt 238) (ki 4)),ko 240 (.load none (kt 239)),ko 241 (.move (kt 6)),ko 242 (.nilCheck (kt 241)),ko 243 (.indexAddr 5 1 (kt 242) (ki 0)),ko 244 (.load none (kt 243)),ko 245 (.call 81 [(kt 236),(kt 240),(kt 244)] true),ko 15 (.alloc [(.int .u64 0),(.int .u64 0)]),kq (.store 2 (kt 15) (kt 245))] [4,11,12,13,14,15]) (.seq (kr [ko 247 (.load (some 2) (kt 11)),ko 248 (.call 82 [(kt 247)] true),ko 246 (.move (kt 248)),ko 249 (.extract (kt 246) 0),ko 250 (.extract (kt 246) 1),ko 16 (.move (kt 249)),ko 17 (.move (kt 250))] [4,12,13,14,15,16,17]) (.seq (kr [ko 252 (.load (some 2) (kt 12)),ko 253 (.call 82 [(kt 252)] true),ko 251 (.move (kt 253)),ko 254 (.extract (kt 251) 0),ko 255 (.extract (kt 251) 1),ko 18 (.move (kt 254)),ko 19 (.move (kt 255))] [4,13,14,15,16,17,18,19]) (.seq (kr [ko 257 (.load (some 2) (kt 13)),ko 258 (.call 82 [(kt 257)] true),ko 256 (.move (kt 258)),ko 259 (.extract (kt 256) 0),ko 260 (.extract (kt 256) 1),ko 20 (.move (kt 259)),ko 21 (.move (kt 260))] [4,14,15,16,17,18,19,20,21]) (.seq (kr [ko 262 (.load (some 2) (kt 14)),ko 263 (.call 82 [(kt 262)] true),ko 261 (.move (kt 263)),ko 264 (.extract (kt 261) 0),ko 265 (.extract (kt 261) 1),ko 22 (.move (kt 264)),ko 23 (.move (kt 265))] [4,15,16,17,18,19,20,21,22,23]) (.seq (kr [ko 267 (.load (some 2) (kt 15)),ko 268 (.call 82 [(kt 267)] true),ko 266 (.move (kt 268)),ko 269 (.extract (kt 266) 0),ko 270 (.extract (kt 266) 1),ko 24 (.move (kt 269)),ko 25 (.move (kt 270))] [4,16,17,18,19,20,21,22,23,24,25]) (.seq (kr [ko 271 (.move (kt 24)),ko 272 (.call 80 [(.const (.int .u64 19)),(kt 271)] true),ko 273 (.move (kt 17)),ko 274 (.call 83 [(kt 272),(kt 273)] true),ko 26 (.alloc [(.int .u64 0),(.int .u64 0)]),kq (.store 2 (kt 26) (kt 274))] [4,16,18,19,20,21,22,23,25,26]) (.seq (kr [ko 276 (.load (some 2) (kt 26)),ko 277 (.call 82 [(kt 276)] true),ko 275 (.move (kt 277)),ko 278 (.extract (kt 275) 0),ko 279 (.extract (kt 275) 1),ko 27 (.move (kt 278)),ko 28 (.move (kt 279))] [4,16,18,19,20,21,22,23,25,27,28]) (.seq (kr [ko 280 (.move (kt 28)),ko 281 (.move (kt 19)),ko 282 (.move (kt 16)),ko 283 (.bin .add (kt 281) (kt 282)),ko 284 (.move (kt 27)),ko 285 (.bin .add (kt 283) (kt 284)),ko 286 (.move (kt 21)),ko 287 (.move (kt 18)),ko 288 (.bin .add (kt 286) (kt 287)),ko 289 (.move (kt 23)),ko 290 (.move (kt 20)),ko 291 (.bin .add (kt 289) (kt 290)),ko 292 (.move (kt 25)),ko 293 (.move (kt 22)),ko 294 (.bin .add (kt 292) (kt 293)),ko 295 (.build (Qa 5 (.int .u64 0)) [(0,(1,(kt 280))),(1,(1,(kt 285))),(2,(1,(kt 288))),(3,(1,(kt 291))),(4,(1,(kt 294)))]),ko 296 (.build (Qa 5 (.int .u64 0)) [(0,(5,(kt 295)))]),ko 297 (.call 84 [(kt 296)] true),kq (.store 5 (kt 4) (kt 297))] [4]) .ret)))))))))))))))),[(4,(some (some 5)))]⟩
def a52:AFun:=⟨(.seq (kr [ko 0 (.alloc (Qa 5 (.int .u64 0)))] [0]) (.seq (kr [ko 1 (.build (Qa 32 (.int .u8 0)) [(0,(1,(.const (.int .u8 163)))),(1,(1,(.const (.int .u8 120)))),(2,(1,(.const (.int .u8 89)))),(3,(1,(.const (.int .u8 19)))),(4,(1,(.const (.int .u8 202)))),(5,(1,(.const (.int .u8 77)))),(6,(1,(.const (.int .u8 235)))),(7,(1,(.const (.int .u8 117)))),(8,(1,(.const (.int .u8 171)))),(9,(1,(.const (.int .u8 216)))),(10,(1,(.const (.int .u8 65)))),(11,(1,(.const (.int .u8 65)))),(12,(1,(.const (.int .u8 77)))),(13,(1,(.const (.int .u8 10)))),(14,(1,(.const (.int .u8 112)))),(15,(1,(.const (.int .u8 0)))),(16,(1,(.const (.int .u8 152)))),(17,(1,(.const (.int .u8 232)))),(18,(1,(.const (.int .u8 121)))),(19,(1,(.const (.int .u8 119)))),(20,(1,(.const (.int .u8 121)))),(21,(1,(.const (.int .u8 64)))),(22,(1,(.const (.int .u8 199)))),(23,(1,(.const (.int .u8 140)))),(24,(1,(.const (.int .u8 115)))),(25,(1,(.const (.int .u8 254)))),(26,(1,(.const (.int .u8 111)))),(27,(1,(.const (.int .u8 43)))),(28,(1,(.const (.int .u8 238)))),(29,(1,(.const (.int .u8 108)))),(30,(1,(.const (.int .u8 3)))),(31,(1,(.const (.int .u8 82))))]),ko 2 (.call 37 [(kt 1)] true),kq (.store 5 (kt 0) (kt 2))] [0]) .ret)),[(0,(some (some 5)))]⟩
def a53:AFun:=⟨(.seq (kr [ko 1 (.box (kt 0)),ko 2 (.alloc (Qa 20 (.int .u64 0)))] [1,2]) (.seq (kr [ko 11 (.fieldAddr 0 (kt 1)),ko 12 (.load (some 5) (kt 11)),ko 13 (.fieldAddr 0 (kt 1)),ko 14 (.load (some 5) (kt 13)),ko 15 (.call 39 [(kt 12),(kt 14)] true),ko 16 (.fieldAddr 5 (kt 1)),ko 17 (.load (some 5) (kt 16)),ko 18 (.fieldAddr 5 (kt 1)),ko 19 (.load (some 5) (kt 18)),ko 20 (.call 39 [(kt 17),(kt 19)] true),ko 3 (.alloc (Qa 5 (.int .u64 0))),ko 4 (.alloc (Qa 5 (.int .u64 0))),kq (.store 5 (kt 3) (kt 15)),kq (.store 5 (kt 4) (kt 20))] [1,2,3,4]) (.seq (kr [ko 21 (.call 38 [(.const (.int .u32 2))] true),ko 22 (.fieldAddr 10 (kt 1)),ko 23 (.load (some 5) (kt 22)),ko 24 (.fieldAddr 10 (kt 1)),ko 25 (.load (some 5) (kt 24)),ko 26 (.buildSlice (Qa 15 (.int .u64 0)) 3 [(0,(5,(kt 21))),(5,(5,(kt 23))),(10,(5,(kt 25)))]),ko 27 (.call 85 [(kt 26)] false),ko 5 (.alloc (Qa 5 (.int .u64 0))),kq (.store 5 (kt 5) (kt 27))] [1,2,3,4,5]) (.seq (kr [ko 28 (.load (some 5) (kt 3)),ko 29 (.load (some 5) (kt 4)),ko 30 (.buildSlice (Qa 10 (.int .u64 0)) 2 [(0,(5,(kt 28))),(5,(5,(kt 29)))]),ko 31 (.call 64 [(kt 30)] false),ko 6 (.alloc (Qa 5 (.int .u64 0))),kq (.store 5 (kt 6) (kt 31))] [1,2,3,4,5,6]) (.seq (kr [ko 32 (.fieldAddr 0 (kt 1)),ko 33 (.load (some 5) (kt 32)),ko 34 (.fieldAddr 5 (kt 1)),ko 35 (.load (some 5) (kt 34)),ko 36 (.buildSlice (Qa 10 (.int .u64 0)) 2 [(0,(5,(kt 33))),(5,(5,(kt 35)))]),ko 37 (.call 64 [(kt 36)] false),ko 7 (.alloc (Qa 5 (.int .u64 0))),kq (.store 5 (kt 7) (kt 37))] [2,3,4,5,6,7]) (.seq (kr [ko 38 (.load (some 5) (kt 6)),ko 39 (.load (some 5) (kt 7)),ko 40 (.load (some 5) (kt 7)),ko 41 (.call 39 [(kt 39),(kt 40)] true),ko 42 (.call 63 [(kt 38),(kt 41)] true),ko 8 (.alloc (Qa 5 (.int .u64 0))),kq (.store 5 (kt 8) (kt 42))] [2,3,4,5,6,8]) (.seq (kr [ko 43 (.load (some 5) (kt 3)),ko 44 (.load (some 5) (kt 4)),ko 45 (.call 63 [(kt 43),(kt 44)] true),ko 9 (.alloc (Qa 5 (.int .u64 0))),kq (.store 5 (kt 9) (kt 45))] [2,5,6,8,9]) (.seq (kr [ko 46 (.load (some 5) (kt 5)),ko 47 (.load (some 5) (kt 9)),ko 48 (.buildSlice (Qa 10 (.int .u64 0)) 2 [(0,(5,(kt 46))),(5,(5,(kt 47)))]),ko 49 (.call 64 [(kt 48)] false),ko 10 (.alloc (Qa 5 (.int .u64 0))),kq (.store 5 (kt 10) (kt 49))] [2,6,8,9,10]) (.seq (kr [ko 50 (.load (some 5) (kt 8)),ko 51 (.load (some 5) (kt 10)),ko 52 (.call 39 [(kt 50),(kt 51)] true),ko 53 (.load (some 5) (kt 9)),ko 54 (.load (some 5) (kt 6)),ko 55 (.call 39 [(kt 53),(kt 54)] true),ko 56 (.load (some 5) (kt 10)),ko 57 (.load (some 5) (kt 9)),ko 58 (.call 39 [(kt 56),(kt 57)] true),ko 59 (.load (some 5) (kt 8)),ko 60 (.load (some 5) (kt 6)),ko 61 (.call 39 [(kt 59),(kt 60)] true),ko 62 (.build (Qa 20 (.int .u64 0)) [(0,(5,(kt 52))),(5,(5,(kt 55))),(10,(5,(kt 58))),(15,(5,(kt 61)))]),kq (.store 20 (kt 2) (kt 62))] [2]) .ret))))))))),[(2,(some (some 20)))]⟩
def a54:AFun:=⟨(.seq (kr [ko 3 (.box (kt 0)),ko 4 (.box (kt 1)),ko 5 (.box (kt 2)),ko 6 (.alloc (Qa 20 (.int .u64 0)))] [3,4,5,6]) (.seq (kr [ko 15 (.fieldAddr 5 (kt 3)),ko 16 (.load (some 5) (kt 15)),ko 17 (.fieldAddr 0 (kt 3)),ko 18 (.load (some 5) (kt 17)),ko 19 (.call 63 [(kt 16),(kt 18)] true),ko 20 (.fieldAddr 5 (kt 4)),ko 21 (.load (some 5) (kt 20)),ko 22 (.fieldAddr 0 (kt 4)),ko 23 (.load (some 5) (kt 22)),ko 24 (.call 63 [(kt 21),(kt 23)] true),ko 25 (.call 39 [(kt 19),(kt 24)] true),ko 7 (.alloc (Qa 5 (.int .u64 0))),kq (.store 5 (kt 7) (kt 25))] [3,4,5,6,7]) (.seq (.region [ko 26 (.fieldAddr 5 (kt 3)),ko 27 (.load (some 5) (kt 26)),ko 28 (.fieldAddr 0 (kt 3)),ko 29 (.load (some 5) (kt 28)),ko 30 (.buildSlice (Qa 10 (.int .u64 0)) 2 [(0,(5,(kt 27))),(5,(5,(kt 29)))]),ko 31 (.call 64 [(kt 30)] false),ko 32 (.fieldAddr 5 (kt 4)),ko 33 (.load (some 5) (kt 32)),ko 34 (.fieldAddr 0 (kt 4)),ko 35 (.load (some 5) (kt 34)),ko 36 (.buildSlice (Qa 10 (.int .u64 0)) 2 [(0,(5,(kt 33))),(5,(5,(kt 35)))]),ko 37 (.call 64 [(kt 36)] false),ko 38 (.call 39 [(kt 31),(kt 37)] true),ko 8 (.alloc (Qa 5 (.int .u64 0))),kq (.store 5 (kt 8) (kt 38))] (some [3,4,5,6,7,8]) [(5,7),(5,9)]) (.seq (kr [ko 39 (.call 38 [(.const (.int .u32 2))] true),ko 40 (.load (some 5) (kt 5)),ko 41 (.fieldAddr 15 (kt 3)),ko 42 (.load (some 5) (kt 41)),ko 43 (.fieldAddr 15 (kt 4)),ko 44 (.load (some 5) (kt 43)),ko 45 (.buildSlice (Qa 20 (.int .u64 0)) 4 [(0,(5,(kt 39))),(5,(5,(kt 40))),(10,(5,(kt 42))),(15,(5,(kt 44)))]),ko 46 (.call 85 [(kt 45)] false),ko 9 (.alloc (Qa 5 (.int .u64 0))),kq (.store 5 (kt 9) (kt 46))] [3,4,6,7,8,9]) (.seq (kr [ko 47 (.call 38 [(.const (.int .u32 2))] true),ko 48 (.fieldAddr 10 (kt 3)),ko 49 (.load (some 5) (kt 48)),ko 50 (.fieldAddr 10 (kt 4)),ko 51 (.load (some 5) (kt 50)),ko 52 (.buildSlice (Qa 15 (.int .u64 0)) 3 [(0,(5,(kt 47))),(5,(5,(kt 49))),(10,(5,(kt 51)))]),ko 53 (.call 85 [(kt 52)] false),ko 10 (.alloc (Qa 5 (.int .u64 0))),kq (.store 5 (kt 10) (kt 53))] [6,7,8,9,10]) (.seq (.region [ko 54 (.load (some 5) (kt 8)),ko 55 (.load (some 5) (kt 7)),ko 56 (.call 63 [(kt 54),(kt 55)] true),ko 57 (.load (some 5) (kt 10)),ko 58 (.load (some 5) (kt 9)),ko 59 (.call 63 [(kt 57),(kt 58)] true),ko 60 (.load (some 5) (kt 10)),ko 61 (.load (some 5) (kt 9)),ko 62 (.buildSlice (Qa 10 (.int .u64 0)) 2 [(0,(5,(kt 60))),(5,(5,(kt 61)))]),ko 63 (.call 64 [(kt 62)] false),ko 64 (.load (some 5) (kt 8)),ko 65 (.load (some 5) (kt 7)),ko 66 (.buildSlice (Qa 10 (.int .u64 0)) 2 [(0,(5,(kt 64))),(5,(5,(kt 65)))]),ko 67 (.call 64 [(kt 66)] false),ko 11 (.alloc (Qa 5 (.int .u64 0))),ko 12 (.alloc (Qa 5 (.int .u64 0))),ko 13 (.alloc (Qa 5 (.int .u64 0))),ko 14 (.alloc (Qa 5 (.int .u64 0))),kq (.store 5 (kt 11) (kt 56)),kq (.store 5 (kt 12) (kt 59)),kq (.store 5 (kt 13) (kt 63)),kq (.store 5 (kt 14) (kt 67))] (some [6,11,12,13,14]) [(9,10),(9,11)]) (.seq (kr [ko 68 (.load (some 5) (kt 11)),ko 69 (.load (some 5) (kt 12)),ko 70 (.call 39 [(kt 68),(kt 69)] true),ko 71 (.load (some 5) (kt 13)),ko 72 (.load (some 5) (kt 14)),ko 73 (.call 39 [(kt 71),(kt 72)] true),ko 74 (.load (some 5) (kt 12)),ko 75 (.load (some 5) (kt 13)),ko 76 (.call 39 [(kt 74),(kt 75)] true),ko 77 (.load (some 5) (kt 11)),ko 78 (.load (some 5) (kt 14)),ko 79 (.call 39 [(kt 77),(kt 78)] true),ko 80 (.build (Qa 20 (.int .u64 0)) [(0,(5,(kt 70))),(5,(5,(kt 73))),(10,(5,(kt 76))),(15,(5,(kt 79)))]),kq (.store 20 (kt 6) (kt 80))] [6]) .ret))))))),[(6,(some (some 20)))]⟩
def a55:AFun:=⟨(.seq (kr [ko 2 (.box (kt 0)),ko 3 (.box (kt 1)),ko 4 (.move (.const (.bool false)))] [2,3]) (.seq (kr [ko 5 (.load (some 5) (kt 2)),ko 6 (.call 45 [(kt 5)] true),ko 7 (.load (some 5) (kt 3)),ko 8 (.call 45 [(kt 7)] true),ko 9 (.eqv (some (Qa 32 true)) false (kt 6) (kt 8)),ko 4 (.move (kt 9))] [4]) .ret)),[(4,none)]⟩
def a56:AFun:=⟨(.seq (kr [ko 1 (.box (kt 0)),ko 2 (.alloc (Qa 5 (.int .u64 0)))] [1,2]) (.seq (kr [ko 3 (.load (some 5) (kt 1)),ko 4 (.call 87 [(ki 255),(.const (.int .u8 20))] true),ko 5 (.call 86 [(kt 3),(kt 4)] true),kq (.store 5 (kt 2) (kt 5))] [2]) .ret)),[(2,(some (some 5)))]⟩
def Qe5:ACode:=(.seq (kr [ko 55 (.bin .lss (kt 54) (ki 255))] [1,2,6,54,55]) (.seq (.cond (kt 55) .skip (.exit 4)) (.seq (.block 5 (.seq (kr [ko 56 (.move (kt 54)),ko 8 (.move (kt 56))] [1,2,6,8,54]) (kr [ko 57 (.move (kt 8)),ko 58 (.bin .quo (kt 57) (ki 8)),ko 59 (.indexAddr 32 1 (kt 6) (kt 58)),ko 60 (.load none (kt 59)),ko 61 (.move (kt 8)),ko 62 (.bin .quo (kt 61) (ki 51)),ko 63 (.fieldAddr 0 (kt 1)),ko 64 (.indexAddr 5 1 (kt 63) (kt 62)),ko 65 (.load none (kt 64)),ko 66 (.move (kt 8)),ko 67 (.bin .rem (kt 66) (ki 51)),ko 68 (.bin .shr (kt 65) (kt 67)),ko 69 (.bin .and (kt 68) (.const (.int .u64 1))),ko 70 (.conv .u8 (kt 69)),ko 71 (.move (kt 8)),ko 72 (.bin .rem (kt 71) (ki 8)),ko 73 (.bin .shl (kt 70) (kt 72)),ko 74 (.bin .or (kt 60) (kt 73)),ko 75 (.indexAddr 32 1 (kt 6) (kt 58)),kq (.store 1 (kt 75) (kt 74))] [1,2,6,54]))) (kr [ko 76 (.bin .add (kt 54) (ki 1)),ko 54 (.move (kt 76))] [1,2,6,54]))))
def Qij:ACode:=(.seq (kr [ko 31 (.bin .lss (kt 30) (ki 5))] [1,2,3,6,30,31]) (.seq (.cond (kt 31) .skip (.exit 2)) (.seq (.block 3 (.seq (kr [ko 32 (.move (kt 30)),ko 7 (.move (kt 32))] [1,2,3,6,7,30]) (.seq (kr [ko 33 (.move (kt 7)),ko 34 (.fieldAddr 0 (kt 1)),ko 35 (.indexAddr 5 1 (kt 34) (kt 33)),ko 36 (.load none (kt 35)),ko 37 (.move (kt 3)),ko 38 (.bin .add (kt 36) (kt 37)),ko 39 (.fieldAddr 0 (kt 1)),ko 40 (.indexAddr 5 1 (kt 39) (kt 33)),kq (.store 1 (kt 40) (kt 38))] [1,2,6,7,30]) (.seq (kr [ko 41 (.move (kt 7)),ko 42 (.fieldAddr 0 (kt 1)),ko 43 (.indexAddr 5 1 (kt 42) (kt 41)),ko 44 (.load none (kt 43)),ko 45 (.bin .shr (kt 44) (.const (.int .u64 51))),ko 3 (.move (kt 45))] [1,2,3,6,7,30]) (kr [ko 46 (.move (kt 7)),ko 47 (.fieldAddr 0 (kt 1)),ko 48 (.indexAddr 5 1 (kt 47) (kt 46)),ko 49 (.load none (kt 48)),ko 50 (.bin .and (kt 49) (.const (.int .u64 2251799813685247))),ko 51 (.fieldAddr 0 (kt 1)),ko 52 (.indexAddr 5 1 (kt 51) (kt 46)),kq (.store 1 (kt 52) (kt 50))] [1,2,3,6,30]))))) (kr [ko 53 (.bin .add (kt 30) (ki 1)),ko 30 (.move (kt 53))] [1,2,3,6,30]))))
def Qii:ACode:=(.seq (kr [ko 15 (.bin .lss (kt 14) (ki 5))] [1,2,3,13,14,15]) (.seq (.cond (kt 15) .skip (.exit 0)) (.seq (.block 1 (.seq (kr [ko 16 (.index none 5 1 (kt 13) (kt 14)),ko 5 (.move (kt 16))] [1,2,3,5,13,14]) (kr [ko 17 (.move (kt 5)),ko 18 (.move (kt 3)),ko 19 (.bin .add (kt 17) (kt 18)),ko 20 (.bin .shr (kt 19) (.const (.int .u64 51))),ko 3 (.move (kt 20))] [1,2,3,13,14]))) (kr [ko 21 (.bin .add (kt 14) (ki 1)),ko 14 (.move (kt 21))] [1,2,3,13,14]))))
def a57:AFun:=⟨(.seq (kr [ko 1 (.box (kt 0)),ko 2 (.alloc (Qa 32 (.int .u8 0)))] [1,2]) (.seq (kr [ko 9 (.load (some 5) (kt 1)),ko 10 (.call 84 [(kt 9)] true),ko 11 (.call 84 [(kt 10)] true),kq (.store 5 (kt 1) (kt 11))] [1,2]) (.seq (kr [ko 3 (.move (.const (.int .u64 19)))] [1,2,3]) (.seq (.seq (kr [ko 12 (.fieldAddr 0 (kt 1)),ko 13 (.load (some 5) (kt 12)),ko 14 (.move (ki 0))] [1,2,3,13,14]) (.block 0 (.loop Qii))) (.seq (kr [ko 22 (.fieldAddr 0 (kt 1)),ko 23 (.indexAddr 5 1 (kt 22) (ki 0)),ko 24 (.load none (kt 23)),ko 25 (.move (kt 3)),ko 26 (.bin .mul (.const (.int .u64 19)) (kt 25)),ko 27 (.bin .add (kt 24) (kt 26)),ko 28 (.fieldAddr 0 (kt 1)),ko 29 (.indexAddr 5 1 (kt 28) (ki 0)),kq (.store 1 (kt 29) (kt 27))] [1,2]) (.seq (kr [ko 3 (.move (.const (.int .u64 0)))] [1,2,3]) (.seq (kr [ko 6 (.alloc (Qa 32 (.int .u8 0)))] [1,2,3,6]) (.seq (.seq (kr [ko 30 (.move (ki 0))] [1,2,3,6,30]) (.block 2 (.loop Qij))) (.seq (.seq (kr [ko 54 (.move (ki 0))] [1,2,6,54]) (.block 4 (.loop Qe5))) (.seq (kr [ko 77 (.load (some 32) (kt 6)),kq (.store 32 (kt 2) (kt 77))] [2]) .ret)))))))))),[(2,(some (some 32)))]⟩
def a58:AFun:=⟨(.seq (kr [ko 1 (.box (kt 0)),ko 2 (.move (.const (.bool false)))] [1]) (.seq (kr [ko 3 (.load (some 5) (kt 1)),ko 4 (.call 45 [(kt 3)] true),ko 5 (.index none 32 1 (kt 4) (ki 0)),ko 6 (.bin .and (kt 5) (.const (.int .u8 1))),ko 7 (.bin .eql (kt 6) (.const (.int .u8 1))),ko 2 (.move (kt 7))] [2]) .ret)),[(2,none)]⟩
def a59:AFun:=⟨(.seq (kr [ko 1 (.box (kt 0)),ko 2 (.move (.const (.bool false)))] [1]) (.seq (kr [ko 3 (.load (some 32) (kt 1)),ko 4 (.call 37 [(kt 3)] true),ko 5 (.call 45 [(kt 4)] true),ko 6 (.load (some 32) (kt 1)),ko 7 (.eqv (some (Qa 32 true)) false (kt 5) (kt 6)),ko 2 (.move (kt 7))] [2]) .ret)),[(2,none)]⟩
def a60:AFun:=⟨(.seq (kr [ko 2 (.box (kt 0)),ko 3 (.box (kt 1)),ko 4 (.alloc (Qa 5 (.int .u64 0))),ko 5 (.move (.const (.bool false)))] [2,3,4]) (.seq (kr [ko 9 (.load (some 5) (kt 3)),ko 10 (.load (some 5) (kt 3)),ko 11 (.load (some 5) (kt 3)),ko 12 (.buildSlice (Qa 15 (.int .u64 0)) 3 [(0,(5,(kt 9))),(5,(5,(kt 10))),(10,(5,(kt 11)))]),ko 13 (.call 85 [(kt 12)] false),ko 6 (.alloc (Qa 5 (.int .u64 0))),kq (.store 5 (kt 6) (kt 13))] [2,3,4,6]) (.seq (.region [ko 14 (.load (some 5) (kt 2)),ko 15 (.load (some 5) (kt 6)),ko 16 (.load (some 5) (kt 2)),ko 17 (.load (some 5) (kt 6)),ko 18 (.load (some 5) (kt 6)),ko 19 (.load (some 5) (kt 3)),ko 20 (.buildSlice (Qa 20 (.int .u64 0)) 4 [(0,(5,(kt 16))),(5,(5,(kt 17))),(10,(5,(kt 18))),(15,(5,(kt 19)))]),ko 21 (.call 85 [(kt 20)] false),ko 22 (.call 87 [(ki 252),(.const (.int .u8 2))] true),ko 23 (.call 86 [(kt 21),(kt 22)] true),ko 24 (.buildSlice (Qa 15 (.int .u64 0)) 3 [(0,(5,(kt 14))),(5,(5,(kt 15))),(10,(5,(kt 23)))]),ko 25 (.call 85 [(kt 24)] false),ko 7 (.alloc (Qa 5 (.int .u64 0))),kq (.store 5 (kt 7) (kt 25))] (some [2,3,4,7]) [(0,7),(1,7)]) (.seq (.seq (kr [ko 26 (.load (some 5) (kt 3)),ko 27 (.load (some 5) (kt 7)),ko 28 (.load (some 5) (kt 7)),ko 29 (.buildSlice (Qa 15 (.int .u64 0)) 3 [(0,(5,(kt 26))),(5,(5,(kt 27))),(10,(5,(kt 28)))]),ko 30 (.call 85 [(kt 29)] false),ko 8 (.alloc (Qa 5 (.int .u64 0))),kq (.store 5 (kt 8) (kt 30))] [2,4,7,8]) (.block 0 (.seq (kr [ko 33 (.load (some 5) (kt 8)),ko 34 (.load (some 5) (kt 2)),ko 35 (.call 96 [(kt 33),(kt 34)] true),ko 32 (.move (kt 35))] [2,4,7,8,32]) (.cond (kt 32) .skip (.seq (kr [ko 37 (.load (some 5) (kt 8)),ko 38 (.load (some 5) (kt 2)),ko 39 (.call 66 [(kt 38)] true),ko 40 (.call 96 [(kt 37),(kt 39)] true),ko 36 (.move (kt 40))] [4,7,36]) (.cond (kt 36) (kr [ko 41 (.load (some 5) (kt 7)),ko 42 (.call 38 [(.const (.int .u32 2))] true),ko 43 (.call 87 [(ki 253),(.const (.int .u8 4))] true),ko 44 (.call 86 [(kt 42),(kt 43)] true),ko 45 (.call 39 [(kt 41),(kt 44)] true),kq (.store 5 (kt 7) (kt 45))] [4,7]) (.seq (kr [ko 31 (.build (Qa 5 (.int .u64 0)) []),kq (.store 5 (kt 4) (kt 31)),ko 5 (.move (.const (.bool false)))] [4,5]) .ret))))))) (.seq (.seq (kr [ko 46 (.load (some 5) (kt 7)),ko 47 (.call 46 [(kt 46)] true)] [4,7,47]) (.cond (kt 47) (kr [ko 48 (.load (some 5) (kt 7)),ko 49 (.call 66 [(kt 48)] true),kq (.store 5 (kt 7) (kt 49))] [4,7]) .skip)) (.seq (kr [ko 50 (.load (some 5) (kt 7)),kq (.store 5 (kt 4) (kt 50)),ko 5 (.move (.const (.bool true)))] [4,5]) .ret)))))),[(4,(some (some 5))),(5,none)]⟩
def Qih:ACode:=(.seq (kr [ko 7 (.bin .lss (kt 6) (ki 5))] [2,3,4,6,7]) (.seq (.cond (kt 7) .skip (.exit 0)) (.seq (.block 1 (.seq (kr [ko 8 (.move (kt 6)),ko 5 (.move (kt 8))] [2,3,4,5,6]) (kr [ko 9 (.move (kt 5)),ko 10 (.fieldAddr 0 (kt 2)),ko 11 (.indexAddr 5 1 (kt 10) (kt 9)),ko 12 (.load none (kt 11)),ko 13 (.move (kt 5)),ko 14 (.fieldAddr 0 (kt 3)),ko 15 (.indexAddr 5 1 (kt 14) (kt 13)),ko 16 (.load none (kt 15)),ko 17 (.bin .sub (.const (.int .u64 9007199254740988)) (kt 16)),ko 18 (.bin .add (kt 12) (kt 17)),ko 19 (.fieldAddr 0 (kt 2)),ko 20 (.indexAddr 5 1 (kt 19) (kt 9)),kq (.store 1 (kt 20) (kt 18))] [2,3,4,6]))) (kr [ko 21 (.bin .add (kt 6) (ki 1)),ko 6 (.move (kt 21))] [2,3,4,6]))))
def a61:AFun:=⟨(.seq (kr [ko 2 (.box (kt 0)),ko 3 (.box (kt 1)),ko 4 (.alloc (Qa 5 (.int .u64 0)))] [2,3,4]) (.seq (.seq (kr [ko 6 (.move (ki 0))] [2,3,4,6]) (.block 0 (.loop Qih))) (.seq (kr [ko 22 (.fieldAddr 0 (kt 2)),ko 23 (.indexAddr 5 1 (kt 22) (ki 0)),ko 24 (.load none (kt 23)),ko 25 (.bin .sub (kt 24) (.const (.int .u64 72))),ko 26 (.fieldAddr 0 (kt 2)),ko 27 (.indexAddr 5 1 (kt 26) (ki 0)),kq (.store 1 (kt 27) (kt 25))] [2,4]) (.seq (kr [ko 28 (.load (some 5) (kt 2)),ko 29 (.call 84 [(kt 28)] true),kq (.store 5 (kt 4) (kt 29))] [4]) .ret)))),[(4,(some (some 5)))]⟩
def Qig:ACode:=(.seq (kr [ko 15 (.bin .lss (kt 14) (ki 5))] [2,3,4,5,7,8,9,14,15]) (.seq (.cond (kt 15) .skip (.exit 2)) (.seq (.block 3 (.seq (kr [ko 16 (.move (kt 14)),ko 6 (.move (kt 16))] [2,3,4,5,6,7,8,9,14]) (kr [ko 17 (.move (kt 6)),ko 18 (.fieldAddr 0 (kt 3)),ko 19 (.indexAddr 5 1 (kt 18) (kt 17)),ko 20 (.load none (kt 19)),ko 21 (.move (kt 6)),ko 22 (.fieldAddr 0 (kt 5)),ko 23 (.indexAddr 5 1 (kt 22) (kt 21)),ko 24 (.load none (kt 23)),ko 25 (.bin .add (kt 20) (kt 24)),ko 26 (.fieldAddr 0 (kt 3)),ko 27 (.indexAddr 5 1 (kt 26) (kt 17)),kq (.store 1 (kt 27) (kt 25))] [2,3,4,5,7,8,9,14]))) (kr [ko 28 (.bin .add (kt 14) (ki 1)),ko 14 (.move (kt 28))] [2,3,4,5,7,8,9,14]))))
def Qif:ACode:=(.seq (kr [ko 10 (.bin .lss (kt 9) (kt 8))] [2,3,7,8,9,10]) (.seq (.cond (kt 10) .skip (.exit 0)) (.seq (.block 1 (.seq (kr [ko 11 (.move (kt 9)),ko 12 (.indexSl 5 (kt 7) (kt 9)),ko 13 (.load (some 5) (kt 12)),ko 5 (.alloc (Qa 5 (.int .u64 0))),ko 4 (.move (kt 11)),kq (.store 5 (kt 5) (kt 13))] [2,3,4,5,7,8,9]) (.seq (.seq (kr [ko 14 (.move (ki 0))] [2,3,4,5,7,8,9,14]) (.block 2 (.loop Qig))) (.seq (kr [ko 29 (.move (kt 4)),ko 30 (.bin .rem (kt 29) (ki 64)),ko 31 (.bin .eql (kt 30) (ki 63))] [2,3,7,8,9,31]) (.cond (kt 31) (kr [ko 32 (.load (some 5) (kt 3)),ko 33 (.call 84 [(kt 32)] true),kq (.store 5 (kt 3) (kt 33))] [2,3,7,8,9]) .skip))))) (kr [ko 34 (.bin .add (kt 9) (ki 1)),ko 9 (.move (kt 34))] [2,3,7,8,9]))))
def a62:AFun:=⟨(.seq (kr [ko 2 (.alloc (Qa 5 (.int .u64 0)))] [0,2]) (.seq (kr [ko 3 (.alloc (Qa 5 (.int .u64 0)))] [0,2,3]) (.seq (.seq (kr [ko 7 (.move (kt 0)),ko 8 (.len false (kt 7)),ko 9 (.move (ki 0))] [2,3,7,8,9]) (.block 0 (.loop Qif))) (.seq (kr [ko 35 (.load (some 5) (kt 3)),ko 36 (.call 84 [(kt 35)] true),kq (.store 5 (kt 2) (kt 36))] [2]) .ret)))),[(2,(some (some 5)))]⟩
def a63:AFun:=⟨(.seq (kr [ko 1 (.box (kt 0)),ko 2 (.move (.const (.bool false)))] [1]) (.seq (kr [ko 3 (.load (some 5) (kt 1)),ko 4 (.call 45 [(kt 3)] true),ko 5 (.build (Qa 32 (.int .u8 0)) []),ko 6 (.eqv (some (Qa 32 true)) false (kt 4) (kt 5)),ko 2 (.move (kt 6))] [2]) .ret)),[(2,none)]⟩
def a64:AFun:=⟨(.seq (kr [ko 1 (.box (kt 0)),ko 2 (.alloc (Qa 5 (.int .u64 0)))] [1,2]) (.seq (kr [ko 3 (.build (Qa 5 (.int .u64 0)) []),ko 4 (.load (some 5) (kt 1)),ko 5 (.call 63 [(kt 3),(kt 4)] true),kq (.store 5 (kt 2) (kt 5))] [2]) .ret)),[(2,(some (some 5)))]⟩
def Qie:ACode:=(.seq (.seq (kr [ko 6 (.move (kt 4)),ko 7 (.bin .lss (kt 6) (ki 16))] [1,2,3,4,7]) (.cond (kt 7) .skip (.exit 0))) (.seq (.block 1 (kr [ko 10 (.move (kt 4)),ko 11 (.move (kt 4)),ko 12 (.bin .mul (ki 2) (kt 11)),ko 13 (.indexAddr 32 1 (kt 1) (kt 12)),ko 14 (.load none (kt 13)),ko 15 (.conv .u64 (kt 14)),ko 16 (.move (kt 4)),ko 17 (.bin .mul (ki 2) (kt 16)),ko 18 (.bin .add (kt 17) (ki 1)),ko 19 (.indexAddr 32 1 (kt 1) (kt 18)),ko 20 (.load none (kt 19)),ko 21 (.conv .u64 (kt 20)),ko 22 (.bin .mul (.const (.int .u64 256)) (kt 21)),ko 23 (.bin .add (kt 15) (kt 22)),ko 24 (.indexAddr 16 1 (kt 3) (kt 10)),kq (.store 1 (kt 24) (kt 23))] [1,2,3,4])) (kr [ko 8 (.move (kt 4)),ko 9 (.bin .add (kt 8) (ki 1)),ko 4 (.move (kt 9))] [1,2,3,4])))
def a65:AFun:=⟨(.seq (kr [ko 1 (.box (kt 0)),ko 2 (.alloc (Qa 16 (.int .u64 0)))] [1,2]) (.seq (kr [ko 5 (.build (Qa 16 (.int .u64 0)) []),ko 3 (.alloc (Qa 16 (.int .u64 0))),kq (.store 16 (kt 3) (kt 5))] [1,2,3]) (.seq (.seq (kr [ko 4 (.move (ki 0))] [1,2,3,4]) (.block 0 (.loop Qie))) (.seq (kr [ko 25 (.indexAddr 16 1 (kt 3) (ki 15)),ko 26 (.load none (kt 25)),ko 27 (.bin .rem (kt 26) (.const (.int .u64 32768))),ko 28 (.indexAddr 16 1 (kt 3) (ki 15)),kq (.store 1 (kt 28) (kt 27))] [2,3]) (.seq (kr [ko 29 (.load (some 16) (kt 3)),kq (.store 16 (kt 2) (kt 29))] [2]) .ret))))),[(2,(some (some 16)))]⟩
def Qid:ACode:=(.seq (.seq (kr [ko 8 (.move (kt 4)),ko 9 (.bin .lss (kt 8) (ki 16))] [1,2,3,4,9]) (.cond (kt 9) .skip (.exit 0))) (.seq (.block 1 (.seq (kr [ko 12 (.move (kt 4)),ko 13 (.bin .mul (ki 2) (kt 12)),ko 14 (.move (kt 4)),ko 15 (.indexAddr 16 1 (kt 1) (kt 14)),ko 16 (.load none (kt 15)),ko 17 (.bin .rem (kt 16) (.const (.int .u64 256))),ko 18 (.conv .u8 (kt 17)),ko 19 (.indexAddr 32 1 (kt 3) (kt 13)),kq (.store 1 (kt 19) (kt 18))] [1,2,3,4]) (kr [ko 20 (.move (kt 4)),ko 21 (.bin .mul (ki 2) (kt 20)),ko 22 (.bin .add (kt 21) (ki 1)),ko 23 (.move (kt 4)),ko 24 (.indexAddr 16 1 (kt 1) (kt 23)),ko 25 (.load none (kt 24)),ko 26 (.bin .quo (kt 25) (.const (.int .u64 256))),ko 27 (.conv .u8 (kt 26)),ko 28 (.indexAddr 32 1 (kt 3) (kt 22)),kq (.store 1 (kt 28) (kt 27))] [1,2,3,4]))) (kr [ko 10 (.move (kt 4)),ko 11 (.bin .add (kt 10) (ki 1)),ko 4 (.move (kt 11))] [1,2,3,4])))
def a66:AFun:=⟨(.seq (kr [ko 1 (.box (kt 0)),ko 2 (.alloc (Qa 32 (.int .u8 0)))] [1,2]) (.seq (kr [ko 5 (.load (some 16) (kt 1)),ko 6 (.call 94 [(kt 5)] true),kq (.store 16 (kt 1) (kt 6))] [1,2]) (.seq (kr [ko 7 (.build (Qa 32 (.int .u8 0)) []),ko 3 (.alloc (Qa 32 (.int .u8 0))),kq (.store 32 (kt 3) (kt 7))] [1,2,3]) (.seq (.seq (kr [ko 4 (.move (ki 0))] [1,2,3,4]) (.block 0 (.loop Qid))) (.seq (kr [ko 29 (.load (some 32) (kt 3)),kq (.store 32 (kt 2) (kt 29))] [2]) .ret))))),[(2,(some (some 32)))]⟩
def Qic:ACode:=(.seq (.seq (kr [ko 12 (.move (kt 7)),ko 13 (.bin .lss (kt 12) (ki 16))] [2,3,4,5,6,7,13]) (.cond (kt 13) .skip (.exit 2))) (.seq (.block 3 (kr [ko 16 (.move (kt 6)),ko 17 (.move (kt 7)),ko 18 (.bin .add (kt 16) (kt 17)),ko 19 (.indexAddr 32 1 (kt 5) (kt 18)),ko 20 (.load none (kt 19)),ko 21 (.move (kt 6)),ko 22 (.indexAddr 16 1 (kt 2) (kt 21)),ko 23 (.load none (kt 22)),ko 24 (.move (kt 7)),ko 25 (.indexAddr 16 1 (kt 3) (kt 24)),ko 26 (.load none (kt 25)),ko 27 (.bin .mul (kt 23) (kt 26)),ko 28 (.bin .add (kt 20) (kt 27)),ko 29 (.indexAddr 32 1 (kt 5) (kt 18)),kq (.store 1 (kt 29) (kt 28))] [2,3,4,5,6,7])) (kr [ko 14 (.move (kt 7)),ko 15 (.bin .add (kt 14) (ki 1)),ko 7 (.move (kt 15))] [2,3,4,5,6,7])))
def Qib:ACode:=(.seq (.seq (kr [ko 8 (.move (kt 6)),ko 9 (.bin .lss (kt 8) (ki 16))] [2,3,4,5,6,9]) (.cond (kt 9) .skip (.exit 0))) (.seq (.block 1 (.seq (kr [ko 7 (.move (ki 0))] [2,3,4,5,6,7]) (.block 2 (.loop Qic)))) (kr [ko 10 (.move (kt 6)),ko 11 (.bin .add (kt 10) (ki 1)),ko 6 (.move (kt 11))] [2,3,4,5,6])))
def a67:AFun:=⟨(.seq (kr [ko 2 (.box (kt 0)),ko 3 (.box (kt 1)),ko 4 (.alloc (Qa 16 (.int .u64 0)))] [2,3,4]) (.seq (kr [ko 5 (.alloc (Qa 32 (.int .u64 0)))] [2,3,4,5]) (.seq (.seq (kr [ko 6 (.move (ki 0))] [2,3,4,5,6]) (.block 0 (.loop Qib))) (.seq (kr [ko 30 (.load (some 32) (kt 5)),ko 31 (.call 95 [(kt 30)] true),kq (.store 16 (kt 4) (kt 31))] [4]) .ret)))),[(4,(some (some 16)))]⟩
def Qia:ACode:=(.seq (.seq (kr [ko 19 (.move (kt 7)),ko 20 (.bin .geq (kt 19) (ki 0))] [1,2,4,5,6,7,20]) (.cond (kt 20) .skip (.exit 2))) (.seq (.block 3 (.seq (kr [ko 23 (.move (kt 7)),ko 24 (.indexAddr 16 1 (kt 4) (kt 23)),ko 25 (.load none (kt 24)),ko 26 (.move (kt 6)),ko 27 (.bin .mul (kt 26) (.const (.int .u64 65536))),ko 28 (.bin .add (kt 25) (kt 27)),ko 8 (.move (kt 28))] [1,2,4,5,7,8]) (.seq (kr [ko 29 (.move (kt 7)),ko 30 (.move (kt 8)),ko 31 (.bin .quo (kt 30) (.const (.int .u64 2))),ko 32 (.indexAddr 16 1 (kt 4) (kt 29)),kq (.store 1 (kt 32) (kt 31))] [1,2,4,5,7,8]) (kr [ko 33 (.move (kt 8)),ko 34 (.bin .rem (kt 33) (.const (.int .u64 2))),ko 6 (.move (kt 34))] [1,2,4,5,6,7])))) (kr [ko 21 (.move (kt 7)),ko 22 (.bin .sub (kt 21) (ki 1)),ko 7 (.move (kt 22))] [1,2,4,5,6,7])))
def Qh9:ACode:=(.seq (.seq (kr [ko 15 (.move (kt 5)),ko 16 (.bin .lss (kt 15) (ki 3))] [1,2,4,5,16]) (.cond (kt 16) .skip (.exit 0))) (.seq (.block 1 (.seq (kr [ko 6 (.move (.const (.int .u64 0)))] [1,2,4,5,6]) (.seq (kr [ko 7 (.move (ki 15))] [1,2,4,5,6,7]) (.block 2 (.loop Qia))))) (kr [ko 17 (.move (kt 5)),ko 18 (.bin .add (kt 17) (ki 1)),ko 5 (.move (kt 18))] [1,2,4,5])))
def a68:AFun:=⟨(.seq (kr [ko 1 (.box (kt 0)),ko 2 (.alloc (Qa 16 (.int .u64 0))),ko 3 (.move (.const (.bool false)))] [1,2]) (.seq (kr [ko 10 (.call 93 [] true),ko 4 (.alloc (Qa 16 (.int .u64 0))),kq (.store 16 (kt 4) (kt 10))] [1,2,4]) (.seq (kr [ko 11 (.indexAddr 16 1 (kt 4) (ki 0)),ko 12 (.load none (kt 11)),ko 13 (.bin .add (kt 12) (.const (.int .u64 3))),ko 14 (.indexAddr 16 1 (kt 4) (ki 0)),kq (.store 1 (kt 14) (kt 13))] [1,2,4]) (.seq (.seq (kr [ko 5 (.move (ki 0))] [1,2,4,5]) (.block 0 (.loop Qh9))) (.seq (kr [ko 35 (.load (some 16) (kt 1)),ko 36 (.load (some 16) (kt 4)),ko 37 (.call 91 [(kt 35),(kt 36)] true),ko 9 (.alloc (Qa 16 (.int .u64 0))),kq (.store 16 (kt 9) (kt 37))] [1,2,9]) (.seq (.seq (kr [ko 38 (.load (some 16) (kt 9)),ko 39 (.load (some 16) (kt 9)),ko 40 (.call 57 [(kt 38),(kt 39)] true),ko 41 (.call 94 [(kt 40)] true),ko 42 (.load (some 16) (kt 1)),ko 43 (.call 94 [(kt 42)] true),ko 44 (.eqv (some (Qa 16 true)) true (kt 41) (kt 43))] [1,2,9,44]) (.cond (kt 44) (kr [ko 45 (.load (some 16) (kt 9)),ko 46 (.call 97 [] true),ko 47 (.call 57 [(kt 45),(kt 46)] true),kq (.store 16 (kt 9) (kt 47))] [1,2,9]) .skip)) (.seq (kr [ko 48 (.load (some 16) (kt 9)),ko 49 (.call 94 [(kt 48)] true),ko 50 (.load (some 16) (kt 9)),ko 51 (.load (some 16) (kt 9)),ko 52 (.call 57 [(kt 50),(kt 51)] true),ko 53 (.call 94 [(kt 52)] true),ko 54 (.load (some 16) (kt 1)),ko 55 (.call 94 [(kt 54)] true),ko 56 (.eqv (some (Qa 16 true)) false (kt 53) (kt 55)),kq (.store 16 (kt 2) (kt 49)),ko 3 (.move (kt 56))] [2,3]) .ret))))))),[(2,(some (some 16))),(3,none)]⟩
def a69:AFun:=⟨(.seq (kr [ko 2 (.box (kt 0)),ko 3 (.box (kt 1)),ko 4 (.alloc (Qa 16 (.int .u64 0)))] [2,3,4]) (.seq (kr [ko 5 (.load (some 16) (kt 2)),ko 6 (.load (some 16) (kt 3)),ko 7 (.call 74 [(kt 6)] true),ko 8 (.call 73 [(kt 5),(kt 7)] true),kq (.store 16 (kt 4) (kt 8))] [4]) .ret)),[(4,(some (some 16)))]⟩
def a70:AFun:=⟨(.seq (kr [ko 2 (.alloc (Qa 16 (.int .u64 0)))] [0,2]) (.seq (kr [ko 3 (.move (kt 0)),ko 4 (.bin .rem (kt 3) (.const (.int .u64 65536))),ko 5 (.move (kt 0)),ko 6 (.bin .quo (kt 5) (.const (.int .u64 65536))),ko 7 (.bin .rem (kt 6) (.const (.int .u64 65536))),ko 8 (.build (Qa 16 (.int .u64 0)) [(0,(1,(kt 4))),(1,(1,(kt 7)))]),kq (.store 16 (kt 2) (kt 8))] [2]) .ret)),[(2,(some (some 16)))]⟩
def a71:AFun:=⟨(.seq (kr [ko 1 (.box (kt 0)),ko 2 (.alloc (Qa 16 (.int .u64 0)))] [1,2]) (.seq (kr [ko 3 (.load (some 16) (kt 1)),ko 4 (.call 93 [] true),ko 5 (.call 59 [(.const (.int .u64 2))] true),ko 6 (.call 92 [(kt 4),(kt 5)] true),ko 7 (.call 91 [(kt 3),(kt 6)] true),kq (.store 16 (kt 2) (kt 7))] [2]) .ret)),[(2,(some (some 16)))]⟩
def Qh8:ACode:=(.seq (.seq (kr [ko 7 (.move (kt 6)),ko 8 (.bin .lss (kt 7) (ki 16))] [2,3,4,5,6,8]) (.cond (kt 8) .skip (.exit 0))) (.seq (.block 1 (kr [ko 11 (.move (kt 6)),ko 12 (.move (kt 6)),ko 13 (.indexAddr 16 1 (kt 2) (kt 12)),ko 14 (.load none (kt 13)),ko 15 (.move (kt 6)),ko 16 (.indexAddr 16 1 (kt 3) (kt 15)),ko 17 (.load none (kt 16)),ko 18 (.bin .add (kt 14) (kt 17)),ko 19 (.indexAddr 32 1 (kt 5) (kt 11)),kq (.store 1 (kt 19) (kt 18))] [2,3,4,5,6])) (kr [ko 9 (.move (kt 6)),ko 10 (.bin .add (kt 9) (ki 1)),ko 6 (.move (kt 10))] [2,3,4,5,6])))
def a72:AFun:=⟨(.seq (kr [ko 2 (.box (kt 0)),ko 3 (.box (kt 1)),ko 4 (.alloc (Qa 16 (.int .u64 0)))] [2,3,4]) (.seq (kr [ko 5 (.alloc (Qa 32 (.int .u64 0)))] [2,3,4,5]) (.seq (.seq (kr [ko 6 (.move (ki 0))] [2,3,4,5,6]) (.block 0 (.loop Qh8))) (.seq (kr [ko 20 (.load (some 32) (kt 5)),ko 21 (.call 95 [(kt 20)] true),kq (.store 16 (kt 4) (kt 21))] [4]) .ret)))),[(4,(some (some 16)))]⟩
def a73:AFun:=⟨(.seq (kr [ko 1 (.box (kt 0)),ko 2 (.alloc (Qa 16 (.int .u64 0)))] [1,2]) (.seq (kr [ko 3 (.load (some 16) (kt 1)),ko 4 (.call 94 [(kt 3)] true),kq (.store 16 (kt 1) (kt 4))] [1,2]) (.seq (.seq (kr [ko 5 (.load (some 16) (kt 1)),ko 6 (.build (Qa 16 (.int .u64 0)) []),ko 7 (.eqv (some (Qa 16 true)) false (kt 5) (kt 6))] [1,2,7]) (.cond (kt 7) (.seq (kr [ko 8 (.load (some 16) (kt 1)),kq (.store 16 (kt 2) (kt 8))] [2]) .ret) .skip)) (.seq (kr [ko 9 (.call 93 [] true),ko 10 (.load (some 16) (kt 1)),ko 11 (.call 92 [(kt 9),(kt 10)] true),kq (.store 16 (kt 2) (kt 11))] [2]) .ret)))),[(2,(some (some 16)))]⟩
def a74:AFun:=⟨(.seq (kr [ko 0 (.alloc (Qa 48 (.int .u64 0)))] [0]) (.seq (kr [ko 1 (.call 59 [(.const (.int .u64 1))] true),ko 2 (.call 59 [(.const (.int .u64 1))] true),ko 3 (.build (Qa 48 (.int .u64 0)) [(16,(16,(kt 1))),(32,(16,(kt 2)))]),kq (.store 48 (kt 0) (kt 3))] [0]) .ret)),[(0,(some (some 48)))]⟩
def a75:AFun:=⟨(.seq (kr [ko 6 (.move (.const (.int .u32 0))),ko 7 (.move (.const (.int .u32 0)))] [0,1,2]) (.seq (kr [ko 8 (.move (kt 0)),ko 9 (.move (kt 1)),ko 10 (.bin .sub (kt 8) (kt 9)),ko 11 (.move (kt 2)),ko 12 (.bin .sub (kt 10) (kt 11)),ko 6 (.move (kt 12))] [0,1,6]) (.seq (kr [ko 13 (.move (kt 0)),ko 14 (.un .xor (kt 13)),ko 15 (.move (kt 1)),ko 16 (.bin .and (kt 14) (kt 15)),ko 17 (.move (kt 0)),ko 18 (.move (kt 1)),ko 19 (.bin .xor (kt 17) (kt 18)),ko 20 (.un .xor (kt 19)),ko 21 (.move (kt 6)),ko 22 (.bin .and (kt 20) (kt 21)),ko 23 (.bin .or (kt 16) (kt 22)),ko 24 (.bin .shr (kt 23) (.const (.int .u64 31))),ko 7 (.move (kt 24))] [6,7]) .ret))),[(6,none),(7,none)]⟩
def a76:AFun:=⟨(.seq (kr [ko 6 (.move (.const (.int .u32 0))),ko 7 (.move (.const (.int .u32 0)))] [0,1,2]) (.seq (kr [ko 9 (.move (kt 0)),ko 10 (.conv .u64 (kt 9)),ko 11 (.move (kt 1)),ko 12 (.conv .u64 (kt 11)),ko 13 (.bin .add (kt 10) (kt 12)),ko 14 (.move (kt 2)),ko 15 (.conv .u64 (kt 14)),ko 16 (.bin .add (kt 13) (kt 15)),ko 8 (.move (kt 16))] [8]) (.seq (kr [ko 17 (.move (kt 8)),ko 18 (.conv .u32 (kt 17)),ko 6 (.move (kt 18))] [6,8]) (.seq (kr [ko 19 (.move (kt 8)),ko 20 (.bin .shr (kt 19) (.const (.int .u64 32))),ko 21 (.conv .u32 (kt 20)),ko 7 (.move (kt 21))] [6,7]) .ret)))),[(6,none),(7,none)]⟩
def a77:AFun:=⟨(.seq (kr [ko 4 (.alloc [(.int .u64 0),(.int .u64 0)])] [0,1,4]) (.seq (kr [ko 8 (.move (kt 0)),ko 9 (.move (kt 1)),ko 10 (.call 101 [(kt 8),(kt 9)] true),ko 7 (.move (kt 10)),ko 11 (.extract (kt 7) 0),ko 12 (.extract (kt 7) 1),ko 5 (.move (kt 11)),ko 6 (.move (kt 12))] [4,5,6]) (.seq (kr [ko 13 (.move (kt 5)),ko 14 (.move (kt 6)),ko 15 (.build [(.int .u64 0),(.int .u64 0)] [(0,(1,(kt 13))),(1,(1,(kt 14)))]),kq (.store 2 (kt 4) (kt 15))] [4]) .ret))),[(4,(some (some 2)))]⟩
def a78:AFun:=⟨(.seq (kr [ko 3 (.box (kt 0)),ko 6 (.alloc [(.int .u64 0),(.int .u64 0)])] [1,2,3,6]) (.seq (kr [ko 11 (.move (kt 1)),ko 12 (.move (kt 2)),ko 13 (.call 101 [(kt 11),(kt 12)] true),ko 10 (.move (kt 13)),ko 14 (.extract (kt 10) 0),ko 15 (.extract (kt 10) 1),ko 7 (.move (kt 14)),ko 8 (.move (kt 15))] [3,6,7,8]) (.seq (kr [ko 17 (.fieldAddr 1 (kt 3)),ko 18 (.load none (kt 17)),ko 19 (.move (kt 8)),ko 20 (.call 102 [(kt 18),(kt 19),(.const (.int .u64 0))] true),ko 16 (.move (kt 20)),ko 21 (.extract (kt 16) 0),ko 22 (.extract (kt 16) 1),ko 8 (.move (kt 21)),ko 9 (.move (kt 22))] [3,6,7,8,9]) (.seq (kr [ko 24 (.fieldAddr 0 (kt 3)),ko 25 (.load none (kt 24)),ko 26 (.move (kt 7)),ko 27 (.move (kt 9)),ko 28 (.call 102 [(kt 25),(kt 26),(kt 27)] true),ko 23 (.move (kt 28)),ko 29 (.extract (kt 23) 0),ko 30 (.extract (kt 23) 1),ko 7 (.move (kt 29))] [6,7,8]) (.seq (kr [ko 31 (.move (kt 7)),ko 32 (.move (kt 8)),ko 33 (.build [(.int .u64 0),(.int .u64 0)] [(0,(1,(kt 31))),(1,(1,(kt 32)))]),kq (.store 2 (kt 6) (kt 33))] [6]) .ret))))),[(6,(some (some 2)))]⟩
def a79:AFun:=⟨(.seq (kr [ko 1 (.box (kt 0)),ko 2 (.move (.const (.int .u64 0))),ko 3 (.move (.const (.int .u64 0)))] [1]) (.seq (kr [ko 4 (.fieldAddr 0 (kt 1)),ko 5 (.load none (kt 4)),ko 6 (.bin .shl (kt 5) (.const (.int .u64 13))),ko 7 (.fieldAddr 1 (kt 1)),ko 8 (.load none (kt 7)),ko 9 (.bin .shr (kt 8) (.const (.int .u64 51))),ko 10 (.bin .or (kt 6) (kt 9)),ko 11 (.fieldAddr 1 (kt 1)),ko 12 (.load none (kt 11)),ko 13 (.bin .and (kt 12) (.const (.int .u64 2251799813685247))),ko 2 (.move (kt 10)),ko 3 (.move (kt 13))] [2,3]) .ret)),[(2,none),(3,none)]⟩
def a80:AFun:=⟨(.seq (kr [ko 2 (.box (kt 0)),ko 4 (.alloc [(.int .u64 0),(.int .u64 0)])] [1,2,4]) (.seq (kr [ko 8 (.fieldAddr 1 (kt 2)),ko 9 (.load none (kt 8)),ko 10 (.move (kt 1)),ko 11 (.call 102 [(kt 9),(kt 10),(.const (.int .u64 0))] true),ko 7 (.move (kt 11)),ko 12 (.extract (kt 7) 0),ko 13 (.extract (kt 7) 1),ko 5 (.move (kt 12)),ko 6 (.move (kt 13))] [2,4,5,6]) (.seq (kr [ko 14 (.fieldAddr 0 (kt 2)),ko 15 (.load none (kt 14)),ko 16 (.move (kt 6)),ko 17 (.bin .add (kt 15) (kt 16)),ko 18 (.move (kt 5)),ko 19 (.build [(.int .u64 0),(.int .u64 0)] [(0,(1,(kt 17))),(1,(1,(kt 18)))]),kq (.store 2 (kt 4) (kt 19))] [4]) .ret))),[(4,(some (some 2)))]⟩
def Qy0:ACode:=(.seq (kr [ko 6 (.bin .lss (kt 5) (ki 5))] [1,2,3,5,6]) (.seq (.cond (kt 6) .skip (.exit 0)) (.seq (.block 1 (.seq (kr [ko 7 (.move (kt 5)),ko 4 (.move (kt 7))] [1,2,3,4,5]) (.seq (kr [ko 8 (.move (kt 4)),ko 9 (.fieldAddr 0 (kt 1)),ko 10 (.indexAddr 5 1 (kt 9) (kt 8)),ko 11 (.load none (kt 10)),ko 12 (.move (kt 3)),ko 13 (.bin .add (kt 11) (kt 12)),ko 14 (.fieldAddr 0 (kt 1)),ko 15 (.indexAddr 5 1 (kt 14) (kt 8)),kq (.store 1 (kt 15) (kt 13))] [1,2,4,5]) (.seq (kr [ko 16 (.move (kt 4)),ko 17 (.fieldAddr 0 (kt 1)),ko 18 (.indexAddr 5 1 (kt 17) (kt 16)),ko 19 (.load none (kt 18)),ko 20 (.bin .shr (kt 19) (.const (.int .u64 51))),ko 3 (.move (kt 20))] [1,2,3,4,5]) (kr [ko 21 (.move (kt 4)),ko 22 (.fieldAddr 0 (kt 1)),ko 23 (.indexAddr 5 1 (kt 22) (kt 21)),ko 24 (.load none (kt 23)),ko 25 (.bin .and (kt 24) (.const (.int .u64 2251799813685247))),ko 26 (.fieldAddr 0 (kt 1)),ko 27 (.indexAddr 5 1 (kt 26) (kt 21)),kq (.store 1 (kt 27) (kt 25))] [1,2,3,5]))))) (kr [ko 28 (.bin .add (kt 5) (ki 1)),ko 5 (.move (kt 28))] [1,2,3,5]))))
def a81:AFun:=⟨(.seq (kr [ko 1 (.box (kt 0)),ko 2 (.alloc (Qa 5 (.int .u64 0)))] [1,2]) (.seq (kr [ko 3 (.move (.const (.int .u64 0)))] [1,2,3]) (.seq (.seq (kr [ko 5 (.move (ki 0))] [1,2,3,5]) (.block 0 (.loop Qy0))) (.seq (kr [ko 29 (.fieldAddr 0 (kt 1)),ko 30 (.indexAddr 5 1 (kt 29) (ki 0)),ko 31 (.load none (kt 30)),ko 32 (.move (kt 3)),ko 33 (.bin .mul (.const (.int .u64 19)) (kt 32)),ko 34 (.bin .add (kt 31) (kt 33)),ko 35 (.fieldAddr 0 (kt 1)),ko 36 (.indexAddr 5 1 (kt 35) (ki 0)),kq (.store 1 (kt 36) (kt 34))] [1,2]) (.seq (kr [ko 37 (.load (some 5) (kt 1)),kq (.store 5 (kt 2) (kt 37))] [2]) .ret))))),[(2,(some (some 5)))]⟩
def Qh7:ACode:=(.seq (kr [ko 10 (.bin .lss (kt 9) (kt 8))] [2,3,7,8,9,10]) (.seq (.cond (kt 10) .skip (.exit 0)) (.seq (.block 1 (.seq (kr [ko 11 (.indexSl 5 (kt 7) (kt 9)),ko 12 (.load (some 5) (kt 11)),ko 5 (.alloc (Qa 5 (.int .u64 0))),kq (.store 5 (kt 5) (kt 12))] [2,3,5,7,8,9]) (kr [ko 13 (.load (some 5) (kt 3)),ko 14 (.load (some 5) (kt 5)),ko 15 (.call 39 [(kt 13),(kt 14)] true),kq (.store 5 (kt 3) (kt 15))] [2,3,7,8,9]))) (kr [ko 16 (.bin .add (kt 9) (ki 1)),ko 9 (.move (kt 16))] [2,3,7,8,9]))))
def a82:AFun:=⟨(.seq (kr [ko 2 (.alloc (Qa 5 (.int .u64 0)))] [0,2]) (.seq (kr [ko 6 (.call 38 [(.const (.int .u32 1))] true),ko 3 (.alloc (Qa 5 (.int .u64 0))),kq (.store 5 (kt 3) (kt 6))] [0,2,3]) (.seq (.seq (kr [ko 7 (.move (kt 0)),ko 8 (.len false (kt 7)),ko 9 (.move (ki 0))] [2,3,7,8,9]) (.block 0 (.loop Qh7))) (.seq (kr [ko 17 (.load (some 5) (kt 3)),kq (.store 5 (kt 2) (kt 17))] [2]) .ret)))),[(2,(some (some 5)))]⟩
def Qe4:ACode:=(.seq (.seq (kr [ko 8 (.move (kt 6)),ko 9 (.bin .geq (kt 8) (ki 0))] [2,3,4,5,6,9]) (.cond (kt 9) .skip (.exit 0))) (.seq (.block 1 (.seq (kr [ko 12 (.load (some 5) (kt 5)),ko 13 (.load (some 5) (kt 5)),ko 14 (.call 39 [(kt 12),(kt 13)] true),kq (.store 5 (kt 5) (kt 14))] [2,3,4,5,6]) (.seq (kr [ko 15 (.move (kt 6)),ko 16 (.bin .quo (kt 15) (ki 8)),ko 17 (.indexAddr 32 1 (kt 3) (kt 16)),ko 18 (.load none (kt 17)),ko 19 (.move (kt 6)),ko 20 (.bin .rem (kt 19) (ki 8)),ko 21 (.bin .shr (kt 18) (kt 20)),ko 22 (.bin .and (kt 21) (.const (.int .u8 1))),ko 23 (.bin .eql (kt 22) (.const (.int .u8 1)))] [2,3,4,5,6,23]) (.cond (kt 23) (kr [ko 24 (.load (some 5) (kt 5)),ko 25 (.load (some 5) (kt 2)),ko 26 (.call 39 [(kt 24),(kt 25)] true),kq (.store 5 (kt 5) (kt 26))] [2,3,4,5,6]) .skip)))) (kr [ko 10 (.move (kt 6)),ko 11 (.bin .sub (kt 10) (ki 1)),ko 6 (.move (kt 11))] [2,3,4,5,6])))
def a83:AFun:=⟨(.seq (kr [ko 2 (.box (kt 0)),ko 3 (.box (kt 1)),ko 4 (.alloc (Qa 5 (.int .u64 0)))] [2,3,4]) (.seq (kr [ko 7 (.call 38 [(.const (.int .u32 1))] true),ko 5 (.alloc (Qa 5 (.int .u64 0))),kq (.store 5 (kt 5) (kt 7))] [2,3,4,5]) (.seq (.seq (kr [ko 6 (.move (ki 255))] [2,3,4,5,6]) (.block 0 (.loop Qe4))) (.seq (kr [ko 27 (.load (some 5) (kt 5)),kq (.store 5 (kt 4) (kt 27))] [4]) .ret)))),[(4,(some (some 5)))]⟩
def Qh6:ACode:=(.seq (kr [ko 9 (.bin .lss (kt 8) (kt 7))] [1,4,5,7,8,9]) (.seq (.cond (kt 9) .skip (.exit 0)) (.seq (.block 1 (.seq (kr [ko 10 (.move (kt 8)),ko 6 (.move (kt 10))] [1,4,5,6,7,8]) (kr [ko 11 (.move (kt 6)),ko 12 (.bin .quo (kt 11) (ki 8)),ko 13 (.indexAddr 32 1 (kt 5) (kt 12)),ko 14 (.load none (kt 13)),ko 15 (.move (kt 6)),ko 16 (.bin .rem (kt 15) (ki 8)),ko 17 (.bin .shl (.const (.int .u8 1)) (kt 16)),ko 18 (.bin .or (kt 14) (kt 17)),ko 19 (.indexAddr 32 1 (kt 5) (kt 12)),kq (.store 1 (kt 19) (kt 18))] [1,4,5,7,8]))) (kr [ko 20 (.bin .add (kt 8) (ki 1)),ko 8 (.move (kt 20))] [1,4,5,7,8]))))
def a84:AFun:=⟨(.seq (kr [ko 4 (.alloc (Qa 32 (.int .u8 0)))] [0,1,4]) (.seq (kr [ko 5 (.alloc (Qa 32 (.int .u8 0)))] [0,1,4,5]) (.seq (.seq (kr [ko 7 (.move (kt 0)),ko 8 (.move (ki 0))] [1,4,5,7,8]) (.block 0 (.loop Qh6))) (.seq (kr [ko 21 (.indexAddr 32 1 (kt 5) (ki 0)),ko 22 (.load none (kt 21)),ko 23 (.move (kt 1)),ko 24 (.bin .sub (kt 22) (kt 23)),ko 25 (.indexAddr 32 1 (kt 5) (ki 0)),kq (.store 1 (kt 25) (kt 24))] [4,5]) (.seq (kr [ko 26 (.load (some 32) (kt 5)),kq (.store 32 (kt 4) (kt 26))] [4]) .ret))))),[(4,(some (some 32)))]⟩
def Qlz:ACode:=(.seq (.seq (kr [ko 3 (.load (some 16) (kt 1)),ko 4 (.call 93 [] true),ko 5 (.call 108 [(kt 3),(kt 4)] true),ko 6 (.un .not (kt 5))] [1,2,6]) (.cond (kt 6) .skip (.exit 0))) (.block 1 (kr [ko 7 (.load (some 16) (kt 1)),ko 8 (.call 93 [] true),ko 9 (.call 92 [(kt 7),(kt 8)] true),kq (.store 16 (kt 1) (kt 9))] [1,2])))
def a85:AFun:=⟨(.seq (kr [ko 1 (.box (kt 0)),ko 2 (.alloc (Qa 16 (.int .u64 0)))] [1,2]) (.seq (.block 0 (.loop Qlz)) (.seq (kr [ko 10 (.load (some 16) (kt 1)),kq (.store 16 (kt 2) (kt 10))] [2]) .ret))),[(2,(some (some 16)))]⟩
def Qh5:ACode:=(.seq (.seq (kr [ko 46 (.move (kt 9)),ko 47 (.bin .lss (kt 46) (ki 16))] [1,2,9,47]) (.cond (kt 47) .skip (.exit 6))) (.seq (.block 7 (.seq (kr [ko 50 (.move (kt 9)),ko 51 (.indexAddr 32 1 (kt 1) (kt 50)),ko 52 (.load none (kt 51)),ko 53 (.move (kt 9)),ko 54 (.bin .add (kt 53) (ki 16)),ko 55 (.indexAddr 32 1 (kt 1) (kt 54)),ko 56 (.load none (kt 55)),ko 57 (.bin .mul (.const (.int .u64 38)) (kt 56)),ko 58 (.bin .add (kt 52) (kt 57)),ko 59 (.indexAddr 32 1 (kt 1) (kt 50)),kq (.store 1 (kt 59) (kt 58))] [1,2,9]) (kr [ko 60 (.move (kt 9)),ko 61 (.bin .add (kt 60) (ki 16)),ko 62 (.indexAddr 32 1 (kt 1) (kt 61)),kq (.store 1 (kt 62) (.const (.int .u64 0)))] [1,2,9]))) (kr [ko 48 (.move (kt 9)),ko 49 (.bin .add (kt 48) (ki 1)),ko 9 (.move (kt 49))] [1,2,9])))
def Qch:ACode:=(.seq (.seq (kr [ko 26 (.move (kt 8)),ko 27 (.bin .lss (kt 26) (ki 16))] [1,2,6,7,8,27]) (.cond (kt 27) .skip (.exit 4))) (.seq (.block 5 (.seq (kr [ko 30 (.move (kt 8)),ko 31 (.move (kt 8)),ko 32 (.indexAddr 32 1 (kt 1) (kt 31)),ko 33 (.load none (kt 32)),ko 34 (.indexAddr 16 1 (kt 6) (kt 30)),kq (.store 1 (kt 34) (kt 33))] [1,2,6,7,8]) (kr [ko 35 (.move (kt 7)),ko 36 (.move (kt 35)),.mk (some 37) (.move (kt 8)) (some (36,false)),.mk (some 38) (.bin .add (kt 37) (ki 16)) (some (36,false)),.mk (some 39) (.indexAddr 32 1 (kt 1) (kt 38)) (some (36,false)),.mk (some 40) (.load none (kt 39)) (some (36,false)),.mk (some 41) (.bin .neq (kt 40) (.const (.int .u64 0))) (some (36,false)),ko 42 (.pick (kt 36) (.const (.bool true)) (kt 41)),ko 7 (.move (kt 42))] [1,2,6,7,8]))) (kr [ko 28 (.move (kt 8)),ko 29 (.bin .add (kt 28) (ki 1)),ko 8 (.move (kt 29))] [1,2,6,7,8])))
def Qh4:ACode:=(.seq (.seq (kr [ko 10 (.move (kt 4)),ko 11 (.bin .lss (kt 10) (ki 32))] [1,2,3,4,11]) (.cond (kt 11) .skip (.exit 2))) (.seq (.block 3 (.seq (kr [ko 14 (.move (kt 4)),ko 15 (.indexAddr 32 1 (kt 1) (kt 14)),ko 16 (.load none (kt 15)),ko 17 (.move (kt 3)),ko 18 (.bin .add (kt 16) (kt 17)),ko 5 (.move (kt 18))] [1,2,4,5]) (.seq (kr [ko 19 (.move (kt 4)),ko 20 (.move (kt 5)),ko 21 (.bin .rem (kt 20) (.const (.int .u64 65536))),ko 22 (.indexAddr 32 1 (kt 1) (kt 19)),kq (.store 1 (kt 22) (kt 21))] [1,2,4,5]) (kr [ko 23 (.move (kt 5)),ko 24 (.bin .quo (kt 23) (.const (.int .u64 65536))),ko 3 (.move (kt 24))] [1,2,3,4])))) (kr [ko 12 (.move (kt 4)),ko 13 (.bin .add (kt 12) (ki 1)),ko 4 (.move (kt 13))] [1,2,3,4])))
def Qly:ACode:=(.block 1 (.seq (kr [ko 3 (.move (.const (.int .u64 0)))] [1,2,3]) (.seq (.seq (kr [ko 4 (.move (ki 0))] [1,2,3,4]) (.block 2 (.loop Qh4))) (.seq (kr [ko 25 (.build (Qa 16 (.int .u64 0)) []),ko 6 (.alloc (Qa 16 (.int .u64 0))),kq (.store 16 (kt 6) (kt 25))] [1,2,6]) (.seq (kr [ko 7 (.move (.const (.bool false)))] [1,2,6,7]) (.seq (.seq (kr [ko 8 (.move (ki 0))] [1,2,6,7,8]) (.block 4 (.loop Qch))) (.seq (.seq (kr [ko 43 (.move (kt 7)),ko 44 (.un .not (kt 43))] [1,2,6,44]) (.cond (kt 44) (.seq (kr [ko 45 (.load (some 16) (kt 6)),kq (.store 16 (kt 2) (kt 45))] [2]) .ret) .skip)) (.seq (kr [ko 9 (.move (ki 0))] [1,2,9]) (.block 6 (.loop Qh5))))))))))
def a86:AFun:=⟨(.seq (kr [ko 1 (.box (kt 0)),ko 2 (.alloc (Qa 16 (.int .u64 0)))] [1,2]) (.block 0 (.loop Qly))),[(2,(some (some 16)))]⟩
def Qh3:ACode:=(.seq (.seq (kr [ko 4 (.move (kt 2)),ko 5 (.bin .lss (kt 4) (ki 16))] [0,1,2,5]) (.cond (kt 5) .skip (.exit 0))) (.seq (.block 1 (kr [ko 8 (.move (kt 2)),ko 9 (.indexAddr 16 1 (kt 1) (kt 8)),kq (.store 1 (kt 9) (.const (.int .u64 65535)))] [0,1,2])) (kr [ko 6 (.move (kt 2)),ko 7 (.bin .add (kt 6) (ki 1)),ko 2 (.move (kt 7))] [0,1,2])))
def a87:AFun:=⟨(.seq (kr [ko 0 (.alloc (Qa 16 (.int .u64 0)))] [0]) (.seq (kr [ko 3 (.build (Qa 16 (.int .u64 0)) []),ko 1 (.alloc (Qa 16 (.int .u64 0))),kq (.store 16 (kt 1) (kt 3))] [0,1]) (.seq (.seq (kr [ko 2 (.move (ki 0))] [0,1,2]) (.block 0 (.loop Qh3))) (.seq (kr [ko 10 (.indexAddr 16 1 (kt 1) (ki 0)),kq (.store 1 (kt 10) (.const (.int .u64 65517)))] [0,1]) (.seq (kr [ko 11 (.indexAddr 16 1 (kt 1) (ki 15)),kq (.store 1 (kt 11) (.const (.int .u64 32767)))] [0,1]) (.seq (kr [ko 12 (.load (some 16) (kt 1)),kq (.store 16 (kt 0) (kt 12))] [0]) .ret)))))),[(0,(some (some 16)))]⟩
def Qh2:ACode:=(.seq (.seq (kr [ko 21 (.move (kt 8)),ko 22 (.move (kt 6)),ko 23 (.bin .rem (kt 22) (ki 16)),ko 24 (.bin .lss (kt 21) (kt 23))] [2,3,4,5,6,7,8,24]) (.cond (kt 24) .skip (.exit 2))) (.seq (.block 3 (kr [ko 27 (.move (kt 7)),ko 28 (.bin .quo (kt 27) (.const (.int .u64 2))),ko 7 (.move (kt 28))] [2,3,4,5,6,7,8])) (kr [ko 25 (.move (kt 8)),ko 26 (.bin .add (kt 25) (ki 1)),ko 8 (.move (kt 26))] [2,3,4,5,6,7,8])))
def Qe3:ACode:=(.seq (.seq (kr [ko 10 (.move (kt 6)),ko 11 (.bin .geq (kt 10) (ki 0))] [2,3,4,5,6,11]) (.cond (kt 11) .skip (.exit 0))) (.seq (.block 1 (.seq (kr [ko 14 (.load (some 16) (kt 5)),ko 15 (.load (some 16) (kt 5)),ko 16 (.call 57 [(kt 14),(kt 15)] true),kq (.store 16 (kt 5) (kt 16))] [2,3,4,5,6]) (.seq (kr [ko 17 (.move (kt 6)),ko 18 (.bin .quo (kt 17) (ki 16)),ko 19 (.indexAddr 16 1 (kt 3) (kt 18)),ko 20 (.load none (kt 19)),ko 7 (.move (kt 20))] [2,3,4,5,6,7]) (.seq (.seq (kr [ko 8 (.move (ki 0))] [2,3,4,5,6,7,8]) (.block 2 (.loop Qh2))) (.seq (kr [ko 29 (.move (kt 7)),ko 30 (.bin .rem (kt 29) (.const (.int .u64 2))),ko 31 (.bin .eql (kt 30) (.const (.int .u64 1)))] [2,3,4,5,6,31]) (.cond (kt 31) (kr [ko 32 (.load (some 16) (kt 5)),ko 33 (.load (some 16) (kt 2)),ko 34 (.call 57 [(kt 32),(kt 33)] true),kq (.store 16 (kt 5) (kt 34))] [2,3,4,5,6]) .skip)))))) (kr [ko 12 (.move (kt 6)),ko 13 (.bin .sub (kt 12) (ki 1)),ko 6 (.move (kt 13))] [2,3,4,5,6])))
def a88:AFun:=⟨(.seq (kr [ko 2 (.box (kt 0)),ko 3 (.box (kt 1)),ko 4 (.alloc (Qa 16 (.int .u64 0)))] [2,3,4]) (.seq (kr [ko 9 (.call 59 [(.const (.int .u64 1))] true),ko 5 (.alloc (Qa 16 (.int .u64 0))),kq (.store 16 (kt 5) (kt 9))] [2,3,4,5]) (.seq (.seq (kr [ko 6 (.move (ki 255))] [2,3,4,5,6]) (.block 0 (.loop Qe3))) (.seq (kr [ko 35 (.load (some 16) (kt 5)),kq (.store 16 (kt 4) (kt 35))] [4]) .ret)))),[(4,(some (some 16)))]⟩
def Qh1:ACode:=(.seq (.seq (kr [ko 15 (.move (kt 4)),ko 16 (.bin .geq (kt 15) (ki 0))] [0,1,2,3,4,16]) (.cond (kt 16) .skip (.exit 2))) (.seq (.block 3 (.seq (kr [ko 19 (.move (kt 4)),ko 20 (.indexAddr 16 1 (kt 1) (kt 19)),ko 21 (.load none (kt 20)),ko 22 (.move (kt 3)),ko 23 (.bin .mul (kt 22) (.const (.int .u64 65536))),ko 24 (.bin .add (kt 21) (kt 23)),ko 5 (.move (kt 24))] [0,1,2,4,5]) (.seq (kr [ko 25 (.move (kt 4)),ko 26 (.move (kt 5)),ko 27 (.bin .quo (kt 26) (.const (.int .u64 2))),ko 28 (.indexAddr 16 1 (kt 1) (kt 25)),kq (.store 1 (kt 28) (kt 27))] [0,1,2,4,5]) (kr [ko 29 (.move (kt 5)),ko 30 (.bin .rem (kt 29) (.const (.int .u64 2))),ko 3 (.move (kt 30))] [0,1,2,3,4])))) (kr [ko 17 (.move (kt 4)),ko 18 (.bin .sub (kt 17) (ki 1)),ko 4 (.move (kt 18))] [0,1,2,3,4])))
def Qh0:ACode:=(.seq (.seq (kr [ko 11 (.move (kt 2)),ko 12 (.bin .lss (kt 11) (ki 2))] [0,1,2,12]) (.cond (kt 12) .skip (.exit 0))) (.seq (.block 1 (.seq (kr [ko 3 (.move (.const (.int .u64 0)))] [0,1,2,3]) (.seq (kr [ko 4 (.move (ki 15))] [0,1,2,3,4]) (.block 2 (.loop Qh1))))) (kr [ko 13 (.move (kt 2)),ko 14 (.bin .add (kt 13) (ki 1)),ko 2 (.move (kt 14))] [0,1,2])))
def a89:AFun:=⟨(.seq (kr [ko 0 (.alloc (Qa 16 (.int .u64 0)))] [0]) (.seq (kr [ko 6 (.call 93 [] true),ko 1 (.alloc (Qa 16 (.int .u64 0))),kq (.store 16 (kt 1) (kt 6))] [0,1]) (.seq (kr [ko 7 (.indexAddr 16 1 (kt 1) (ki 0)),ko 8 (.load none (kt 7)),ko 9 (.bin .sub (kt 8) (.const (.int .u64 1))),ko 10 (.indexAddr 16 1 (kt 1) (ki 0)),kq (.store 1 (kt 10) (kt 9))] [0,1]) (.seq (.seq (kr [ko 2 (.move (ki 0))] [0,1,2]) (.block 0 (.loop Qh0))) (.seq (kr [ko 31 (.call 59 [(.const (.int .u64 2))] true),ko 32 (.load (some 16) (kt 1)),ko 33 (.call 91 [(kt 31),(kt 32)] true),kq (.store 16 (kt 0) (kt 33))] [0]) .ret))))),[(0,(some (some 16)))]⟩
def Qhz:ACode:=(.seq (.seq (kr [ko 10 (.move (kt 7)),ko 11 (.bin .lss (kt 10) (ki 16))] [2,3,4,5,6,7,11]) (.cond (kt 11) .skip (.exit 0))) (.seq (.block 1 (.seq (kr [ko 14 (.move (kt 7)),ko 15 (.indexAddr 16 1 (kt 2) (kt 14)),ko 16 (.load none (kt 15)),ko 17 (.bin .add (kt 16) (.const (.int .u64 65536))),ko 18 (.move (kt 7)),ko 19 (.indexAddr 16 1 (kt 3) (kt 18)),ko 20 (.load none (kt 19)),ko 21 (.bin .sub (kt 17) (kt 20)),ko 22 (.move (kt 6)),ko 23 (.bin .sub (kt 21) (kt 22)),ko 8 (.move (kt 23))] [2,3,4,5,7,8]) (.seq (kr [ko 24 (.move (kt 7)),ko 25 (.move (kt 8)),ko 26 (.bin .rem (kt 25) (.const (.int .u64 65536))),ko 27 (.indexAddr 16 1 (kt 5) (kt 24)),kq (.store 1 (kt 27) (kt 26))] [2,3,4,5,7,8]) (kr [ko 28 (.move (kt 8)),ko 29 (.bin .quo (kt 28) (.const (.int .u64 65536))),ko 30 (.bin .sub (.const (.int .u64 1)) (kt 29)),ko 6 (.move (kt 30))] [2,3,4,5,6,7])))) (kr [ko 12 (.move (kt 7)),ko 13 (.bin .add (kt 12) (ki 1)),ko 7 (.move (kt 13))] [2,3,4,5,6,7])))
def a90:AFun:=⟨(.seq (kr [ko 2 (.box (kt 0)),ko 3 (.box (kt 1)),ko 4 (.alloc (Qa 16 (.int .u64 0)))] [2,3,4]) (.seq (kr [ko 9 (.build (Qa 16 (.int .u64 0)) []),ko 5 (.alloc (Qa 16 (.int .u64 0))),kq (.store 16 (kt 5) (kt 9))] [2,3,4,5]) (.seq (kr [ko 6 (.move (.const (.int .u64 0)))] [2,3,4,5,6]) (.seq (.seq (kr [ko 7 (.move (ki 0))] [2,3,4,5,6,7]) (.block 0 (.loop Qhz))) (.seq (kr [ko 31 (.load (some 16) (kt 5)),kq (.store 16 (kt 4) (kt 31))] [4]) .ret))))),[(4,(some (some 16)))]⟩
def a91:AFun:=⟨(.seq (kr [ko 4 (.move (.const (.int .u64 0))),ko 5 (.move (.const (.int .u64 0)))] [0,1]) (.seq (kr [ko 14 (.move (kt 0)),ko 15 (.bin .and (kt 14) (.const (.int .u64 4294967295))),ko 6 (.move (kt 15))] [0,1,6]) (.seq (kr [ko 16 (.move (kt 0)),ko 17 (.bin .shr (kt 16) (.const (.int .u64 32))),ko 7 (.move (kt 17))] [0,1,6,7]) (.seq (kr [ko 18 (.move (kt 1)),ko 19 (.bin .and (kt 18) (.const (.int .u64 4294967295))),ko 8 (.move (kt 19))] [0,1,6,7,8]) (.seq (kr [ko 20 (.move (kt 1)),ko 21 (.bin .shr (kt 20) (.const (.int .u64 32))),ko 9 (.move (kt 21))] [0,1,6,7,8,9]) (.seq (kr [ko 22 (.move (kt 6)),ko 23 (.move (kt 8)),ko 24 (.bin .mul (kt 22) (kt 23)),ko 10 (.move (kt 24))] [0,1,6,7,8,9,10]) (.seq (kr [ko 25 (.move (kt 7)),ko 26 (.move (kt 8)),ko 27 (.bin .mul (kt 25) (kt 26)),ko 28 (.move (kt 10)),ko 29 (.bin .shr (kt 28) (.const (.int .u64 32))),ko 30 (.bin .add (kt 27) (kt 29)),ko 11 (.move (kt 30))] [0,1,6,7,9,11]) (.seq (kr [ko 31 (.move (kt 11)),ko 32 (.bin .and (kt 31) (.const (.int .u64 4294967295))),ko 12 (.move (kt 32))] [0,1,6,7,9,11,12]) (.seq (kr [ko 33 (.move (kt 11)),ko 34 (.bin .shr (kt 33) (.const (.int .u64 32))),ko 13 (.move (kt 34))] [0,1,6,7,9,12,13]) (.seq (kr [ko 35 (.move (kt 12)),ko 36 (.move (kt 6)),ko 37 (.move (kt 9)),ko 38 (.bin .mul (kt 36) (kt 37)),ko 39 (.bin .add (kt 35) (kt 38)),ko 12 (.move (kt 39))] [0,1,7,9,12,13]) (.seq (kr [ko 40 (.move (kt 7)),ko 41 (.move (kt 9)),ko 42 (.bin .mul (kt 40) (kt 41)),ko 43 (.move (kt 13)),ko 44 (.bin .add (kt 42) (kt 43)),ko 45 (.move (kt 12)),ko 46 (.bin .shr (kt 45) (.const (.int .u64 32))),ko 47 (.bin .add (kt 44) (kt 46)),ko 4 (.move (kt 47))] [0,1,4]) (.seq (kr [ko 48 (.move (kt 0)),ko 49 (.move (kt 1)),ko 50 (.bin .mul (kt 48) (kt 49)),ko 5 (.move (kt 50))] [4,5]) .ret)))))))))))),[(4,none),(5,none)]⟩
def Qhy:ACode:=(.seq (.seq (kr [ko 6 (.move (kt 5)),ko 7 (.bin .geq (kt 6) (ki 0))] [2,3,5,7]) (.cond (kt 7) .skip (.exit 0))) (.seq (.block 1 (.seq (kr [ko 10 (.move (kt 5)),ko 11 (.indexAddr 16 1 (kt 2) (kt 10)),ko 12 (.load none (kt 11)),ko 13 (.move (kt 5)),ko 14 (.indexAddr 16 1 (kt 3) (kt 13)),ko 15 (.load none (kt 14)),ko 16 (.bin .neq (kt 12) (kt 15))] [2,3,5,16]) (.cond (kt 16) (.seq (kr [ko 17 (.move (kt 5)),ko 18 (.indexAddr 16 1 (kt 2) (kt 17)),ko 19 (.load none (kt 18)),ko 20 (.move (kt 5)),ko 21 (.indexAddr 16 1 (kt 3) (kt 20)),ko 22 (.load none (kt 21)),ko 23 (.bin .lss (kt 19) (kt 22)),ko 4 (.move (kt 23))] [4]) .ret) .skip))) (kr [ko 8 (.move (kt 5)),ko 9 (.bin .sub (kt 8) (ki 1)),ko 5 (.move (kt 9))] [2,3,5])))
def a93:AFun:=⟨(.seq (kr [ko 2 (.box (kt 0)),ko 3 (.box (kt 1)),ko 4 (.move (.const (.bool false)))] [2,3]) (.seq (.seq (kr [ko 5 (.move (ki 15))] [2,3,5]) (.block 0 (.loop Qhy))) (.seq (kr [ko 4 (.move (.const (.bool false)))] [4]) .ret))),[(4,none)]⟩
def Q3i:AFun:=⟨(.seq (kr [ko 0 (.move (.const (.bool false)))] []) (.seq (kr [ko 3 (.build (Qa 32 (.int .u8 0)) [(0,(1,(.const (.int .u8 1))))]),ko 4 (.buildSlice [(.int .u8 0)] 1 [(0,(1,(.const (.int .u8 97))))]),ko 5 (.convSl (kt 4)),ko 6 (.buildSlice [(.int .u8 0)] 1 [(0,(1,(.const (.int .u8 98))))]),ko 7 (.convSl (kt 6)),ko 8 (.buildSlice [(.slice none 0 0),(.slice none 0 0)] 2 [(0,(1,(kt 5))),(1,(1,(kt 7)))]),ko 9 (.call 7 [(kt 3),(kt 8)] false),ko 1 (.alloc (Qa 64 (.int .u8 0))),kq (.store 64 (kt 1) (kt 9))] [1]) (.seq (kr [ko 10 (.build (Qa 32 (.int .u8 0)) [(0,(1,(.const (.int .u8 1))))]),ko 11 (.call 9 [(kt 10)] true),ko 2 (.alloc (Qa 32 (.int .u8 0))),kq (.store 32 (kt 2) (kt 11))] [1,2]) (.seq (kr [ko 12 (.load (some 32) (kt 2)),ko 13 (.load (some 64) (kt 1)),ko 14 (.buildSlice [(.int .u8 0),(.int .u8 0)] 2 [(0,(1,(.const (.int .u8 97)))),(1,(1,(.const (.int .u8 98))))]),ko 15 (.convSl (kt 14)),ko 16 (.buildSlice [(.slice none 0 0)] 1 [(0,(1,(kt 15)))]),ko 17 (.call 11 [(kt 12),(kt 13),(kt 16)] false),ko 18 (.bin .eql (kt 17) (ki 0)),ko 19 (.move (kt 18)),.mk (some 20) (.load (some 32) (kt 2)) (some (19,true)),.mk (some 21) (.load (some 64) (kt 1)) (some (19,true)),.mk (some 22) (.buildSlice [(.int .u8 0),(.int .u8 0)] 2 [(0,(1,(.const (.int .u8 97)))),(1,(1,(.const (.int .u8 99))))]) (some (19,true)),.mk (some 23) (.convSl (kt 22)) (some (19,true)),.mk (some 24) (.buildSlice [(.slice none 0 0)] 1 [(0,(1,(kt 23)))]) (some (19,true)),.mk (some 25) (.call 11 [(kt 20),(kt 21),(kt 24)] false) (some (19,true)),.mk (some 26) (.bin .eql (kt 25) (ki 70)) (some (19,true)),ko 27 (.pick (kt 19) (kt 26) (.const (.bool false))),ko 0 (.move (kt 27))] [0]) .ret)))),[(0,none)]⟩
def Q3h:AFun:=⟨(.seq (kr [ko 2 (.box (kt 0)),ko 4 (.alloc (Qa 64 (.int .u8 0)))] [1,2,4]) (.seq (kr [ko 11 (.load (some 32) (kt 2)),ko 12 (.call 13 [(kt 11)] true),ko 5 (.alloc (Qa 64 (.int .u8 0))),kq (.store 64 (kt 5) (kt 12))] [1,4,5]) (.seq (kr [ko 13 (.call 14 [] true),ko 14 (.fieldAddr 0 (kt 5)),ko 15 (.load (some 32) (kt 14)),ko 16 (.call 15 [(kt 13),(kt 15)] true),ko 17 (.call 16 [(kt 16)] true),ko 6 (.alloc (Qa 32 (.int .u8 0))),kq (.store 32 (kt 6) (kt 17))] [1,4,5,6]) (.seq (kr [ko 18 (.fieldAddr 32 (kt 5)),ko 19 (.sliceArr 32 1 (kt 18) none none none),ko 20 (.buildSlice [(.slice none 0 0)] 1 [(0,(1,(kt 19)))]),ko 21 (.move (kt 1)),ko 22 (.append 1 24 (kt 20) (kt 21)),ko 23 (.call 17 [(kt 22)] false),ko 7 (.alloc (Qa 32 (.int .u8 0))),kq (.store 32 (kt 7) (kt 23))] [1,4,5,6,7]) (.seq (kr [ko 24 (.call 14 [] true),ko 25 (.load (some 32) (kt 7)),ko 26 (.call 15 [(kt 24),(kt 25)] true),ko 27 (.call 16 [(kt 26)] true),ko 8 (.alloc (Qa 32 (.int .u8 0))),kq (.store 32 (kt 8) (kt 27))] [1,4,5,6,7,8]) (.seq (kr [ko 28 (.sliceArr 32 1 (kt 8) none none none),ko 29 (.sliceArr 32 1 (kt 6) none none none),ko 30 (.buildSlice [(.slice none 0 0),(.slice none 0 0)] 2 [(0,(1,(kt 28))),(1,(1,(kt 29)))]),ko 31 (.move (kt 1)),ko 32 (.append 1 24 (kt 30) (kt 31)),ko 33 (.call 17 [(kt 32)] false),ko 9 (.alloc (Qa 32 (.int .u8 0))),kq (.store 32 (kt 9) (kt 33))] [4,5,7,8,9]) (.seq (kr [ko 34 (.load (some 32) (kt 9)),ko 35 (.fieldAddr 0 (kt 5)),ko 36 (.load (some 32) (kt 35)),ko 37 (.load (some 32) (kt 7)),ko 38 (.call 18 [(kt 34),(kt 36),(kt 37)] true),ko 10 (.alloc (Qa 32 (.int .u8 0))),kq (.store 32 (kt 10) (kt 38))] [4,8,10]) (.seq (kr [ko 39 (.sliceArr 32 1 (kt 8) none none none),ko 40 (.sliceArr 32 1 (kt 10) none none none),ko 41 (.append 1 1 (kt 39) (kt 40)),ko 42 (.s2ap 64 (kt 41)),ko 43 (.load (some 64) (kt 42)),kq (.store 64 (kt 4) (kt 43))] [4]) .ret)))))))),[(4,(some (some 64)))]⟩
def Qd0:AFun:=⟨(.seq (kr [ko 3 (.box (kt 0)),ko 4 (.box (kt 1)),ko 6 (.move (ki 0))] [2,3,4]) (.seq (kr [ko 15 (.load (some 32) (kt 3)),ko 16 (.call 26 [(kt 15)] true),ko 14 (.move (kt 16)),ko 17 (.extract (kt 14) 0),ko 18 (.extract (kt 14) 1),ko 7 (.alloc (Qa 20 (.int .u64 0))),kq (.store 20 (kt 7) (kt 17)),ko 8 (.move (kt 18))] [2,3,4,7,8]) (.seq (.seq (kr [ko 19 (.move (kt 8)),ko 20 (.bin .neq (kt 19) (ki 0))] [2,3,4,7,8,20]) (.cond (kt 20) (.seq (kr [ko 21 (.move (kt 8)),ko 6 (.move (kt 21))] [6]) .ret) .skip)) (.seq (kr [ko 22 (.sliceArr 64 1 (kt 4) none (some (ki 32)) none),ko 23 (.s2ap 32 (kt 22)),ko 24 (.load (some 32) (kt 23)),ko 25 (.sliceArr 64 1 (kt 4) (some (ki 32)) none none),ko 26 (.s2ap 32 (kt 25)),ko 27 (.load (some 32) (kt 26)),ko 9 (.alloc (Qa 32 (.int .u8 0))),ko 10 (.alloc (Qa 32 (.int .u8 0))),kq (.store 32 (kt 9) (kt 24)),kq (.store 32 (kt 10) (kt 27))] [2,3,7,9,10]) (.seq (.seq (kr [ko 28 (.load (some 20) (kt 7)),ko 29 (.call 27 [(kt 28)] true),ko 30 (.move (kt 29)),.mk (some 31) (.load (some 32) (kt 10)) (some (30,false)),.mk (some 32) (.call 28 [(kt 31)] true) (some (30,false)),.mk (some 33) (.un .not (kt 32)) (some (30,false)),ko 34 (.pick (kt 30) (.const (.bool true)) (kt 33))] [2,3,7,9,10,34]) (.cond (kt 34) (.seq (kr [ko 6 (.move (ki 70))] [6]) .ret) .skip)) (.seq (.seq (kr [ko 36 (.load (some 32) (kt 9)),ko 37 (.call 26 [(kt 36)] true),ko 35 (.move (kt 37)),ko 38 (.extract (kt 35) 0),ko 39 (.extract (kt 35) 1),ko 11 (.alloc (Qa 20 (.int .u64 0))),kq (.store 20 (kt 11) (kt 38)),ko 12 (.move (kt 39))] [2,3,7,9,10,12]) (.seq (kr [ko 40 (.move (kt 12)),ko 41 (.bin .neq (kt 40) (ki 0))] [2,3,7,9,10,41]) (.cond (kt 41) (.seq (kr [ko 6 (.move (ki 70))] [6]) .ret) .skip))) (.seq (kr [ko 42 (.sliceArr 32 1 (kt 9) none none none),ko 43 (.sliceArr 32 1 (kt 3) none none none),ko 44 (.buildSlice [(.slice none 0 0),(.slice none 0 0)] 2 [(0,(1,(kt 42))),(1,(1,(kt 43)))]),ko 45 (.move (kt 2)),ko 46 (.append 1 24 (kt 44) (kt 45)),ko 47 (.call 17 [(kt 46)] false),ko 13 (.alloc (Qa 32 (.int .u8 0))),kq (.store 32 (kt 13) (kt 47))] [7,9,10,13]) (.seq (.seq (.region [ko 48 (.call 14 [] true),ko 49 (.load (some 32) (kt 10)),ko 50 (.call 15 [(kt 48),(kt 49)] true),ko 51 (.load (some 20) (kt 7)),ko 52 (.call 30 [(kt 51)] true),ko 53 (.load (some 32) (kt 13)),ko 54 (.call 15 [(kt 52),(kt 53)] true),ko 55 (.buildSlice (Qa 40 (.int .u64 0)) 2 [(0,(20,(kt 50))),(20,(20,(kt 54)))]),ko 56 (.call 29 [(kt 55)] false),ko 57 (.call 16 [(kt 56)] true),ko 58 (.load (some 32) (kt 9)),ko 59 (.eqv (some (Qa 32 true)) true (kt 57) (kt 58))] (some [59]) [(8,10)]) (.cond (kt 59) (.seq (kr [ko 6 (.move (ki 70))] [6]) .ret) .skip)) (.seq (kr [ko 6 (.move (ki 0))] [6]) .ret))))))))),[(6,none)]⟩
def Q3g:AFun:=⟨(.seq (kr [ko 1 (.box (kt 0)),ko 2 (.alloc (Qa 32 (.int .u8 0)))] [1,2]) (.seq (kr [ko 3 (.call 14 [] true),ko 4 (.load (some 32) (kt 1)),ko 5 (.call 13 [(kt 4)] true),ko 6 (.field (some 32) 0 (kt 5)),ko 7 (.call 15 [(kt 3),(kt 6)] true),ko 8 (.call 16 [(kt 7)] true),kq (.store 32 (kt 2) (kt 8))] [2]) .ret)),[(2,(some (some 32)))]⟩
def Q3f:AFun:=⟨(.seq (kr [ko 1 (.box (kt 0)),ko 2 (.alloc (Qa 64 (.int .u8 0)))] [1,2]) (.seq (kr [ko 4 (.sliceArr 32 1 (kt 1) none none none),ko 5 (.buildSlice [(.slice none 0 0)] 1 [(0,(1,(kt 4)))]),ko 6 (.call 35 [(kt 5)] false),ko 3 (.alloc (Qa 64 (.int .u8 0))),kq (.store 64 (kt 3) (kt 6))] [2,3]) (.seq (kr [ko 7 (.sliceArr 64 1 (kt 3) none (some (ki 32)) none),ko 8 (.s2ap 32 (kt 7)),ko 9 (.load (some 32) (kt 8)),ko 10 (.call 36 [(kt 9)] true),ko 11 (.sliceArr 64 1 (kt 3) (some (ki 32)) none none),ko 12 (.s2ap 32 (kt 11)),ko 13 (.load (some 32) (kt 12)),ko 14 (.build (Qa 64 (.int .u8 0)) [(0,(32,(kt 10))),(32,(32,(kt 13)))]),kq (.store 64 (kt 2) (kt 14))] [2]) .ret))),[(2,(some (some 64)))]⟩
def Q3e:AFun:=⟨(.seq (kr [ko 2 (.alloc (Qa 32 (.int .u8 0)))] [0,2]) (.seq (kr [ko 4 (.move (kt 0)),ko 5 (.call 35 [(kt 4)] false),ko 3 (.alloc (Qa 64 (.int .u8 0))),kq (.store 64 (kt 3) (kt 5))] [2,3]) (.seq (kr [ko 6 (.sliceArr 64 1 (kt 3) none none none),ko 7 (.buildSlice [(.slice none 0 0)] 1 [(0,(1,(kt 6)))]),ko 8 (.call 47 [(kt 7)] false),kq (.store 32 (kt 2) (kt 8))] [2]) .ret))),[(2,(some (some 32)))]⟩
def Q3d:AFun:=⟨(.seq (kr [ko 2 (.alloc (Qa 64 (.int .u8 0)))] [0,2]) (.seq (kr [ko 4 (.call 77 [] false),ko 3 (.move (kt 4))] [0,2,3]) (.seq (kr [ko 5 (.move (kt 3)),ko 6 (.move (kt 0)),ko 7 (.call 78 [(kt 5),(kt 6)] false)] [2,3]) (.seq (kr [ko 8 (.move (kt 3)),ko 9 (.call 79 [(kt 8)] false),kq (.store 64 (kt 2) (kt 9))] [2]) .ret)))),[(2,(some (some 64)))]⟩
def Q3c:AFun:=⟨(.seq (kr [ko 0 (.move (.const (.pointer none)))] []) (.seq (kr [ko 1 (.build (Qa 8 (.int .u64 0)) [(0,(1,(.const (.int .u64 7640891576956012808)))),(1,(1,(.const (.int .u64 13503953896175478587)))),(2,(1,(.const (.int .u64 4354685564936845355)))),(3,(1,(.const (.int .u64 11912009170470909681)))),(4,(1,(.const (.int .u64 5840696475078001361)))),(5,(1,(.const (.int .u64 11170449401992604703)))),(6,(1,(.const (.int .u64 2270897969802886507)))),(7,(1,(.const (.int .u64 6620516959819538809))))]),ko 2 (.build [(.slice none 0 0),(.int .u64 0),(.int .u64 0),(.int .u64 0),(.int .u64 0),(.int .u64 0),(.int .u64 0),(.int .u64 0),(.int .u64 0),(.int .u64 0)] [(2,(8,(kt 1)))]),ko 3 (.box (kt 2)),ko 0 (.move (kt 3))] [0]) .ret)),[(0,none)]⟩
def Qdz:ACode:=(.seq (kr [ko 9 (.bin .lss (kt 8) (kt 7))] [0,6,7,8,9]) (.seq (.cond (kt 9) .skip (.exit 0)) (.seq (.block 1 (.seq (kr [ko 10 (.indexSl 1 (kt 6) (kt 8)),ko 11 (.load none (kt 10)),ko 5 (.move (kt 11))] [0,5,6,7,8]) (kr [ko 12 (.move (kt 0)),ko 13 (.nilCheck (kt 12)),ko 14 (.fieldAddr 0 (kt 13)),ko 15 (.move (kt 5)),ko 16 (.move (kt 0)),ko 17 (.mkFunc (.func 99) [(kt 16)] []),ko 18 (.call 98 [(kt 14),(ki 128),(kt 15),(kt 17)] false)] [0,6,7,8]))) (kr [ko 19 (.bin .add (kt 8) (ki 1)),ko 8 (.move (kt 19))] [0,6,7,8]))))
def Q3b:AFun:=⟨(.seq (kr [ko 6 (.move (kt 1)),ko 7 (.len false (kt 6)),ko 8 (.move (ki 0))] [0,6,7,8]) (.block 0 (.loop Qdz))),[]⟩
def Qdy:ACode:=(.seq (kr [ko 33 (.bin .lss (kt 32) (ki 64))] [2,3,4,32,33]) (.seq (.cond (kt 33) .skip (.exit 0)) (.seq (.block 1 (.seq (kr [ko 34 (.move (kt 32)),ko 5 (.move (kt 34))] [2,3,4,5,32]) (kr [ko 35 (.move (kt 5)),ko 36 (.move (kt 3)),ko 37 (.move (kt 5)),ko 38 (.bin .quo (kt 37) (ki 8)),ko 39 (.nilCheck (kt 36)),ko 40 (.fieldAddr 2 (kt 39)),ko 41 (.indexAddr 8 1 (kt 40) (kt 38)),ko 42 (.load none (kt 41)),ko 43 (.move (kt 5)),ko 44 (.bin .rem (kt 43) (ki 8)),ko 45 (.bin .mul (ki 8) (kt 44)),ko 46 (.bin .sub (ki 56) (kt 45)),ko 47 (.bin .shr (kt 42) (kt 46)),ko 48 (.conv .u8 (kt 47)),ko 49 (.indexAddr 64 1 (kt 4) (kt 35)),kq (.store 1 (kt 49) (kt 48))] [2,3,4,32]))) (kr [ko 50 (.bin .add (kt 32) (ki 1)),ko 32 (.move (kt 50))] [2,3,4,32]))))
def Q3a:AFun:=⟨(.seq (kr [ko 2 (.alloc (Qa 64 (.int .u8 0)))] [0,2]) (.seq (.region [ko 6 (.buildSlice [] 0 []),ko 7 (.move (kt 0)),ko 8 (.nilCheck (kt 7)),ko 9 (.fieldAddr 0 (kt 8)),ko 10 (.fieldAddr 0 (kt 9)),ko 11 (.load none (kt 10)),ko 12 (.append 1 1 (kt 6) (kt 11)),ko 13 (.move (kt 0)),ko 14 (.nilCheck (kt 13)),ko 15 (.fieldAddr 0 (kt 14)),ko 16 (.fieldAddr 1 (kt 15)),ko 17 (.load none (kt 16)),ko 18 (.build [(.slice none 0 0),(.int .u64 0)] [(0,(1,(kt 12))),(1,(1,(kt 17)))]),ko 19 (.move (kt 0)),ko 20 (.nilCheck (kt 19)),ko 21 (.fieldAddr 2 (kt 20)),ko 22 (.load (some 8) (kt 21)),ko 23 (.build [(.slice none 0 0),(.int .u64 0),(.int .u64 0),(.int .u64 0),(.int .u64 0),(.int .u64 0),(.int .u64 0),(.int .u64 0),(.int .u64 0),(.int .u64 0)] [(0,(2,(kt 18))),(2,(8,(kt 22)))]),ko 24 (.box (kt 23)),ko 3 (.move (kt 24))] (some [0,2,3]) [(6,11),(6,16)]) (.seq (kr [ko 25 (.move (kt 3)),ko 26 (.move (kt 0)),ko 27 (.nilCheck (kt 26)),ko 28 (.fieldAddr 0 (kt 27)),ko 29 (.call 100 [(kt 28),(ki 128),(ki 16)] false),ko 30 (.buildSlice [(.slice none 0 0)] 1 [(0,(1,(kt 29)))]),ko 31 (.call 78 [(kt 25),(kt 30)] false)] [2,3]) (.seq (kr [ko 4 (.alloc (Qa 64 (.int .u8 0)))] [2,3,4]) (.seq (.seq (kr [ko 32 (.move (ki 0))] [2,3,4,32]) (.block 0 (.loop Qdy))) (.seq (kr [ko 51 (.load (some 64) (kt 4)),kq (.store 64 (kt 2) (kt 51))] [2]) .ret)))))),[(2,(some (some 64)))]⟩
def Qdx:ACode:=(.seq (.seq (kr [ko 27 (.move (kt 0)),ko 28 (.nilCheck (kt 27)),ko 29 (.fieldAddr 0 (kt 28)),ko 30 (.load none (kt 29)),ko 31 (.len false (kt 30)),ko 32 (.move (kt 1)),ko 33 (.bin .geq (kt 31) (kt 32))] [0,1,3,33]) (.cond (kt 33) .skip (.exit 0))) (.block 1 (.seq (kr [ko 34 (.move (kt 3)),ko 35 (.move (kt 0)),ko 36 (.nilCheck (kt 35)),ko 37 (.fieldAddr 0 (kt 36)),ko 38 (.load none (kt 37)),ko 39 (.move (kt 1)),ko 40 (.sliceSl 1 (kt 38) none (some (kt 39)) none),ko 41 (.callv (kt 34) [(kt 40)])] [0,1,3]) (kr [ko 42 (.move (kt 0)),ko 43 (.move (kt 0)),ko 44 (.nilCheck (kt 43)),ko 45 (.fieldAddr 0 (kt 44)),ko 46 (.load none (kt 45)),ko 47 (.move (kt 1)),ko 48 (.sliceSl 1 (kt 46) (some (kt 47)) none none),ko 49 (.nilCheck (kt 42)),ko 50 (.fieldAddr 0 (kt 49)),kq (.store 1 (kt 50) (kt 48))] [0,1,3]))))
def Q29:AFun:=⟨(.seq (kr [ko 8 (.move (kt 0)),ko 9 (.nilCheck (kt 8)),ko 10 (.fieldAddr 1 (kt 9)),ko 11 (.load none (kt 10)),ko 12 (.move (kt 2)),ko 13 (.len false (kt 12)),ko 14 (.conv .u64 (kt 13)),ko 15 (.bin .add (kt 11) (kt 14)),ko 16 (.nilCheck (kt 8)),ko 17 (.fieldAddr 1 (kt 16)),kq (.store 1 (kt 17) (kt 15))] [0,1,2,3]) (.seq (kr [ko 18 (.move (kt 0)),ko 19 (.move (kt 0)),ko 20 (.nilCheck (kt 19)),ko 21 (.fieldAddr 0 (kt 20)),ko 22 (.load none (kt 21)),ko 23 (.move (kt 2)),ko 24 (.append 1 1 (kt 22) (kt 23)),ko 25 (.nilCheck (kt 18)),ko 26 (.fieldAddr 0 (kt 25)),kq (.store 1 (kt 26) (kt 24))] [0,1,3]) (.block 0 (.loop Qdx)))),[]⟩
def Qdw:ACode:=(.seq (kr [ko 176 (.bin .lss (kt 175) (ki 8))] [0,174,175,176]) (.seq (.cond (kt 176) .skip (.exit 6)) (.seq (.block 7 (.seq (kr [ko 177 (.move (kt 175)),ko 178 (.index none 8 1 (kt 174) (kt 175)),ko 15 (.move (kt 177)),ko 16 (.move (kt 178))] [0,15,16,174,175]) (kr [ko 179 (.move (kt 0)),ko 180 (.move (kt 15)),ko 181 (.nilCheck (kt 179)),ko 182 (.fieldAddr 2 (kt 181)),ko 183 (.indexAddr 8 1 (kt 182) (kt 180)),ko 184 (.load none (kt 183)),ko 185 (.move (kt 16)),ko 186 (.bin .add (kt 184) (kt 185)),ko 187 (.nilCheck (kt 179)),ko 188 (.fieldAddr 2 (kt 187)),ko 189 (.indexAddr 8 1 (kt 188) (kt 180)),kq (.store 1 (kt 189) (kt 186))] [0,174,175]))) (kr [ko 190 (.bin .add (kt 175) (ki 1)),ko 175 (.move (kt 190))] [0,174,175]))))
def Qbj:ACode:=(.seq (kr [ko 88 (.bin .lss (kt 87) (ki 80))] [0,4,10,86,87,88]) (.seq (.cond (kt 88) .skip (.exit 4)) (.seq (.block 5 (.seq (kr [ko 89 (.move (kt 87)),ko 90 (.index none 80 1 (kt 86) (kt 87)),ko 11 (.move (kt 89)),ko 12 (.move (kt 90))] [0,4,10,11,12,86,87]) (.seq (kr [ko 91 (.indexAddr 8 1 (kt 10) (ki 7)),ko 92 (.load none (kt 91)),ko 93 (.indexAddr 8 1 (kt 10) (ki 4)),ko 94 (.load none (kt 93)),ko 95 (.call 109 [(kt 94),(ki (-14))] true),ko 96 (.indexAddr 8 1 (kt 10) (ki 4)),ko 97 (.load none (kt 96)),ko 98 (.call 109 [(kt 97),(ki (-18))] true),ko 99 (.bin .xor (kt 95) (kt 98)),ko 100 (.indexAddr 8 1 (kt 10) (ki 4)),ko 101 (.load none (kt 100)),ko 102 (.call 109 [(kt 101),(ki (-41))] true),ko 103 (.bin .xor (kt 99) (kt 102)),ko 104 (.bin .add (kt 92) (kt 103)),ko 105 (.indexAddr 8 1 (kt 10) (ki 4)),ko 106 (.load none (kt 105)),ko 107 (.indexAddr 8 1 (kt 10) (ki 5)),ko 108 (.load none (kt 107)),ko 109 (.bin .and (kt 106) (kt 108)),ko 110 (.indexAddr 8 1 (kt 10) (ki 4)),ko 111 (.load none (kt 110)),ko 112 (.un .xor (kt 111)),ko 113 (.indexAddr 8 1 (kt 10) (ki 6)),ko 114 (.load none (kt 113)),ko 115 (.bin .and (kt 112) (kt 114)),ko 116 (.bin .xor (kt 109) (kt 115)),ko 117 (.bin .add (kt 104) (kt 116)),ko 118 (.move (kt 12)),ko 119 (.bin .add (kt 117) (kt 118)),ko 120 (.move (kt 11)),ko 121 (.indexAddr 80 1 (kt 4) (kt 120)),ko 122 (.load none (kt 121)),ko 123 (.bin .add (kt 119) (kt 122)),ko 13 (.move (kt 123))] [0,4,10,13,86,87]) (.seq (kr [ko 124 (.indexAddr 8 1 (kt 10) (ki 0)),ko 125 (.load none (kt 124)),ko 126 (.call 109 [(kt 125),(ki (-28))] true),ko 127 (.indexAddr 8 1 (kt 10) (ki 0)),ko 128 (.load none (kt 127)),ko 129 (.call 109 [(kt 128),(ki (-34))] true),ko 130 (.bin .xor (kt 126) (kt 129)),ko 131 (.indexAddr 8 1 (kt 10) (ki 0)),ko 132 (.load none (kt 131)),ko 133 (.call 109 [(kt 132),(ki (-39))] true),ko 134 (.bin .xor (kt 130) (kt 133)),ko 135 (.indexAddr 8 1 (kt 10) (ki 0)),ko 136 (.load none (kt 135)),ko 137 (.indexAddr 8 1 (kt 10) (ki 1)),ko 138 (.load none (kt 137)),ko 139 (.bin .and (kt 136) (kt 138)),ko 140 (.indexAddr 8 1 (kt 10) (ki 0)),ko 141 (.load none (kt 140)),ko 142 (.indexAddr 8 1 (kt 10) (ki 2)),ko 143 (.load none (kt 142)),ko 144 (.bin .and (kt 141) (kt 143)),ko 145 (.bin .xor (kt 139) (kt 144)),ko 146 (.indexAddr 8 1 (kt 10) (ki 1)),ko 147 (.load none (kt 146)),ko 148 (.indexAddr 8 1 (kt 10) (ki 2)),ko 149 (.load none (kt 148)),ko 150 (.bin .and (kt 147) (kt 149)),ko 151 (.bin .xor (kt 145) (kt 150)),ko 152 (.bin .add (kt 134) (kt 151)),ko 14 (.move (kt 152))] [0,4,10,13,14,86,87]) (kr [ko 153 (.move (kt 13)),ko 154 (.move (kt 14)),ko 155 (.bin .add (kt 153) (kt 154)),ko 156 (.indexAddr 8 1 (kt 10) (ki 0)),ko 157 (.load none (kt 156)),ko 158 (.indexAddr 8 1 (kt 10) (ki 1)),ko 159 (.load none (kt 158)),ko 160 (.indexAddr 8 1 (kt 10) (ki 2)),ko 161 (.load none (kt 160)),ko 162 (.indexAddr 8 1 (kt 10) (ki 3)),ko 163 (.load none (kt 162)),ko 164 (.move (kt 13)),ko 165 (.bin .add (kt 163) (kt 164)),ko 166 (.indexAddr 8 1 (kt 10) (ki 4)),ko 167 (.load none (kt 166)),ko 168 (.indexAddr 8 1 (kt 10) (ki 5)),ko 169 (.load none (kt 168)),ko 170 (.indexAddr 8 1 (kt 10) (ki 6)),ko 171 (.load none (kt 170)),ko 172 (.build (Qa 8 (.int .u64 0)) [(0,(1,(kt 155))),(1,(1,(kt 157))),(2,(1,(kt 159))),(3,(1,(kt 161))),(4,(1,(kt 165))),(5,(1,(kt 167))),(6,(1,(kt 169))),(7,(1,(kt 171)))]),kq (.store 8 (kt 10) (kt 172))] [0,4,10,86,87]))))) (kr [ko 173 (.bin .add (kt 87) (ki 1)),ko 87 (.move (kt 173))] [0,4,10,86,87]))))
def Qdv:ACode:=(.seq (kr [ko 31 (.bin .lss (kt 30) (kt 29))] [0,1,4,5,17,28,29,30,31]) (.seq (.cond (kt 31) .skip (.exit 2)) (.seq (.block 3 (.seq (kr [ko 32 (.indexSl 1 (kt 28) (kt 30)),ko 33 (.load none (kt 32)),ko 7 (.move (kt 33))] [0,1,4,5,7,17,28,29,30]) (kr [ko 34 (.move (kt 5)),ko 35 (.move (kt 5)),ko 36 (.indexAddr 80 1 (kt 4) (kt 35)),ko 37 (.load none (kt 36)),ko 38 (.bin .shl (kt 37) (.const (.int .u64 8))),ko 39 (.move (kt 7)),ko 40 (.conv .u64 (kt 39)),ko 41 (.bin .or (kt 38) (kt 40)),ko 42 (.indexAddr 80 1 (kt 4) (kt 34)),kq (.store 1 (kt 42) (kt 41))] [0,1,4,5,17,28,29,30]))) (kr [ko 43 (.bin .add (kt 30) (ki 1)),ko 30 (.move (kt 43))] [0,1,4,5,17,28,29,30]))))
def Re:ACode:=(.seq (kr [ko 18 (.bin .lss (kt 17) (ki 80))] [0,1,4,17,18]) (.seq (.cond (kt 18) .skip (.exit 0)) (.seq (.block 1 (.seq (kr [ko 19 (.move (kt 17)),ko 5 (.move (kt 19))] [0,1,4,5,17]) (.seq (.seq (kr [ko 20 (.move (kt 5)),ko 21 (.bin .lss (kt 20) (ki 16))] [0,1,4,5,17,21]) (.cond (kt 21) (.seq (.seq (kr [ko 22 (.move (kt 1)),ko 23 (.move (kt 5)),ko 24 (.bin .mul (ki 8) (kt 23)),ko 25 (.move (kt 5)),ko 26 (.bin .mul (ki 8) (kt 25)),ko 27 (.bin .add (kt 26) (ki 8)),ko 28 (.sliceSl 1 (kt 22) (some (kt 24)) (some (kt 27)) none),ko 29 (.len false (kt 28)),ko 30 (.move (ki 0))] [0,1,4,5,17,28,29,30]) (.block 2 (.loop Qdv))) (.exit 1)) .skip)) (.seq (kr [ko 44 (.move (kt 5)),ko 45 (.bin .sub (kt 44) (ki 15)),ko 46 (.indexAddr 80 1 (kt 4) (kt 45)),ko 47 (.load none (kt 46)),ko 48 (.move (kt 5)),ko 49 (.bin .sub (kt 48) (ki 2)),ko 50 (.indexAddr 80 1 (kt 4) (kt 49)),ko 51 (.load none (kt 50)),ko 8 (.move (kt 47)),ko 9 (.move (kt 51))] [0,1,4,5,8,9,17]) (kr [ko 52 (.move (kt 5)),ko 53 (.move (kt 5)),ko 54 (.bin .sub (kt 53) (ki 16)),ko 55 (.indexAddr 80 1 (kt 4) (kt 54)),ko 56 (.load none (kt 55)),ko 57 (.move (kt 5)),ko 58 (.bin .sub (kt 57) (ki 7)),ko 59 (.indexAddr 80 1 (kt 4) (kt 58)),ko 60 (.load none (kt 59)),ko 61 (.bin .add (kt 56) (kt 60)),ko 62 (.move (kt 8)),ko 63 (.call 109 [(kt 62),(ki (-1))] true),ko 64 (.move (kt 8)),ko 65 (.call 109 [(kt 64),(ki (-8))] true),ko 66 (.bin .xor (kt 63) (kt 65)),ko 67 (.move (kt 8)),ko 68 (.bin .shr (kt 67) (.const (.int .u64 7))),ko 69 (.bin .xor (kt 66) (kt 68)),ko 70 (.bin .add (kt 61) (kt 69)),ko 71 (.move (kt 9)),ko 72 (.call 109 [(kt 71),(ki (-19))] true),ko 73 (.move (kt 9)),ko 74 (.call 109 [(kt 73),(ki (-61))] true),ko 75 (.bin .xor (kt 72) (kt 74)),ko 76 (.move (kt 9)),ko 77 (.bin .shr (kt 76) (.const (.int .u64 6))),ko 78 (.bin .xor (kt 75) (kt 77)),ko 79 (.bin .add (kt 70) (kt 78)),ko 80 (.indexAddr 80 1 (kt 4) (kt 52)),kq (.store 1 (kt 80) (kt 79))] [0,1,4,17]))))) (kr [ko 81 (.bin .add (kt 17) (ki 1)),ko 17 (.move (kt 81))] [0,1,4,17]))))
def Q28:AFun:=⟨(.seq (kr [ko 4 (.alloc (Qa 80 (.int .u64 0)))] [0,1,4]) (.seq (.seq (kr [ko 17 (.move (ki 0))] [0,1,4,17]) (.block 0 (.loop Re))) (.seq (kr [ko 82 (.move (kt 0)),ko 83 (.nilCheck (kt 82)),ko 84 (.fieldAddr 2 (kt 83)),ko 85 (.load (some 8) (kt 84)),ko 10 (.alloc (Qa 8 (.int .u64 0))),kq (.store 8 (kt 10) (kt 85))] [0,4,10]) (.seq (.seq (kr [ko 86 (.call 110 [] true),ko 87 (.move (ki 0))] [0,4,10,86,87]) (.block 4 (.loop Qbj))) (.seq (kr [ko 174 (.load (some 8) (kt 10)),ko 175 (.move (ki 0))] [0,174,175]) (.block 6 (.loop Qdw))))))),[]⟩
def Tn:ACode:=(.seq (.seq (kr [ko 29 (.move (kt 8)),ko 30 (.bin .geq (kt 29) (ki 0))] [0,7,8,30]) (.cond (kt 30) .skip (.exit 2))) (.seq (.block 3 (.seq (kr [ko 9 (.move (.const (.int .u8 0)))] [0,7,8,9]) (.seq (.seq (kr [ko 33 (.move (kt 8)),ko 34 (.bin .lss (kt 33) (ki 9))] [0,7,8,9,34]) (.cond (kt 34) (kr [ko 35 (.move (kt 0)),ko 36 (.nilCheck (kt 35)),ko 37 (.fieldAddr 1 (kt 36)),ko 38 (.load none (kt 37)),ko 39 (.move (kt 8)),ko 40 (.bin .mul (ki 8) (kt 39)),ko 41 (.bin .shr (kt 38) (kt 40)),ko 42 (.bin .shl (kt 41) (.const (.int .u64 3))),ko 43 (.conv .u8 (kt 42)),ko 9 (.move (kt 43))] [0,7,8,9]) .skip)) (.seq (.seq (kr [ko 44 (.move (kt 8)),ko 45 (.bin .gtr (kt 44) (ki 0)),ko 46 (.move (kt 45)),.mk (some 47) (.move (kt 8)) (some (46,true)),.mk (some 48) (.bin .lss (kt 47) (ki 9)) (some (46,true)),ko 49 (.pick (kt 46) (kt 48) (.const (.bool false)))] [0,7,8,9,49]) (.cond (kt 49) (kr [ko 50 (.move (kt 9)),ko 51 (.move (kt 0)),ko 52 (.nilCheck (kt 51)),ko 53 (.fieldAddr 1 (kt 52)),ko 54 (.load none (kt 53)),ko 55 (.move (kt 8)),ko 56 (.bin .mul (ki 8) (kt 55)),ko 57 (.bin .sub (kt 56) (ki 8)),ko 58 (.bin .shr (kt 54) (kt 57)),ko 59 (.bin .and (kt 58) (.const (.int .u64 255))),ko 60 (.bin .shr (kt 59) (.const (.int .u64 5))),ko 61 (.conv .u8 (kt 60)),ko 62 (.bin .or (kt 50) (kt 61)),ko 9 (.move (kt 62))] [0,7,8,9]) .skip)) (kr [ko 63 (.move (kt 7)),ko 64 (.move (kt 9)),ko 65 (.buildSlice [(.int .u8 0)] 1 [(0,(1,(kt 64)))]),ko 66 (.append 1 1 (kt 63) (kt 65)),ko 7 (.move (kt 66))] [0,7,8]))))) (kr [ko 31 (.move (kt 8)),ko 32 (.bin .sub (kt 31) (ki 1)),ko 8 (.move (kt 32))] [0,7,8])))
def Qdu:ACode:=(.seq (.seq (kr [ko 11 (.move (kt 0)),ko 12 (.nilCheck (kt 11)),ko 13 (.fieldAddr 1 (kt 12)),ko 14 (.load none (kt 13)),ko 15 (.conv .i64 (kt 14)),ko 16 (.move (kt 7)),ko 17 (.len false (kt 16)),ko 18 (.bin .add (kt 15) (kt 17)),ko 19 (.move (kt 2)),ko 20 (.bin .add (kt 18) (kt 19)),ko 21 (.move (kt 1)),ko 22 (.bin .rem (kt 20) (kt 21)),ko 23 (.bin .neq (kt 22) (ki 0))] [0,1,2,7,23]) (.cond (kt 23) .skip (.exit 0))) (.block 1 (kr [ko 24 (.move (kt 7)),ko 25 (.buildSlice [(.int .u8 0)] 1 [(0,(1,(.const (.int .u8 0))))]),ko 26 (.append 1 1 (kt 24) (kt 25)),ko 7 (.move (kt 26))] [0,1,2,7])))
def Q27:AFun:=⟨(.seq (kr [ko 6 (.move (.const (.slice none 0 0)))] [0,1,2]) (.seq (kr [ko 10 (.buildSlice [(.int .u8 0)] 1 [(0,(1,(.const (.int .u8 128))))]),ko 7 (.move (kt 10))] [0,1,2,7]) (.seq (.block 0 (.loop Qdu)) (.seq (.seq (kr [ko 27 (.move (kt 2)),ko 28 (.bin .sub (kt 27) (ki 1)),ko 8 (.move (kt 28))] [0,7,8]) (.block 2 (.loop Tn))) (.seq (kr [ko 67 (.move (kt 7)),ko 6 (.move (kt 67))] [6]) .ret))))),[(6,none)]⟩
def Q26:AFun:=⟨(.seq (kr [ko 4 (.move (.const (.int .u64 0)))] [0,1]) (.seq (kr [ko 6 (.move (kt 1)),ko 7 (.conv .u64 (kt 6)),ko 8 (.bin .and (kt 7) (.const (.int .u64 63))),ko 5 (.move (kt 8))] [0,5]) (.seq (kr [ko 9 (.move (kt 0)),ko 10 (.move (kt 5)),ko 11 (.bin .shl (kt 9) (kt 10)),ko 12 (.move (kt 0)),ko 13 (.move (kt 5)),ko 14 (.bin .sub (.const (.int .u64 64)) (kt 13)),ko 15 (.bin .shr (kt 12) (kt 14)),ko 16 (.bin .or (kt 11) (kt 15)),ko 4 (.move (kt 16))] [4]) .ret))),[(4,none)]⟩
def Q25:AFun:=⟨(.seq (kr [ko 0 (.alloc (Qa 80 (.int .u64 0)))] [0]) (.seq (kr [ko 1 (.build (Qa 80 (.int .u64 0)) [(0,(1,(.const (.int .u64 4794697086780616226)))),(1,(1,(.const (.int .u64 8158064640168781261)))),(2,(1,(.const (.int .u64 13096744586834688815)))),(3,(1,(.const (.int .u64 16840607885511220156)))),(4,(1,(.const (.int .u64 4131703408338449720)))),(5,(1,(.const (.int .u64 6480981068601479193)))),(6,(1,(.const (.int .u64 10538285296894168987)))),(7,(1,(.const (.int .u64 12329834152419229976)))),(8,(1,(.const (.int .u64 15566598209576043074)))),(9,(1,(.const (.int .u64 1334009975649890238)))),(10,(1,(.const (.int .u64 2608012711638119052)))),(11,(1,(.const (.int .u64 6128411473006802146)))),(12,(1,(.const (.int .u64 8268148722764581231)))),(13,(1,(.const (.int .u64 9286055187155687089)))),(14,(1,(.const (.int .u64 11230858885718282805)))),(15,(1,(.const (.int .u64 13951009754708518548)))),(16,(1,(.const (.int .u64 16472876342353939154)))),(17,(1,(.const (.int .u64 17275323862435702243)))),(18,(1,(.const (.int .u64 1135362057144423861)))),(19,(1,(.const (.int .u64 2597628984639134821)))),(20,(1,(.const (.int .u64 3308224258029322869)))),(21,(1,(.const (.int .u64 5365058923640841347)))),(22,(1,(.const (.int .u64 6679025012923562964)))),(23,(1,(.const (.int .u64 8573033837759648693)))),(24,(1,(.const (.int .u64 10970295158949994411)))),(25,(1,(.const (.int .u64 12119686244451234320)))),(26,(1,(.const (.int .u64 12683024718118986047)))),(27,(1,(.const (.int .u64 13788192230050041572)))),(28,(1,(.const (.int .u64 14330467153632333762)))),(29,(1,(.const (.int .u64 15395433587784984357)))),(30,(1,(.const (.int .u64 489312712824947311)))),(31,(1,(.const (.int .u64 1452737877330783856)))),(32,(1,(.const (.int .u64 2861767655752347644)))),(33,(1,(.const (.int .u64 3322285676063803686)))),(34,(1,(.const (.int .u64 5560940570517711597)))),(35,(1,(.const (.int .u64 5996557281743188959)))),(36,(1,(.const (.int .u64 7280758554555802590)))),(37,(1,(.const (.int .u64 8532644243296465576)))),(38,(1,(.const (.int .u64 9350256976987008742)))),(39,(1,(.const (.int .u64 10552545826968843579)))),(40,(1,(.const (.int .u64 11727347734174303076)))),(41,(1,(.const (.int .u64 12113106623233404929)))),(42,(1,(.const (.int .u64 14000437183269869457)))),(43,(1,(.const (.int .u64 14369950271660146224)))),(44,(1,(.const (.int .u64 15101387698204529176)))),(45,(1,(.const (.int .u64 15463397548674623760)))),(46,(1,(.const (.int .u64 17586052441742319658)))),(47,(1,(.const (.int .u64 1182934255886127544)))),(48,(1,(.const (.int .u64 1847814050463011016)))),(49,(1,(.const (.int .u64 2177327727835720531)))),(50,(1,(.const (.int .u64 2830643537854262169)))),(51,(1,(.const (.int .u64 3796741975233480872)))),(52,(1,(.const (.int .u64 4115178125766777443)))),(53,(1,(.const (.int .u64 5681478168544905931)))),(54,(1,(.const (.int .u64 6601373596472566643)))),(55,(1,(.const (.int .u64 7507060721942968483)))),(56,(1,(.const (.int .u64 8399075790359081724)))),(57,(1,(.const (.int .u64 8693463985226723168)))),(58,(1,(.const (.int .u64 9568029438360202098)))),(59,(1,(.const (.int .u64 10144078919501101548)))),(60,(1,(.const (.int .u64 10430055236837252648)))),(61,(1,(.const (.int .u64 11840083180663258601)))),(62,(1,(.const (.int .u64 13761210420658862357)))),(63,(1,(.const (.int .u64 14299343276471374635)))),(64,(1,(.const (.int .u64 14566680578165727644)))),(65,(1,(.const (.int .u64 15097957966210449927)))),(66,(1,(.const (.int .u64 16922976911328602910)))),(67,(1,(.const (.int .u64 17689382322260857208)))),(68,(1,(.const (.int .u64 500013540394364858)))),(69,(1,(.const (.int .u64 748580250866718886)))),(70,(1,(.const (.int .u64 1242879168328830382)))),(71,(1,(.const (.int .u64 1977374033974150939)))),(72,(1,(.const (.int .u64 2944078676154940804)))),(73,(1,(.const (.int .u64 3659926193048069267)))),(74,(1,(.const (.int .u64 4368137639120453308)))),(75,(1,(.const (.int .u64 4836135668995329356)))),(76,(1,(.const (.int .u64 5532061633213252278)))),(77,(1,(.const (.int .u64 6448918945643986474)))),(78,(1,(.const (.int .u64 6902733635092675308)))),(79,(1,(.const (.int .u64 7801388544844847127))))]),kq (.store 80 (kt 0) (kt 1))] [0]) .ret)),[(0,(some (some 80)))]⟩
def Q24:AFun:=⟨(.seq (kr [ko 3 (.box (kt 0)),ko 6 (.move (.const (.bool false)))] [1,2,3]) (.seq (.seq (kr [ko 10 (.call 6 [] true),ko 11 (.un .not (kt 10))] [1,2,3,11]) (.cond (kt 11) (.seq (kr [ko 6 (.move (.const (.bool false)))] [6]) .ret) .skip)) (.seq (kr [ko 12 (.move (kt 1)),ko 13 (.move (kt 1)),ko 14 (.len false (kt 13)),ko 15 (.minmax false (kt 14) (ki 200)),ko 16 (.sliceSl 1 (kt 12) none (some (kt 15)) none),ko 17 (.move (kt 2)),ko 18 (.move (kt 2)),ko 19 (.len false (kt 18)),ko 20 (.minmax false (kt 19) (ki 200)),ko 21 (.sliceSl 1 (kt 17) none (some (kt 20)) none),ko 1 (.move (kt 16)),ko 2 (.move (kt 21))] [1,2,3]) (.seq (kr [ko 22 (.indexAddr 2 32 (kt 3) (ki 0)),ko 23 (.load (some 32) (kt 22)),ko 24 (.move (kt 1)),ko 25 (.buildSlice [(.slice none 0 0)] 1 [(0,(1,(kt 24)))]),ko 26 (.call 7 [(kt 23),(kt 25)] false),ko 7 (.alloc (Qa 64 (.int .u8 0))),kq (.store 64 (kt 7) (kt 26))] [1,2,3,7]) (.seq (kr [ko 27 (.indexAddr 2 32 (kt 3) (ki 0)),ko 28 (.load (some 32) (kt 27)),ko 29 (.call 9 [(kt 28)] true),ko 30 (.indexAddr 2 32 (kt 3) (ki 1)),ko 31 (.load (some 32) (kt 30)),ko 32 (.call 9 [(kt 31)] true),ko 8 (.alloc (Qa 32 (.int .u8 0))),ko 9 (.alloc (Qa 32 (.int .u8 0))),kq (.store 32 (kt 8) (kt 29)),kq (.store 32 (kt 9) (kt 32))] [1,2,7,8,9]) (.seq (.seq (kr [ko 33 (.load (some 32) (kt 8)),ko 34 (.load (some 64) (kt 7)),ko 35 (.move (kt 2)),ko 36 (.buildSlice [(.slice none 0 0)] 1 [(0,(1,(kt 35)))]),ko 37 (.call 11 [(kt 33),(kt 34),(kt 36)] false),ko 38 (.bin .eql (kt 37) (ki 0)),ko 39 (.move (kt 38)),.mk (some 40) (.move (kt 1)) (some (39,true)),.mk (some 41) (.b2s (kt 40)) (some (39,true)),.mk (some 42) (.move (kt 2)) (some (39,true)),.mk (some 43) (.b2s (kt 42)) (some (39,true)),.mk (some 44) (.bin .neq (kt 41) (kt 43)) (some (39,true)),ko 45 (.pick (kt 39) (kt 44) (.const (.bool false))),ko 46 (.move (kt 45)),.mk (some 47) (.load (some 32) (kt 8)) (some (46,true)),.mk (some 48) (.load (some 64) (kt 7)) (some (46,true)),.mk (some 49) (.move (kt 2)) (some (46,true)),.mk (some 50) (.b2s (kt 49)) (some (46,true)),.mk (some 51) (.call 12 [(kt 47),(kt 48),(kt 50)] true) (some (46,true)),.mk (some 52) (.bin .neq (kt 51) (ki 0)) (some (46,true)),ko 53 (.pick (kt 46) (kt 52) (.const (.bool false)))] [1,7,8,9,53]) (.cond (kt 53) (.seq (kr [ko 6 (.move (.const (.bool false)))] [6]) .ret) .skip)) (.seq (kr [ko 54 (.load (some 32) (kt 9)),ko 55 (.load (some 64) (kt 7)),ko 56 (.move (kt 1)),ko 57 (.buildSlice [(.slice none 0 0)] 1 [(0,(1,(kt 56)))]),ko 58 (.call 11 [(kt 54),(kt 55),(kt 57)] false),ko 59 (.bin .neq (kt 58) (ki 0)),ko 60 (.move (kt 59)),.mk (some 61) (.load (some 32) (kt 8)) (some (60,false)),.mk (some 62) (.load (some 32) (kt 9)) (some (60,false)),.mk (some 63) (.eqv (some (Qa 32 true)) false (kt 61) (kt 62)) (some (60,false)),ko 64 (.pick (kt 60) (.const (.bool true)) (kt 63)),ko 65 (.move (kt 64)),.mk (some 66) (.load (some 32) (kt 9)) (some (65,false)),.mk (some 67) (.load (some 64) (kt 7)) (some (65,false)),.mk (some 68) (.move (kt 1)) (some (65,false)),.mk (some 69) (.b2s (kt 68)) (some (65,false)),.mk (some 70) (.call 12 [(kt 66),(kt 67),(kt 69)] true) (some (65,false)),.mk (some 71) (.bin .eql (kt 70) (ki 0)) (some (65,false)),ko 72 (.pick (kt 65) (.const (.bool true)) (kt 71)),ko 6 (.move (kt 72))] [6]) .ret))))))),[(6,none)]⟩
def Qds:ACode:=(.seq (.seq (kr [ko 25 (.move (kt 11)),ko 26 (.bin .lss (kt 25) (ki 32))] [2,3,4,7,9,10,11,26]) (.cond (kt 26) .skip (.exit 0))) (.seq (.block 1 (.seq (kr [ko 29 (.move (kt 11)),ko 30 (.move (kt 11)),ko 31 (.indexAddr 64 1 (kt 4) (kt 30)),ko 32 (.load none (kt 31)),ko 33 (.indexAddr 32 1 (kt 9) (kt 29)),kq (.store 1 (kt 33) (kt 32))] [2,3,4,7,9,10,11]) (kr [ko 34 (.move (kt 11)),ko 35 (.move (kt 11)),ko 36 (.bin .add (kt 35) (ki 32)),ko 37 (.indexAddr 64 1 (kt 4) (kt 36)),ko 38 (.load none (kt 37)),ko 39 (.indexAddr 32 1 (kt 10) (kt 34)),kq (.store 1 (kt 39) (kt 38))] [2,3,4,7,9,10,11]))) (kr [ko 27 (.move (kt 11)),ko 28 (.bin .add (kt 27) (ki 1)),ko 11 (.move (kt 28))] [2,3,4,7,9,10,11])))
def Qdt:AFun:=⟨(.seq (kr [ko 3 (.box (kt 0)),ko 4 (.box (kt 1)),ko 6 (.move (ki 0))] [2,3,4]) (.seq (kr [ko 16 (.load (some 32) (kt 3)),ko 17 (.call 31 [(kt 16)] true),ko 15 (.move (kt 17)),ko 18 (.extract (kt 15) 0),ko 19 (.extract (kt 15) 1),ko 7 (.alloc (Qa 48 (.int .u64 0))),kq (.store 48 (kt 7) (kt 18)),ko 8 (.move (kt 19))] [2,3,4,7,8]) (.seq (.seq (kr [ko 20 (.move (kt 8)),ko 21 (.bin .neq (kt 20) (ki 0))] [2,3,4,7,8,21]) (.cond (kt 21) (.seq (kr [ko 22 (.move (kt 8)),ko 6 (.move (kt 22))] [6]) .ret) .skip)) (.seq (kr [ko 23 (.build (Qa 32 (.int .u8 0)) []),ko 24 (.build (Qa 32 (.int .u8 0)) []),ko 9 (.alloc (Qa 32 (.int .u8 0))),ko 10 (.alloc (Qa 32 (.int .u8 0))),kq (.store 32 (kt 9) (kt 23)),kq (.store 32 (kt 10) (kt 24))] [2,3,4,7,9,10]) (.seq (.seq (kr [ko 11 (.move (ki 0))] [2,3,4,7,9,10,11]) (.block 0 (.loop Qds))) (.seq (.seq (kr [ko 40 (.build (Qa 32 (.int .u8 0)) [(0,(1,(.const (.int .u8 8))))]),ko 41 (.load (some 48) (kt 7)),ko 42 (.call 23 [(kt 40),(kt 41)] true),ko 43 (.call 22 [(kt 42)] true),ko 44 (.build (Qa 32 (.int .u8 0)) [(0,(1,(.const (.int .u8 1))))]),ko 45 (.eqv (some (Qa 32 true)) false (kt 43) (kt 44)),ko 46 (.move (kt 45)),.mk (some 47) (.load (some 32) (kt 10)) (some (46,false)),.mk (some 48) (.call 32 [(kt 47)] true) (some (46,false)),.mk (some 49) (.un .not (kt 48)) (some (46,false)),ko 50 (.pick (kt 46) (.const (.bool true)) (kt 49))] [2,3,7,9,10,50]) (.cond (kt 50) (.seq (kr [ko 6 (.move (ki 70))] [6]) .ret) .skip)) (.seq (kr [ko 52 (.load (some 32) (kt 9)),ko 53 (.call 31 [(kt 52)] true),ko 51 (.move (kt 53)),ko 54 (.extract (kt 51) 0),ko 55 (.extract (kt 51) 1),ko 12 (.alloc (Qa 48 (.int .u64 0))),kq (.store 48 (kt 12) (kt 54)),ko 13 (.move (kt 55))] [2,3,7,9,10,12,13]) (.seq (.seq (kr [ko 56 (.move (kt 13)),ko 57 (.bin .neq (kt 56) (ki 0))] [2,3,7,9,10,12,57]) (.cond (kt 57) (.seq (kr [ko 6 (.move (ki 70))] [6]) .ret) .skip)) (.seq (kr [ko 58 (.load (some 32) (kt 9)),ko 59 (.call 21 [(kt 58)] true),ko 60 (.load (some 32) (kt 3)),ko 61 (.call 21 [(kt 60)] true),ko 62 (.bin .add (kt 59) (kt 61)),ko 63 (.move (kt 2)),ko 64 (.bin .add (kt 62) (kt 63)),ko 65 (.call 20 [(kt 64)] true),ko 14 (.alloc (Qa 32 (.int .u8 0))),kq (.store 32 (kt 14) (kt 65))] [7,10,12,14]) (.seq (.seq (kr [ko 66 (.load (some 32) (kt 10)),ko 67 (.call 24 [] true),ko 68 (.call 23 [(kt 66),(kt 67)] true),ko 69 (.call 22 [(kt 68)] true),ko 70 (.load (some 48) (kt 12)),ko 71 (.load (some 32) (kt 14)),ko 72 (.load (some 48) (kt 7)),ko 73 (.call 23 [(kt 71),(kt 72)] true),ko 74 (.call 34 [] true),ko 75 (.call 33 [(kt 70),(kt 73),(kt 74)] true),ko 76 (.call 22 [(kt 75)] true),ko 77 (.eqv (some (Qa 32 true)) true (kt 69) (kt 76))] [77]) (.cond (kt 77) (.seq (kr [ko 6 (.move (ki 70))] [6]) .ret) .skip)) (.seq (kr [ko 6 (.move (ki 0))] [6]) .ret))))))))))),[(6,none)]⟩
def Qbi:ACode:=(.seq (.seq (kr [ko 8 (.move (kt 5)),ko 9 (.bin .lss (kt 8) (ki 64))] [2,3,4,5,9]) (.cond (kt 9) .skip (.exit 0))) (.seq (.block 1 (kr [ko 12 (.move (kt 4)),ko 13 (.move (kt 5)),ko 14 (.indexAddr 64 1 (kt 3) (kt 13)),ko 15 (.load none (kt 14)),ko 16 (.buildSlice [(.int .u8 0)] 1 [(0,(1,(kt 15)))]),ko 17 (.b2s (kt 16)),ko 18 (.bin .add (kt 12) (kt 17)),ko 4 (.move (kt 18))] [2,3,4,5])) (kr [ko 10 (.move (kt 5)),ko 11 (.bin .add (kt 10) (ki 1)),ko 5 (.move (kt 11))] [2,3,4,5])))
def Q23:AFun:=⟨(.seq (kr [ko 2 (.alloc (Qa 32 (.int .u8 0)))] [0,2]) (.seq (kr [ko 6 (.move (kt 0)),ko 7 (.call 53 [(kt 6)] true),ko 3 (.alloc (Qa 64 (.int .u8 0))),kq (.store 64 (kt 3) (kt 7))] [2,3]) (.seq (kr [ko 4 (.move (.const (.string (ByteArray.mk #[]))))] [2,3,4]) (.seq (.seq (kr [ko 5 (.move (ki 0))] [2,3,4,5]) (.block 0 (.loop Qbi))) (.seq (kr [ko 19 (.move (kt 4)),ko 20 (.call 54 [(kt 19)] true),kq (.store 32 (kt 2) (kt 20))] [2]) .ret))))),[(2,(some (some 32)))]⟩
def Qbh:ACode:=(.seq (.seq (kr [ko 5 (.move (kt 4)),ko 6 (.bin .lss (kt 5) (ki 32))] [1,3,4,6]) (.cond (kt 6) .skip (.exit 0))) (.seq (.block 1 (kr [ko 9 (.move (kt 3)),ko 10 (.move (kt 4)),ko 11 (.indexAddr 32 1 (kt 1) (kt 10)),ko 12 (.load none (kt 11)),ko 13 (.buildSlice [(.int .u8 0)] 1 [(0,(1,(kt 12)))]),ko 14 (.b2s (kt 13)),ko 15 (.bin .add (kt 9) (kt 14)),ko 3 (.move (kt 15))] [1,3,4])) (kr [ko 7 (.move (kt 4)),ko 8 (.bin .add (kt 7) (ki 1)),ko 4 (.move (kt 8))] [1,3,4])))
def Q22:AFun:=⟨(.seq (kr [ko 1 (.box (kt 0)),ko 2 (.move (.const (.string (ByteArray.mk #[]))))] [1]) (.seq (kr [ko 3 (.move (.const (.string (ByteArray.mk #[]))))] [1,3]) (.seq (.seq (kr [ko 4 (.move (ki 0))] [1,3,4]) (.block 0 (.loop Qbh))) (.seq (kr [ko 16 (.move (kt 3)),ko 2 (.move (kt 16))] [2]) .ret)))),[(2,none)]⟩
def Qdr:ACode:=(.seq (.seq (kr [ko 16 (.move (kt 6)),ko 17 (.bin .lss (kt 16) (ki 64))] [2,4,5,6,17]) (.cond (kt 17) .skip (.exit 0))) (.seq (.block 1 (kr [ko 20 (.move (kt 6)),ko 21 (.move (kt 4)),ko 22 (.move (kt 6)),ko 23 (.indexSl 1 (kt 21) (kt 22)),ko 24 (.load none (kt 23)),ko 25 (.indexAddr 64 1 (kt 5) (kt 20)),kq (.store 1 (kt 25) (kt 24))] [2,4,5,6])) (kr [ko 18 (.move (kt 6)),ko 19 (.bin .add (kt 18) (ki 1)),ko 6 (.move (kt 19))] [2,4,5,6])))
def Q21:AFun:=⟨(.seq (kr [ko 2 (.alloc (Qa 64 (.int .u8 0)))] [0,2]) (.seq (kr [ko 7 (.build [(.int .i64 0),(.int .i64 0),(.int .i64 0),(.slice none 0 0),(.int .i64 0),(.int .i64 0),(.int .i64 0),(.int .i64 0),(.int .i64 0),(.int .i64 0),(.int .i64 0),(.int .i64 0),(.int .i64 0),(.int .i64 0),(.int .i64 0),(.int .i64 0)] [(0,(1,(ki 64))),(1,(1,(ki 80))),(2,(1,(ki 128)))]),ko 3 (.alloc [(.int .i64 0),(.int .i64 0),(.int .i64 0),(.slice none 0 0),(.int .i64 0),(.int .i64 0),(.int .i64 0),(.int .i64 0),(.int .i64 0),(.int .i64 0),(.int .i64 0),(.int .i64 0),(.int .i64 0),(.int .i64 0),(.int .i64 0),(.int .i64 0)]),kq (.store 16 (kt 3) (kt 7))] [0,2,3]) (.seq (kr [ko 8 (.buildSlice (Qa 8 (.int .u64 0)) 8 [(0,(1,(.const (.int .u64 7640891576956012808)))),(1,(1,(.const (.int .u64 13503953896175478587)))),(2,(1,(.const (.int .u64 4354685564936845355)))),(3,(1,(.const (.int .u64 11912009170470909681)))),(4,(1,(.const (.int .u64 5840696475078001361)))),(5,(1,(.const (.int .u64 11170449401992604703)))),(6,(1,(.const (.int .u64 2270897969802886507)))),(7,(1,(.const (.int .u64 6620516959819538809))))]),ko 9 (.fieldAddr 3 (kt 3)),kq (.store 1 (kt 9) (kt 8))] [0,2,3]) (.seq (kr [ko 10 (.build (Qa 12 (.int .i64 0)) [(0,(1,(ki 1))),(1,(1,(ki 8))),(2,(1,(ki 7))),(3,(1,(ki 19))),(4,(1,(ki 61))),(5,(1,(ki 6))),(6,(1,(ki 28))),(7,(1,(ki 34))),(8,(1,(ki 39))),(9,(1,(ki 14))),(10,(1,(ki 18))),(11,(1,(ki 41)))]),ko 11 (.fieldAddr 4 (kt 3)),kq (.store 12 (kt 11) (kt 10))] [0,2,3]) (.seq (kr [ko 12 (.move (kt 0)),ko 13 (.load (some 16) (kt 3)),ko 14 (.call 90 [(kt 12),(kt 13)] false),ko 4 (.move (kt 14))] [2,4]) (.seq (kr [ko 15 (.build (Qa 64 (.int .u8 0)) []),ko 5 (.alloc (Qa 64 (.int .u8 0))),kq (.store 64 (kt 5) (kt 15))] [2,4,5]) (.seq (.seq (kr [ko 6 (.move (ki 0))] [2,4,5,6]) (.block 0 (.loop Qdr))) (.seq (kr [ko 26 (.load (some 64) (kt 5)),kq (.store 64 (kt 2) (kt 26))] [2]) .ret)))))))),[(2,(some (some 64)))]⟩
def Qbg:ACode:=(.seq (.seq (kr [ko 381 (.move (kt 32)),ko 382 (.bin .geq (kt 381) (ki 0))] [5,11,30,31,32,382]) (.cond (kt 382) .skip (.exit 16))) (.seq (.block 17 (kr [ko 385 (.move (kt 30)),ko 386 (.move (kt 11)),ko 387 (.move (kt 31)),ko 388 (.indexSl 1 (kt 386) (kt 387)),ko 389 (.load none (kt 388)),ko 390 (.move (kt 32)),ko 391 (.bin .mul (ki 8) (kt 390)),ko 392 (.call 106 [(kt 391)] true),ko 393 (.bin .quo (kt 389) (kt 392)),ko 394 (.bin .rem (kt 393) (.const (.int .u64 256))),ko 395 (.conv .u8 (kt 394)),ko 396 (.buildSlice [(.int .u8 0)] 1 [(0,(1,(kt 395)))]),ko 397 (.append 1 1 (kt 385) (kt 396)),ko 30 (.move (kt 397))] [5,11,30,31,32])) (kr [ko 383 (.move (kt 32)),ko 384 (.bin .sub (kt 383) (ki 1)),ko 32 (.move (kt 384))] [5,11,30,31,32])))
def Qdq:ACode:=(.seq (.seq (kr [ko 375 (.move (kt 31)),ko 376 (.bin .lss (kt 375) (ki 8))] [5,11,30,31,376]) (.cond (kt 376) .skip (.exit 14))) (.seq (.block 15 (.seq (kr [ko 379 (.move (kt 5)),ko 380 (.bin .sub (kt 379) (ki 1)),ko 32 (.move (kt 380))] [5,11,30,31,32]) (.block 16 (.loop Qbg)))) (kr [ko 377 (.move (kt 31)),ko 378 (.bin .add (kt 377) (ki 1)),ko 31 (.move (kt 378))] [5,11,30,31])))
def Qbf:ACode:=(.seq (.seq (kr [ko 357 (.move (kt 29)),ko 358 (.bin .lss (kt 357) (ki 8))] [3,5,6,10,11,12,13,14,22,29,358]) (.cond (kt 358) .skip (.exit 12))) (.seq (.block 13 (kr [ko 361 (.move (kt 11)),ko 362 (.move (kt 29)),ko 363 (.move (kt 11)),ko 364 (.move (kt 29)),ko 365 (.indexSl 1 (kt 363) (kt 364)),ko 366 (.load none (kt 365)),ko 367 (.move (kt 22)),ko 368 (.move (kt 29)),ko 369 (.indexSl 1 (kt 367) (kt 368)),ko 370 (.load none (kt 369)),ko 371 (.bin .add (kt 366) (kt 370)),ko 372 (.move (kt 12)),ko 373 (.call 107 [(kt 371),(kt 372)] true),ko 374 (.indexSl 1 (kt 361) (kt 362)),kq (.store 1 (kt 374) (kt 373))] [3,5,6,10,11,12,13,14,22,29])) (kr [ko 359 (.move (kt 29)),ko 360 (.bin .add (kt 359) (ki 1)),ko 29 (.move (kt 360))] [3,5,6,10,11,12,13,14,22,29])))
def Qbe:ACode:=(.seq (.seq (kr [ko 208 (.move (kt 23)),ko 209 (.fieldAddr 1 (kt 3)),ko 210 (.load none (kt 209)),ko 211 (.bin .lss (kt 208) (kt 210))] [3,5,6,10,11,12,13,14,15,22,23,211]) (.cond (kt 211) .skip (.exit 10))) (.seq (.block 11 (.seq (kr [ko 214 (.move (kt 10)),ko 215 (.move (kt 23)),ko 216 (.indexSl 1 (kt 214) (kt 215)),ko 217 (.load none (kt 216)),ko 24 (.move (kt 217))] [3,5,6,10,11,12,13,14,15,22,23,24]) (.seq (.seq (kr [ko 218 (.move (kt 12)),ko 219 (.bin .eql (kt 218) (ki 32))] [3,5,6,10,11,12,13,14,15,22,23,24,219]) (.cond (kt 219) (kr [ko 220 (.move (kt 10)),ko 221 (.move (kt 23)),ko 222 (.indexSl 1 (kt 220) (kt 221)),ko 223 (.load none (kt 222)),ko 224 (.call 106 [(ki 32)] true),ko 225 (.bin .quo (kt 223) (kt 224)),ko 24 (.move (kt 225))] [3,5,6,10,11,12,13,14,15,22,23,24]) .skip)) (.seq (kr [ko 226 (.move (kt 22)),ko 227 (.indexSl 1 (kt 226) (ki 4)),ko 228 (.load none (kt 227)),ko 229 (.move (kt 22)),ko 230 (.indexSl 1 (kt 229) (ki 5)),ko 231 (.load none (kt 230)),ko 232 (.bin .and (kt 228) (kt 231)),ko 233 (.move (kt 22)),ko 234 (.indexSl 1 (kt 233) (ki 4)),ko 235 (.load none (kt 234)),ko 236 (.bin .sub (.const (.int .u64 18446744073709551615)) (kt 235)),ko 237 (.move (kt 12)),ko 238 (.call 107 [(kt 236),(kt 237)] true),ko 239 (.move (kt 22)),ko 240 (.indexSl 1 (kt 239) (ki 6)),ko 241 (.load none (kt 240)),ko 242 (.bin .and (kt 238) (kt 241)),ko 243 (.bin .or (kt 232) (kt 242)),ko 25 (.move (kt 243))] [3,5,6,10,11,12,13,14,15,22,23,24,25]) (.seq (kr [ko 244 (.move (kt 22)),ko 245 (.indexSl 1 (kt 244) (ki 0)),ko 246 (.load none (kt 245)),ko 247 (.move (kt 22)),ko 248 (.indexSl 1 (kt 247) (ki 1)),ko 249 (.load none (kt 248)),ko 250 (.bin .and (kt 246) (kt 249)),ko 251 (.move (kt 22)),ko 252 (.indexSl 1 (kt 251) (ki 0)),ko 253 (.load none (kt 252)),ko 254 (.move (kt 22)),ko 255 (.indexSl 1 (kt 254) (ki 2)),ko 256 (.load none (kt 255)),ko 257 (.bin .and (kt 253) (kt 256)),ko 258 (.bin .or (kt 250) (kt 257)),ko 259 (.move (kt 22)),ko 260 (.indexSl 1 (kt 259) (ki 1)),ko 261 (.load none (kt 260)),ko 262 (.move (kt 22)),ko 263 (.indexSl 1 (kt 262) (ki 2)),ko 264 (.load none (kt 263)),ko 265 (.bin .and (kt 261) (kt 264)),ko 266 (.bin .or (kt 258) (kt 265)),ko 26 (.move (kt 266))] [3,5,6,10,11,12,13,14,15,22,23,24,25,26]) (.seq (kr [ko 267 (.move (kt 22)),ko 268 (.indexSl 1 (kt 267) (ki 7)),ko 269 (.load none (kt 268)),ko 270 (.move (kt 22)),ko 271 (.indexSl 1 (kt 270) (ki 4)),ko 272 (.load none (kt 271)),ko 273 (.indexAddr 12 1 (kt 13) (ki 9)),ko 274 (.load none (kt 273)),ko 275 (.move (kt 12)),ko 276 (.call 105 [(kt 272),(kt 274),(kt 275)] true),ko 277 (.move (kt 22)),ko 278 (.indexSl 1 (kt 277) (ki 4)),ko 279 (.load none (kt 278)),ko 280 (.indexAddr 12 1 (kt 13) (ki 10)),ko 281 (.load none (kt 280)),ko 282 (.move (kt 12)),ko 283 (.call 105 [(kt 279),(kt 281),(kt 282)] true),ko 284 (.move (kt 22)),ko 285 (.indexSl 1 (kt 284) (ki 4)),ko 286 (.load none (kt 285)),ko 287 (.indexAddr 12 1 (kt 13) (ki 11)),ko 288 (.load none (kt 287)),ko 289 (.move (kt 12)),ko 290 (.call 105 [(kt 286),(kt 288),(kt 289)] true),ko 291 (.call 104 [(kt 276),(kt 283),(kt 290)] true),ko 292 (.bin .add (kt 269) (kt 291)),ko 293 (.move (kt 25)),ko 294 (.bin .add (kt 292) (kt 293)),ko 295 (.move (kt 24)),ko 296 (.bin .add (kt 294) (kt 295)),ko 297 (.move (kt 15)),ko 298 (.move (kt 23)),ko 299 (.indexSl 1 (kt 297) (kt 298)),ko 300 (.load none (kt 299)),ko 301 (.bin .add (kt 296) (kt 300)),ko 27 (.move (kt 301))] [3,5,6,10,11,12,13,14,15,22,23,26,27]) (.seq (kr [ko 302 (.move (kt 22)),ko 303 (.indexSl 1 (kt 302) (ki 0)),ko 304 (.load none (kt 303)),ko 305 (.indexAddr 12 1 (kt 13) (ki 6)),ko 306 (.load none (kt 305)),ko 307 (.move (kt 12)),ko 308 (.call 105 [(kt 304),(kt 306),(kt 307)] true),ko 309 (.move (kt 22)),ko 310 (.indexSl 1 (kt 309) (ki 0)),ko 311 (.load none (kt 310)),ko 312 (.indexAddr 12 1 (kt 13) (ki 7)),ko 313 (.load none (kt 312)),ko 314 (.move (kt 12)),ko 315 (.call 105 [(kt 311),(kt 313),(kt 314)] true),ko 316 (.move (kt 22)),ko 317 (.indexSl 1 (kt 316) (ki 0)),ko 318 (.load none (kt 317)),ko 319 (.indexAddr 12 1 (kt 13) (ki 8)),ko 320 (.load none (kt 319)),ko 321 (.move (kt 12)),ko 322 (.call 105 [(kt 318),(kt 320),(kt 321)] true),ko 323 (.call 104 [(kt 308),(kt 315),(kt 322)] true),ko 324 (.move (kt 26)),ko 325 (.bin .add (kt 323) (kt 324)),ko 28 (.move (kt 325))] [3,5,6,10,11,12,13,14,15,22,23,27,28]) (kr [ko 326 (.move (kt 27)),ko 327 (.move (kt 28)),ko 328 (.bin .add (kt 326) (kt 327)),ko 329 (.move (kt 12)),ko 330 (.call 107 [(kt 328),(kt 329)] true),ko 331 (.move (kt 22)),ko 332 (.indexSl 1 (kt 331) (ki 0)),ko 333 (.load none (kt 332)),ko 334 (.move (kt 22)),ko 335 (.indexSl 1 (kt 334) (ki 1)),ko 336 (.load none (kt 335)),ko 337 (.move (kt 22)),ko 338 (.indexSl 1 (kt 337) (ki 2)),ko 339 (.load none (kt 338)),ko 340 (.move (kt 22)),ko 341 (.indexSl 1 (kt 340) (ki 3)),ko 342 (.load none (kt 341)),ko 343 (.move (kt 27)),ko 344 (.bin .add (kt 342) (kt 343)),ko 345 (.move (kt 12)),ko 346 (.call 107 [(kt 344),(kt 345)] true),ko 347 (.move (kt 22)),ko 348 (.indexSl 1 (kt 347) (ki 4)),ko 349 (.load none (kt 348)),ko 350 (.move (kt 22)),ko 351 (.indexSl 1 (kt 350) (ki 5)),ko 352 (.load none (kt 351)),ko 353 (.move (kt 22)),ko 354 (.indexSl 1 (kt 353) (ki 6)),ko 355 (.load none (kt 354)),ko 356 (.buildSlice (Qa 8 (.int .u64 0)) 8 [(0,(1,(kt 330))),(1,(1,(kt 333))),(2,(1,(kt 336))),(3,(1,(kt 339))),(4,(1,(kt 346))),(5,(1,(kt 349))),(6,(1,(kt 352))),(7,(1,(kt 355)))]),ko 22 (.move (kt 356))] [3,5,6,10,11,12,13,14,15,22,23])))))))) (kr [ko 212 (.move (kt 23)),ko 213 (.bin .add (kt 212) (ki 1)),ko 23 (.move (kt 213))] [3,5,6,10,11,12,13,14,15,22,23])))
def Qdp:ACode:=(.seq (.seq (kr [ko 118 (.move (kt 17)),ko 119 (.move (kt 5)),ko 120 (.bin .lss (kt 118) (kt 119))] [3,5,6,10,11,12,13,14,15,16,17,120]) (.cond (kt 120) .skip (.exit 8))) (.seq (.block 9 (kr [ko 123 (.move (kt 15)),ko 124 (.move (kt 16)),ko 125 (.move (kt 15)),ko 126 (.move (kt 16)),ko 127 (.indexSl 1 (kt 125) (kt 126)),ko 128 (.load none (kt 127)),ko 129 (.bin .mul (kt 128) (.const (.int .u64 256))),ko 130 (.move (kt 6)),ko 131 (.move (kt 14)),ko 132 (.move (kt 5)),ko 133 (.move (kt 16)),ko 134 (.bin .mul (kt 132) (kt 133)),ko 135 (.bin .add (kt 131) (kt 134)),ko 136 (.move (kt 17)),ko 137 (.bin .add (kt 135) (kt 136)),ko 138 (.indexSl 1 (kt 130) (kt 137)),ko 139 (.load none (kt 138)),ko 140 (.conv .u64 (kt 139)),ko 141 (.bin .add (kt 129) (kt 140)),ko 142 (.indexSl 1 (kt 123) (kt 124)),kq (.store 1 (kt 142) (kt 141))] [3,5,6,10,11,12,13,14,15,16,17])) (kr [ko 121 (.move (kt 17)),ko 122 (.bin .add (kt 121) (ki 1)),ko 17 (.move (kt 122))] [3,5,6,10,11,12,13,14,15,16,17])))
def Rd:ACode:=(.seq (.seq (kr [ko 110 (.move (kt 16)),ko 111 (.fieldAddr 1 (kt 3)),ko 112 (.load none (kt 111)),ko 113 (.bin .lss (kt 110) (kt 112))] [3,5,6,10,11,12,13,14,15,16,113]) (.cond (kt 113) .skip (.exit 6))) (.seq (.block 7 (.seq (.seq (kr [ko 116 (.move (kt 16)),ko 117 (.bin .lss (kt 116) (ki 16))] [3,5,6,10,11,12,13,14,15,16,117]) (.cond (kt 117) (.seq (.seq (kr [ko 17 (.move (ki 0))] [3,5,6,10,11,12,13,14,15,16,17]) (.block 8 (.loop Qdp))) (.exit 7)) .skip)) (.seq (kr [ko 143 (.move (kt 15)),ko 144 (.move (kt 16)),ko 145 (.bin .sub (kt 144) (ki 15)),ko 146 (.indexSl 1 (kt 143) (kt 145)),ko 147 (.load none (kt 146)),ko 148 (.move (kt 15)),ko 149 (.move (kt 16)),ko 150 (.bin .sub (kt 149) (ki 2)),ko 151 (.indexSl 1 (kt 148) (kt 150)),ko 152 (.load none (kt 151)),ko 18 (.move (kt 147)),ko 19 (.move (kt 152))] [3,5,6,10,11,12,13,14,15,16,18,19]) (.seq (kr [ko 153 (.move (kt 18)),ko 154 (.indexAddr 12 1 (kt 13) (ki 0)),ko 155 (.load none (kt 154)),ko 156 (.move (kt 12)),ko 157 (.call 105 [(kt 153),(kt 155),(kt 156)] true),ko 158 (.move (kt 18)),ko 159 (.indexAddr 12 1 (kt 13) (ki 1)),ko 160 (.load none (kt 159)),ko 161 (.move (kt 12)),ko 162 (.call 105 [(kt 158),(kt 160),(kt 161)] true),ko 163 (.move (kt 18)),ko 164 (.indexAddr 12 1 (kt 13) (ki 2)),ko 165 (.load none (kt 164)),ko 166 (.call 106 [(kt 165)] true),ko 167 (.bin .quo (kt 163) (kt 166)),ko 168 (.call 104 [(kt 157),(kt 162),(kt 167)] true),ko 20 (.move (kt 168))] [3,5,6,10,11,12,13,14,15,16,19,20]) (.seq (kr [ko 169 (.move (kt 19)),ko 170 (.indexAddr 12 1 (kt 13) (ki 3)),ko 171 (.load none (kt 170)),ko 172 (.move (kt 12)),ko 173 (.call 105 [(kt 169),(kt 171),(kt 172)] true),ko 174 (.move (kt 19)),ko 175 (.indexAddr 12 1 (kt 13) (ki 4)),ko 176 (.load none (kt 175)),ko 177 (.move (kt 12)),ko 178 (.call 105 [(kt 174),(kt 176),(kt 177)] true),ko 179 (.move (kt 19)),ko 180 (.indexAddr 12 1 (kt 13) (ki 5)),ko 181 (.load none (kt 180)),ko 182 (.call 106 [(kt 181)] true),ko 183 (.bin .quo (kt 179) (kt 182)),ko 184 (.call 104 [(kt 173),(kt 178),(kt 183)] true),ko 21 (.move (kt 184))] [3,5,6,10,11,12,13,14,15,16,20,21]) (kr [ko 185 (.move (kt 15)),ko 186 (.move (kt 16)),ko 187 (.move (kt 15)),ko 188 (.move (kt 16)),ko 189 (.bin .sub (kt 188) (ki 16)),ko 190 (.indexSl 1 (kt 187) (kt 189)),ko 191 (.load none (kt 190)),ko 192 (.move (kt 20)),ko 193 (.bin .add (kt 191) (kt 192)),ko 194 (.move (kt 15)),ko 195 (.move (kt 16)),ko 196 (.bin .sub (kt 195) (ki 7)),ko 197 (.indexSl 1 (kt 194) (kt 196)),ko 198 (.load none (kt 197)),ko 199 (.bin .add (kt 193) (kt 198)),ko 200 (.move (kt 21)),ko 201 (.bin .add (kt 199) (kt 200)),ko 202 (.move (kt 12)),ko 203 (.call 107 [(kt 201),(kt 202)] true),ko 204 (.indexSl 1 (kt 185) (kt 186)),kq (.store 1 (kt 204) (kt 203))] [3,5,6,10,11,12,13,14,15,16])))))) (kr [ko 114 (.move (kt 16)),ko 115 (.bin .add (kt 114) (ki 1)),ko 16 (.move (kt 115))] [3,5,6,10,11,12,13,14,15,16])))
def Qbd:ACode:=(.seq (.seq (kr [ko 99 (.move (kt 14)),ko 100 (.move (kt 6)),ko 101 (.len false (kt 100)),ko 102 (.bin .lss (kt 99) (kt 101))] [3,5,6,10,11,12,13,14,102]) (.cond (kt 102) .skip (.exit 4))) (.seq (.block 5 (.seq (kr [ko 107 (.fieldAddr 1 (kt 3)),ko 108 (.load none (kt 107)),ko 109 (.makeSlice [(.int .u64 0)] 8 (kt 108) (kt 108)),ko 15 (.move (kt 109))] [3,5,6,10,11,12,13,14,15]) (.seq (.seq (kr [ko 16 (.move (ki 0))] [3,5,6,10,11,12,13,14,15,16]) (.block 6 (.loop Rd))) (.seq (kr [ko 205 (.buildSlice [] 0 []),ko 206 (.move (kt 11)),ko 207 (.append 1 8 (kt 205) (kt 206)),ko 22 (.move (kt 207))] [3,5,6,10,11,12,13,14,15,22]) (.seq (.seq (kr [ko 23 (.move (ki 0))] [3,5,6,10,11,12,13,14,15,22,23]) (.block 10 (.loop Qbe))) (.seq (kr [ko 29 (.move (ki 0))] [3,5,6,10,11,12,13,14,22,29]) (.block 12 (.loop Qbf)))))))) (kr [ko 103 (.move (kt 14)),ko 104 (.fieldAddr 2 (kt 3)),ko 105 (.load none (kt 104)),ko 106 (.bin .add (kt 103) (kt 105)),ko 14 (.move (kt 106))] [3,5,6,10,11,12,13,14])))
def Rc:ACode:=(.seq (.seq (kr [ko 61 (.move (kt 9)),ko 62 (.bin .geq (kt 61) (ki 0))] [3,5,6,7,8,9,62]) (.cond (kt 62) .skip (.exit 2))) (.seq (.block 3 (.seq (kr [ko 65 (.move (kt 9)),ko 66 (.move (kt 5)),ko 67 (.bin .mul (ki 2) (kt 66)),ko 68 (.bin .sub (kt 67) (ki 1)),ko 69 (.bin .eql (kt 65) (kt 68))] [3,5,6,7,8,9,69]) (.cond (kt 69) (.seq (kr [ko 70 (.move (kt 7)),ko 71 (.move (kt 9)),ko 72 (.move (kt 8)),ko 73 (.bin .rem (kt 72) (.const (.int .u64 32))),ko 74 (.bin .mul (kt 73) (.const (.int .u64 8))),ko 75 (.conv .u8 (kt 74)),ko 76 (.indexSl 1 (kt 70) (kt 71)),kq (.store 1 (kt 76) (kt 75))] [3,5,6,7,8,9]) (kr [ko 77 (.move (kt 8)),ko 78 (.bin .quo (kt 77) (.const (.int .u64 32))),ko 8 (.move (kt 78))] [3,5,6,7,8,9])) (.seq (kr [ko 79 (.move (kt 7)),ko 80 (.move (kt 9)),ko 81 (.move (kt 8)),ko 82 (.bin .rem (kt 81) (.const (.int .u64 256))),ko 83 (.conv .u8 (kt 82)),ko 84 (.indexSl 1 (kt 79) (kt 80)),kq (.store 1 (kt 84) (kt 83))] [3,5,6,7,8,9]) (kr [ko 85 (.move (kt 8)),ko 86 (.bin .quo (kt 85) (.const (.int .u64 256))),ko 8 (.move (kt 86))] [3,5,6,7,8,9]))))) (kr [ko 63 (.move (kt 9)),ko 64 (.bin .sub (kt 63) (ki 1)),ko 9 (.move (kt 64))] [3,5,6,7,8,9])))
def Qdo:ACode:=(.seq (.seq (kr [ko 40 (.move (kt 6)),ko 41 (.len false (kt 40)),ko 42 (.move (kt 5)),ko 43 (.bin .mul (ki 2) (kt 42)),ko 44 (.bin .add (kt 41) (kt 43)),ko 45 (.fieldAddr 2 (kt 3)),ko 46 (.load none (kt 45)),ko 47 (.bin .rem (kt 44) (kt 46)),ko 48 (.bin .neq (kt 47) (ki 0))] [0,3,5,6,48]) (.cond (kt 48) .skip (.exit 0))) (.block 1 (kr [ko 49 (.move (kt 6)),ko 50 (.buildSlice [(.int .u8 0)] 1 [(0,(1,(.const (.int .u8 0))))]),ko 51 (.append 1 1 (kt 49) (kt 50)),ko 6 (.move (kt 51))] [0,3,5,6])))
def Q20:AFun:=⟨(.seq (kr [ko 3 (.box (kt 1)),ko 4 (.move (.const (.slice none 0 0)))] [0,3]) (.seq (kr [ko 33 (.fieldAddr 0 (kt 3)),ko 34 (.load none (kt 33)),ko 35 (.bin .quo (kt 34) (ki 8)),ko 5 (.move (kt 35))] [0,3,5]) (.seq (kr [ko 36 (.move (kt 0)),ko 37 (.s2b (kt 36)),ko 38 (.buildSlice [(.int .u8 0)] 1 [(0,(1,(.const (.int .u8 128))))]),ko 39 (.append 1 1 (kt 37) (kt 38)),ko 6 (.move (kt 39))] [0,3,5,6]) (.seq (.block 0 (.loop Qdo)) (.seq (kr [ko 52 (.move (kt 5)),ko 53 (.bin .mul (ki 2) (kt 52)),ko 54 (.makeSlice [(.int .u8 0)] 1 (kt 53) (kt 53)),ko 7 (.move (kt 54))] [0,3,5,6,7]) (.seq (kr [ko 55 (.move (kt 0)),ko 56 (.len true (kt 55)),ko 57 (.conv .u64 (kt 56)),ko 8 (.move (kt 57))] [3,5,6,7,8]) (.seq (.seq (kr [ko 58 (.move (kt 5)),ko 59 (.bin .mul (ki 2) (kt 58)),ko 60 (.bin .sub (kt 59) (ki 1)),ko 9 (.move (kt 60))] [3,5,6,7,8,9]) (.block 2 (.loop Rc))) (.seq (kr [ko 87 (.move (kt 6)),ko 88 (.move (kt 7)),ko 89 (.append 1 1 (kt 87) (kt 88)),ko 6 (.move (kt 89))] [3,5,6]) (.seq (kr [ko 90 (.call 103 [] false),ko 10 (.move (kt 90))] [3,5,6,10]) (.seq (kr [ko 91 (.buildSlice [] 0 []),ko 92 (.fieldAddr 3 (kt 3)),ko 93 (.load none (kt 92)),ko 94 (.append 1 8 (kt 91) (kt 93)),ko 11 (.move (kt 94))] [3,5,6,10,11]) (.seq (kr [ko 95 (.fieldAddr 0 (kt 3)),ko 96 (.load none (kt 95)),ko 97 (.fieldAddr 4 (kt 3)),ko 98 (.load (some 12) (kt 97)),ko 13 (.alloc (Qa 12 (.int .i64 0))),ko 12 (.move (kt 96)),kq (.store 12 (kt 13) (kt 98))] [3,5,6,10,11,12,13]) (.seq (.seq (kr [ko 14 (.move (ki 0))] [3,5,6,10,11,12,13,14]) (.block 4 (.loop Qbd))) (.seq (kr [ko 30 (.move (.const (.slice none 0 0)))] [5,11,30]) (.seq (.seq (kr [ko 31 (.move (ki 0))] [5,11,30,31]) (.block 14 (.loop Qdq))) (.seq (kr [ko 398 (.move (kt 30)),ko 4 (.move (kt 398))] [4]) .ret))))))))))))))),[(4,none)]⟩
def Q2z:AFun:=⟨(.seq (kr [ko 0 (.move (.const (.slice none 0 0)))] []) (.seq (kr [ko 1 (.buildSlice (Qa 80 (.int .u64 0)) 80 [(0,(1,(.const (.int .u64 4794697086780616226)))),(1,(1,(.const (.int .u64 8158064640168781261)))),(2,(1,(.const (.int .u64 13096744586834688815)))),(3,(1,(.const (.int .u64 16840607885511220156)))),(4,(1,(.const (.int .u64 4131703408338449720)))),(5,(1,(.const (.int .u64 6480981068601479193)))),(6,(1,(.const (.int .u64 10538285296894168987)))),(7,(1,(.const (.int .u64 12329834152419229976)))),(8,(1,(.const (.int .u64 15566598209576043074)))),(9,(1,(.const (.int .u64 1334009975649890238)))),(10,(1,(.const (.int .u64 2608012711638119052)))),(11,(1,(.const (.int .u64 6128411473006802146)))),(12,(1,(.const (.int .u64 8268148722764581231)))),(13,(1,(.const (.int .u64 9286055187155687089)))),(14,(1,(.const (.int .u64 11230858885718282805)))),(15,(1,(.const (.int .u64 13951009754708518548)))),(16,(1,(.const (.int .u64 16472876342353939154)))),(17,(1,(.const (.int .u64 17275323862435702243)))),(18,(1,(.const (.int .u64 1135362057144423861)))),(19,(1,(.const (.int .u64 2597628984639134821)))),(20,(1,(.const (.int .u64 3308224258029322869)))),(21,(1,(.const (.int .u64 5365058923640841347)))),(22,(1,(.const (.int .u64 6679025012923562964)))),(23,(1,(.const (.int .u64 8573033837759648693)))),(24,(1,(.const (.int .u64 10970295158949994411)))),(25,(1,(.const (.int .u64 12119686244451234320)))),(26,(1,(.const (.int .u64 12683024718118986047)))),(27,(1,(.const (.int .u64 13788192230050041572)))),(28,(1,(.const (.int .u64 14330467153632333762)))),(29,(1,(.const (.int .u64 15395433587784984357)))),(30,(1,(.const (.int .u64 489312712824947311)))),(31,(1,(.const (.int .u64 1452737877330783856)))),(32,(1,(.const (.int .u64 2861767655752347644)))),(33,(1,(.const (.int .u64 3322285676063803686)))),(34,(1,(.const (.int .u64 5560940570517711597)))),(35,(1,(.const (.int .u64 5996557281743188959)))),(36,(1,(.const (.int .u64 7280758554555802590)))),(37,(1,(.const (.int .u64 8532644243296465576)))),(38,(1,(.const (.int .u64 9350256976987008742)))),(39,(1,(.const (.int .u64 10552545826968843579)))),(40,(1,(.const (.int .u64 11727347734174303076)))),(41,(1,(.const (.int .u64 12113106623233404929)))),(42,(1,(.const (.int .u64 14000437183269869457)))),(43,(1,(.const (.int .u64 14369950271660146224)))),(44,(1,(.const (.int .u64 15101387698204529176)))),(45,(1,(.const (.int .u64 15463397548674623760)))),(46,(1,(.const (.int .u64 17586052441742319658)))),(47,(1,(.const (.int .u64 1182934255886127544)))),(48,(1,(.const (.int .u64 1847814050463011016)))),(49,(1,(.const (.int .u64 2177327727835720531)))),(50,(1,(.const (.int .u64 2830643537854262169)))),(51,(1,(.const (.int .u64 3796741975233480872)))),(52,(1,(.const (.int .u64 4115178125766777443)))),(53,(1,(.const (.int .u64 5681478168544905931)))),(54,(1,(.const (.int .u64 6601373596472566643)))),(55,(1,(.const (.int .u64 7507060721942968483)))),(56,(1,(.const (.int .u64 8399075790359081724)))),(57,(1,(.const (.int .u64 8693463985226723168)))),(58,(1,(.const (.int .u64 9568029438360202098)))),(59,(1,(.const (.int .u64 10144078919501101548)))),(60,(1,(.const (.int .u64 10430055236837252648)))),(61,(1,(.const (.int .u64 11840083180663258601)))),(62,(1,(.const (.int .u64 13761210420658862357)))),(63,(1,(.const (.int .u64 14299343276471374635)))),(64,(1,(.const (.int .u64 14566680578165727644)))),(65,(1,(.const (.int .u64 15097957966210449927)))),(66,(1,(.const (.int .u64 16922976911328602910)))),(67,(1,(.const (.int .u64 17689382322260857208)))),(68,(1,(.const (.int .u64 500013540394364858)))),(69,(1,(.const (.int .u64 748580250866718886)))),(70,(1,(.const (.int .u64 1242879168328830382)))),(71,(1,(.const (.int .u64 1977374033974150939)))),(72,(1,(.const (.int .u64 2944078676154940804)))),(73,(1,(.const (.int .u64 3659926193048069267)))),(74,(1,(.const (.int .u64 4368137639120453308)))),(75,(1,(.const (.int .u64 4836135668995329356)))),(76,(1,(.const (.int .u64 5532061633213252278)))),(77,(1,(.const (.int .u64 6448918945643986474)))),(78,(1,(.const (.int .u64 6902733635092675308)))),(79,(1,(.const (.int .u64 7801388544844847127))))]),ko 0 (.move (kt 1))] [0]) .ret)),[(0,none)]⟩
def Q2y:AFun:=⟨(.seq (kr [ko 6 (.move (.const (.int .u64 0)))] [0,1,2]) (.seq (kr [ko 7 (.move (kt 0)),ko 8 (.move (kt 1)),ko 9 (.bin .xor (kt 7) (kt 8)),ko 10 (.move (kt 2)),ko 11 (.bin .xor (kt 9) (kt 10)),ko 6 (.move (kt 11))] [6]) .ret)),[(6,none)]⟩
def Q2x:AFun:=⟨(.seq (kr [ko 6 (.move (.const (.int .u64 0)))] [0,1,2]) (.seq (.seq (kr [ko 7 (.move (kt 2)),ko 8 (.bin .eql (kt 7) (ki 64))] [0,1,2,8]) (.cond (kt 8) (.seq (kr [ko 9 (.move (kt 0)),ko 10 (.move (kt 1)),ko 11 (.call 106 [(kt 10)] true),ko 12 (.bin .quo (kt 9) (kt 11)),ko 13 (.move (kt 0)),ko 14 (.move (kt 1)),ko 15 (.bin .sub (ki 64) (kt 14)),ko 16 (.call 106 [(kt 15)] true),ko 17 (.bin .mul (kt 13) (kt 16)),ko 18 (.bin .add (kt 12) (kt 17)),ko 6 (.move (kt 18))] [6]) .ret) .skip)) (.seq (kr [ko 19 (.move (kt 0)),ko 20 (.move (kt 1)),ko 21 (.call 106 [(kt 20)] true),ko 22 (.bin .quo (kt 19) (kt 21)),ko 23 (.move (kt 0)),ko 24 (.move (kt 1)),ko 25 (.call 106 [(kt 24)] true),ko 26 (.bin .rem (kt 23) (kt 25)),ko 27 (.move (kt 2)),ko 28 (.move (kt 1)),ko 29 (.bin .sub (kt 27) (kt 28)),ko 30 (.call 106 [(kt 29)] true),ko 31 (.bin .mul (kt 26) (kt 30)),ko 32 (.bin .add (kt 22) (kt 31)),ko 6 (.move (kt 32))] [6]) .ret))),[(6,none)]⟩
def Qdn:ACode:=(.seq (.seq (kr [ko 5 (.move (kt 4)),ko 6 (.move (kt 0)),ko 7 (.bin .lss (kt 5) (kt 6))] [0,3,4,7]) (.cond (kt 7) .skip (.exit 0))) (.seq (.block 1 (kr [ko 10 (.move (kt 3)),ko 11 (.bin .mul (kt 10) (.const (.int .u64 2))),ko 3 (.move (kt 11))] [0,3,4])) (kr [ko 8 (.move (kt 4)),ko 9 (.bin .add (kt 8) (ki 1)),ko 4 (.move (kt 9))] [0,3,4])))
def Q2w:AFun:=⟨(.seq (kr [ko 2 (.move (.const (.int .u64 0)))] [0]) (.seq (kr [ko 3 (.move (.const (.int .u64 1)))] [0,3]) (.seq (.seq (kr [ko 4 (.move (ki 0))] [0,3,4]) (.block 0 (.loop Qdn))) (.seq (kr [ko 12 (.move (kt 3)),ko 2 (.move (kt 12))] [2]) .ret)))),[(2,none)]⟩
def Q2v:AFun:=⟨(.seq (kr [ko 4 (.move (.const (.int .u64 0)))] [0,1]) (.seq (.seq (kr [ko 5 (.move (kt 1)),ko 6 (.bin .eql (kt 5) (ki 64))] [0,1,6]) (.cond (kt 6) (.seq (kr [ko 7 (.move (kt 0)),ko 4 (.move (kt 7))] [4]) .ret) .skip)) (.seq (kr [ko 8 (.move (kt 0)),ko 9 (.move (kt 1)),ko 10 (.call 106 [(kt 9)] true),ko 11 (.bin .rem (kt 8) (kt 10)),ko 4 (.move (kt 11))] [4]) .ret))),[(4,none)]⟩
def fnS:Nat → Option AFun
 | 36 => some a16
 | 47 => some a17
 | 54 => some a18
 | 18 => some a19
 | 28 => some a21
 | 32 => some a22
 | 76 => some a23
 | 14 => some a25
 | 15 => some a26
 | 29 => some a27
 | 67 => some a28
 | 16 => some a29
 | 40 => some a30
 | 26 => some a31
 | 31 => some a32
 | 22 => some a33
 | 30 => some a34
 | 33 => some a35
 | 34 => some a36
 | 24 => some a37
 | 23 => some a38
 | 27 => some a39
 | 48 => some a40
 | 51 => some a41
 | 52 => some a42
 | 60 => some a43
 | 49 => some a44
 | 50 => some a45
 | 68 => some a46
 | 69 => some a47
 | 75 => some a48
 | 37 => some a49
 | 38 => some a50
 | 39 => some a51
 | 41 => some a52
 | 42 => some a53
 | 43 => some a54
 | 96 => some a55
 | 44 => some a56
 | 45 => some a57
 | 46 => some a58
 | 61 => some a59
 | 62 => some a60
 | 63 => some a61
 | 64 => some a62
 | 65 => some a63
 | 66 => some a64
 | 70 => some a65
 | 56 => some a66
 | 57 => some a67
 | 71 => some a68
 | 72 => some a69
 | 59 => some a70
 | 55 => some a71
 | 73 => some a72
 | 74 => some a73
 | 58 => some a74
 | 89 => some a75
 | 88 => some a76
 | 80 => some a77
 | 81 => some a78
 | 82 => some a79
 | 83 => some a80
 | 84 => some a81
 | 85 => some a82
 | 86 => some a83
 | 87 => some a84
 | 94 => some a85
 | 95 => some a86
 | 93 => some a87
 | 91 => some a88
 | 97 => some a89
 | 92 => some a90
 | 101 => some a91
 | 108 => some a93
 | 6 => some Q3i
 | 7 => some Q3h
 | 11 => some Qd0
 | 9 => some Q3g
 | 13 => some Q3f
 | 17 => some Q3e
 | 35 => some Q3d
 | 77 => some Q3c
 | 78 => some Q3b
 | 79 => some Q3a
 | 98 => some Q29
 | 99 => some Q28
 | 100 => some Q27
 | 109 => some Q26
 | 110 => some Q25
 | 5 => some Q24
 | 12 => some Qdt
 | 20 => some Q23
 | 21 => some Q22
 | 53 => some Q21
 | 90 => some Q20
 | 103 => some Q2z
 | 104 => some Q2y
 | 105 => some Q2x
 | 106 => some Q2w
 | 107 => some Q2v
 | _ => none
end Go.Ev.YtgacigcbglflkaaGreat
set_option linter.unusedSimpArgs false
set_option linter.unusedVariables false
namespace Go.Ev.YtgacigcbglflkaaGreat
open Go Go.Ev
def Q1w (f:Nat) (args:List Value):Option Value :=
 match f,args with
 | 102,[.int .u64 x,.int .u64 y,.int .u64 c] => if c.toNat ≤ 1 then some (.tuple #[.int .u64 ((x.toNat + y.toNat + c.toNat) % 18446744073709551616:Nat),.int .u64 ((x.toNat + y.toNat + c.toNat) / 18446744073709551616:Nat)]) else none
 | _,_ => none
def T:Tab:=⟨fnS,Q1w⟩
attribute [local congr] Dp
set_option maxRecDepth 100000
def Qbn (x y c:Nat):Nat:=if x < y + c then 1 else 0
def Qbm (x y c:Nat):Nat:=if x < y + c then x + 4294967296 - (y + c) else x - (y + c)
theorem Qgj {x y c:Nat} (hx:x < 4294967296) (hy:y < 4294967296) (hc:c ≤ 1) :
  V6 T 89 [.int .u32 x,.int .u32 y,.int .u32 c] [] = some (.tuple #[.int .u32 (Qbm x y c:Nat),.int .u32 (Qbn x y c:Nat)],[],[]):=by
 have e1:IntKind.u32.wrap (IntKind.u32.wrap ((x:Int) - y) - c) = ((x:Int) - y - c) % 4294967296:=by rw [wrap_u32,wrap_u32]; omega
 have e2:=Qyr hx hy hc
 have e3:(31:Int).toNat = 31:=rfl
 have e4:min 31 IntKind.u32.bits = 31:=rfl
 have e5:((x:Int) - y - c) % 4294967296 = (Qbm x y c:Nat):=by unfold Qbm; split <;> omega
 have e6:(if x < y + c then 1 else 0:Int) = (Qbn x y c:Nat):=by unfold Qbn; split <;> rfl
 rw [Jc (fn:=a75) rfl]
 simp only [a75,Z0,Kf,Kn,K5,Xf,Ko,Jq,K6,Kr,Vc,guardOf,Zs,opd,Wj,Vp,Vb,Env.get,Env.put,Yc,Q4,Za,Zb,Xo,Vu,Kd,J4,St.after,Env.keep,if_true,if_false,ite_true,ite_false,Y3,V7,unV,Vy,Va,packed,reduceCtorEq,Jd,Je,Zv,Qf,Qb,Qh,Z1,Ja,Jf,beq_self_eq_true,Xx,J1,Ki,Kh,X8,K0,Kj,X3,K3,Kz,X4,Vg,Kl,J9,Kx,K4,X6,X5,Jw,X7,Ji,Jp,Jo,J7,Ju,J5,Jt,Jn,J8,J6,Xl,Jv,Kg,Xn,Kk,Ky,Xm,Km,Xa,Ob.fresh,Y8,Wp,Wu,Jg,and_self,true_and,and_true,Jh,Xy,Vk,Yn,Vh,Xb,Yk,Xc,Xj,false_and,decide_true,decide_false,Jr,Qp,Qn,Qo,Qd,Qm,Qg,Y1,Xk,Ye,Xz,Xq,Xr,Zq,Zp,Bg,Bf,Be,Bd,Zj,Ke,Jz,Xw,Xi,Ve,J3,show (if IntKind.u32.signed = true then (-1:Int) else IntKind.u32.max) = IntKind.u32.max from rfl,e1,e3,e4,show ¬ ((31:Int) < 0) by decide,Jf]
 rw [e2,e6,e5]
def Qol (x y c:Nat):Nat:=(x + y + c) / 4294967296
def Qok (x y c:Nat):Nat:=(x + y + c) % 4294967296
theorem Qom {x y c:Nat} (hx:x < 4294967296) (hy:y < 4294967296) (hc:c ≤ 1) :
  V6 T 88 [.int .u32 x,.int .u32 y,.int .u32 c] [] = some (.tuple #[.int .u32 (Qok x y c:Nat),.int .u32 (Qol x y c:Nat)],[],[]):=by
 have e1:IntKind.u64.wrap (IntKind.u64.wrap (IntKind.u64.wrap (x:Int) + IntKind.u64.wrap (y:Int)) + IntKind.u64.wrap (c:Int)) = ((x + y + c:Nat):Int):=by simp only [Rt]; omega
 have e3:(32:Int).toNat = 32:=rfl
 have e4:min 32 IntKind.u64.bits = 32:=rfl
 have e5:IntKind.u32.wrap ((x + y + c:Nat):Int) = (Qok x y c:Nat):=by rw [wrap_u32]; unfold Qok; omega
 have e6:IntKind.u32.wrap (Tw ((x + y + c:Nat):Int) (2 ^ 32)) = (Qol x y c:Nat):=by
  rw [wrap_u32,Y6 _ (by decide)]; unfold Qol; omega
 rw [Jc (fn:=a76) rfl]
 simp only [a76,Z0,Kf,Kn,K5,Xf,Ko,Jq,K6,Kr,Vc,guardOf,Zs,opd,Wj,Vp,Vb,Env.get,Env.put,Yc,Q4,Za,Zb,Xo,Vu,Kd,J4,St.after,Env.keep,if_true,if_false,ite_true,ite_false,Y3,V7,unV,Vy,Va,packed,reduceCtorEq,Jd,Je,Zv,Qf,Qb,Qh,Z1,Ja,Jf,beq_self_eq_true,Xx,J1,Ki,Kh,X8,K0,Kj,X3,K3,Kz,X4,Vg,Kl,J9,Kx,K4,X6,X5,Jw,X7,Ji,Jp,Jo,J7,Ju,J5,Jt,Jn,J8,J6,Xl,Jv,Kg,Xn,Kk,Ky,Xm,Km,Xa,Ob.fresh,Y8,Wp,Wu,Jg,and_self,true_and,and_true,Jh,Xy,Vk,Yn,Vh,Xb,Yk,Xc,Xj,false_and,decide_true,decide_false,Jr,Qp,Qn,Qo,Qd,Qm,Qg,Y1,Xk,Ye,Xz,Xq,Xr,Zq,Zp,Bg,Bf,Be,Bd,Zj,Ke,Jz,Xw,Xi,Ve,J3,e1,e3,e4,e5,e6,show ¬ ((32:Int) < 0) by decide,Jf]
def orderW:List Nat:=[1559614445,1477600026,2734136534,350157278,0,0,0,268435456]
theorem Qg6 (H:List Ob):V6 T 69 [] H = some (.slice (some ⟨H.length,0,none⟩) 8 8,H ++ [Ob.fresh (X0 orderW)],[]):=by
 rw [Jc (fn:=a47) rfl]
 simp only [a47,Z0,Kf,Kn,K5,Xf,Ko,Jq,K6,Kr,Vc,guardOf,Zs,opd,Wj,Vp,Vb,Env.get,Env.put,Yc,Q4,Za,Zb,Xo,Vu,Kd,J4,St.after,Env.keep,if_true,if_false,ite_true,ite_false,Y3,V7,unV,Vy,Va,packed,reduceCtorEq,Jd,Je,Zv,Qf,Qb,Qh,Z1,Ja,Jf,beq_self_eq_true,Xx,J1,Ki,Kh,X8,K0,Kj,X3,K3,Kz,X4,Vg,Kl,J9,Kx,K4,X6,X5,Jw,X7,Ji,Jp,Jo,J7,Ju,J5,Jt,Jn,J8,J6,Xl,Jv,Kg,Xn,Kk,Ky,Xm,Km,Xa,Ob.fresh,Y8,Wp,Wu,Jg,and_self,true_and,and_true,Jh,Xy,Vk,Yn,Vh,Xb,Yk,Xc,Xj,false_and,decide_true,decide_false,Jr,Qp,Qn,Qo,Qd,Qm,Qg,Y1,Xk,Ye,Xz,Xq,Xr,Zq,Zp,Bg,Bf,Be,Bd,Zj,Ke,Jz,Xw,Xi,Ve,J3]
 rfl
end Go.Ev.YtgacigcbglflkaaGreat

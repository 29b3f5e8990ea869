/- What the law leans on, part 2. -/
import Derived.Test.YtpgphpkjlpkcbaaAM1
import Derived.SizedLaws
import Derived.ChangeArms
set_option linter.unusedSimpArgs false
set_option linter.unusedVariables false
open And renaming intro → Q4
open Bool renaming and_eq_true → Yf, and_self → Xi, and_true → Xp, false_and → Qgj, false_eq_true → Zp, not_false → Jv, not_true → Xm, true_and → Xh
open Int renaming cast_ofNat_Int → Qau, fdiv → Qat, fdiv_eq_ediv_of_nonneg → Wb, le_refl → Kb, natCast_nonneg → Z0, natCast_one → Qqy, natCast_zero → Vm, reduceEq → Qp, reduceLE → Qo, reduceLT → Qn, reduceToNat → Qe, toNat_natCast → Z4
open List renaming all_cons → J5, all_nil → Ka, append_assoc → Z1, append_nil → Xj, cons_append → Zb, drop_zero → Q5, eq_nil_of_length_eq_zero → Y0, ext_getElem? → Wn, getD_eq_getElem?_getD → Jf, getElem?_append_left → Qc, getElem?_append_right → Q3, getElem?_cons_succ → Zl, getElem?_cons_zero → Zk, getElem?_drop → V4, getElem?_eq_getElem → Qt, getElem?_eq_none → Kn, getElem?_eq_some_iff → Qu, getElem?_map → Bn, getElem?_set_ne → Z3, getElem?_set_self → Jq, getElem?_take → Vi, getElem_mem → Qdf, length_append → Zc, length_cons → Zr, length_nil → Zw, length_set → Jt, map_cons → Wf, map_map → Ql8, map_set → Q32, mem_append → Xg, mem_map → Us, mem_or_eq_of_mem_set → Qbo, nil_append → Q6, range → Wu, replicate → Qa, replicate_succ → Dg, set_append_right → We, set_cons_succ → D1, set_cons_zero → Qjn, take_add_one → Y9, take_of_length_le → Zh, take_zero → Za
open Nat renaming add_comm → Br, add_mul → Vo, add_mul_div_right → M8, add_mul_mod_self_right → Hw, add_zero → Ji, and_lt_two_pow → U4, div_div_eq_div_mul → Ym, div_eq_of_lt → Ua, div_lt_iff_lt_mul → Qft, div_one → Ux, eq_zero_or_pos → W5, le_of_lt → Um, le_refl → Zf, lt_irrefl → Xb, lt_of_lt_of_le → Xl, min_eq_left → Vz, mod_eq_of_lt → Z2, mod_lt → Js, mod_one → Q7u, mul_add → Qci, mul_assoc → Yw, mul_comm → Vp, mul_le_mul → Wm, mul_le_mul_left → Df, mul_le_mul_right → Uo, mul_left_comm → Y8, mul_one → X6, not_lt_zero → Jr, one_mul → Uw, or_lt_two_pow → Hm, pow_add → Wl, pow_add_one' → Qo3, pow_le_pow_right → Ve, pow_mul → Ys, pow_pos → Wx, pow_succ → Vt, pow_zero → W0, reduceAdd → Qi, reduceEqDiff → Qd, reduceLT → Qm, reduceMul → Qh, reduceSub → Qg, sub_self → Xa, sub_zero → Xy, two_pow_add_eq_or_of_lt → Hl, xor_lt_two_pow → Qap, zero_add → Zm, zero_le → Qch, zero_mul → Xo
open Option renaming bind_eq_some_iff → Qb, bind_some → Ql, getD_some → W8, isNone_none → Zy, isSome_none → Zz, isSome_some → Qao
open Option.some renaming injEq → Qs
set_option linter.unusedSimpArgs false
set_option linter.unusedVariables false
namespace Go.Ev
section
variable {T:Tab}
def AOp.noCall:AOp → Bool
 | .call .. | .callv .. => false
 | _ => true
theorem Kq {o:AOp} {e:Env} {H:List Ob} (h:o.noCall = true):Yq T o e H = Zn H e o:=by
 rw [Yq.eq_def]
 cases o <;> first | rfl | (simp [AOp.noCall] at h)
theorem Kg {e:Env} {H:List Ob} {x:Operand}:Yq T (.move x) e H = Zn H e (.move x):=Kq rfl
theorem Kf {e:Env} {H:List Ob} {c a b:Operand}:Yq T (.pick c a b) e H = Zn H e (.pick c a b):=Kq rfl
theorem Xx {e:Env} {H:List Ob} {zero:List Value}:Yq T (.alloc zero) e H = Zn H e (.alloc zero):=Kq rfl
theorem Kv {e:Env} {H:List Ob} {x:Operand}:Yq T (.box x) e H = Zn H e (.box x):=Kq rfl
theorem X8 {e:Env} {H:List Ob} {n:Option Nat} {a:Operand}:Yq T (.load n a) e H = Zn H e (.load n a):=Kq rfl
theorem Xk {e:Env} {H:List Ob} {n:Nat} {a v:Operand}:Yq T (.store n a v) e H = Zn H e (.store n a v):=Kq rfl
theorem Kw {e:Env} {H:List Ob} {op:BinOp} {x y:Operand}:Yq T (.bin op x y) e H = Zn H e (.bin op x y):=Kq rfl
theorem Ku {e:Env} {H:List Ob} {ks:Option (List Bool)} {neg:Bool} {x y:Operand}:Yq T (.eqv ks neg x y) e H = Zn H e (.eqv ks neg x y):=Kq rfl
theorem Xz {e:Env} {H:List Ob} {k:Nat} {neg:Bool} {x:Operand}:Yq T (.isNil k neg x) e H = Zn H e (.isNil k neg x):=Kq rfl
theorem Vg {e:Env} {H:List Ob} {op:UnOp} {x:Operand}:Yq T (.un op x) e H = Zn H e (.un op x):=Kq rfl
theorem Ki {e:Env} {H:List Ob} {k:IntKind} {x:Operand}:Yq T (.conv k x) e H = Zn H e (.conv k x):=Kq rfl
theorem J3 {e:Env} {H:List Ob} {x:Operand}:Yq T (.convStr x) e H = Zn H e (.convStr x):=Kq rfl
theorem Qji {e:Env} {H:List Ob} {x:Operand}:Yq T (.convSl x) e H = Zn H e (.convSl x):=Kq rfl
theorem Ks {e:Env} {H:List Ob} {x:Operand}:Yq T (.s2b x) e H = Zn H e (.s2b x):=Kq rfl
theorem Kx {e:Env} {H:List Ob} {x:Operand}:Yq T (.b2s x) e H = Zn H e (.b2s x):=Kq rfl
theorem X5 {e:Env} {H:List Ob} {n:Option Nat} {off:Nat} {x:Operand}:Yq T (.field n off x) e H = Zn H e (.field n off x):=Kq rfl
theorem X0 {e:Env} {H:List Ob} {n:Option Nat} {len es:Nat} {x i:Operand}:Yq T (.index n len es x i) e H = Zn H e (.index n len es x i):=Kq rfl
theorem Jp {e:Env} {H:List Ob} {x i:Operand}:Yq T (.indexStr x i) e H = Zn H e (.indexStr x i):=Kq rfl
theorem Xw {e:Env} {H:List Ob} {zero:List Value} {parts:List (Nat × Nat × Operand)}:Yq T (.build zero parts) e H = Zn H e (.build zero parts):=Kq rfl
theorem Z5 {e:Env} {H:List Ob} {cells:List Value} {len:Nat} {parts:List (Nat × Nat × Operand)}:Yq T (.buildSlice cells len parts) e H = Zn H e (.buildSlice cells len parts):=Kq rfl
theorem Je {e:Env} {H:List Ob} {off:Nat} {x:Operand}:Yq T (.fieldAddr off x) e H = Zn H e (.fieldAddr off x):=Kq rfl
theorem Jd {e:Env} {H:List Ob} {len es:Nat} {x i:Operand}:Yq T (.indexAddr len es x i) e H = Zn H e (.indexAddr len es x i):=Kq rfl
theorem J1 {e:Env} {H:List Ob} {es:Nat} {x i:Operand}:Yq T (.indexSl es x i) e H = Zn H e (.indexSl es x i):=Kq rfl
theorem Jn {e:Env} {H:List Ob} {n es:Nat} {x:Operand} {lo hi mx:Option Operand}:Yq T (.sliceArr n es x lo hi mx) e H = Zn H e (.sliceArr n es x lo hi mx):=Kq rfl
theorem Jz {e:Env} {H:List Ob} {es:Nat} {x:Operand} {lo hi mx:Option Operand}:Yq T (.sliceSl es x lo hi mx) e H = Zn H e (.sliceSl es x lo hi mx):=Kq rfl
theorem Jm {e:Env} {H:List Ob} {x:Operand} {lo hi:Option Operand}:Yq T (.sliceStr x lo hi) e H = Zn H e (.sliceStr x lo hi):=Kq rfl
theorem Jc {e:Env} {H:List Ob} {zero:List Value} {bytes:Nat} {l c:Operand}:Yq T (.makeSlice zero bytes l c) e H = Zn H e (.makeSlice zero bytes l c):=Kq rfl
theorem J2 {e:Env} {H:List Ob} {x:Operand} {i:Nat}:Yq T (.extract x i) e H = Zn H e (.extract x i):=Kq rfl
theorem J0 {e:Env} {H:List Ob} {t:TypeId} {x:Operand}:Yq T (.mkIface t x) e H = Zn H e (.mkIface t x):=Kq rfl
theorem Xd {e:Env} {H:List Ob} {fn:Fn} {first captured:List Operand}:Yq T (.mkFunc fn first captured) e H = Zn H e (.mkFunc fn first captured):=Kq rfl
theorem Jo {e:Env} {H:List Ob} {x:Operand}:Yq T (.nilCheck x) e H = Zn H e (.nilCheck x):=Kq rfl
theorem Ke {e:Env} {H:List Ob} {n:Nat} {x:Operand}:Yq T (.s2ap n x) e H = Zn H e (.s2ap n x):=Kq rfl
theorem Xf {e:Env} {H:List Ob} {es bytes:Nat} {s x:Operand}:Yq T (.append es bytes s x) e H = Zn H e (.append es bytes s x):=Kq rfl
theorem Kh {e:Env} {H:List Ob} {es:Nat} {d s:Operand}:Yq T (.copy es d s) e H = Zn H e (.copy es d s):=Kq rfl
theorem Kt {e:Env} {H:List Ob} {str:Bool} {x:Operand}:Yq T (.len str x) e H = Zn H e (.len str x):=Kq rfl
theorem Xe {e:Env} {H:List Ob} {max:Bool} {x y:Operand}:Yq T (.minmax max x y) e H = Zn H e (.minmax max x y):=Kq rfl
theorem Kj {e:Env} {H:List Ob} {f:FuncId} {xs:List Operand}:Yq T (.call f xs false) e H = (Wh e xs).bind fun args => (Vx T f args H).bind fun r => some (r.1,r.2.1,none,r.2.2):=by
 rw [Yq.eq_def]; dsimp only; cases Wh e xs <;> rfl
theorem Jw {e:Env} {H:List Ob} {f:FuncId} {xs:List Operand}:Yq T (.call f xs true) e H = (Wh e xs).bind fun args => if args.all rf then (Vx T f args []).bind fun r => if rf r.1 then some (r.1,H,some [],[]) else none else none:=by
 rw [Yq.eq_def]; dsimp only; cases Wh e xs <;> rfl
theorem Kc {base:Nat} {s:St}:J9 T base .skip s = some (.normal,s):=by rw [J9.eq_def]
theorem Kk {base id:Nat} {s:St}:J9 T base (.exit id) s = some (.exit id,s):=by rw [J9.eq_def]
theorem Kz {base:Nat} {s:St}:J9 T base .ret s = some (.ret,s):=by rw [J9.eq_def]
theorem Jy {base:Nat} {ops:List AOper} {keep:Option (List Nat)} {pairs:List (Nat × Nat)} {s:St}:J9 T base (.region ops keep pairs) s =
  (evOps T base ops s []).bind fun r => if Vv r.2 pairs then some (.normal,r.1.after keep) else none:=by rw [J9.eq_def]; rfl
theorem Ky {base:Nat} {a b:ACode} {s:St}:J9 T base (.seq a b) s = (J9 T base a s).bind fun r => match r.1 with
  | .normal => J9 T base b r.2
  | x => some (x,r.2):=by rw [J9.eq_def]; rfl
theorem Kl {base:Nat} {c:Operand} {a b:ACode} {s:St}:J9 T base (.cond c a b) s = match opd s.env c with
  | some (.bool true) => J9 T base a s
  | some (.bool false) => J9 T base b s
  | _ => none:=by rw [J9.eq_def]; rfl
theorem Ju {base id:Nat} {b:ACode} {s:St}:J9 T base (.block id b) s = (J9 T base b s).bind fun r => match r.1 with
  | .exit i => if i = id then some (.normal,r.2) else some (.exit i,r.2)
  | x => some (x,r.2):=by rw [J9.eq_def]; rfl
theorem Un {base:Nat} {b:ACode} {s:St}:J9 T base (.loop b) s = (J9 T base b s).bind fun r => match r.1 with
  | .normal => J9 T base (.loop b) r.2
  | x => some (x,r.2):=by rw [J9.eq_def]; rfl
theorem K7 {base:Nat} {s:St} {recs:List Rec}:evOps T base [] s recs = some (s,recs):=by rw [evOps.eq_def]
theorem Kd {base:Nat} {o:AOper} {r:List AOper} {s:St} {recs:List Rec}:evOps T base (o :: r) s recs = match guardOf s.env o.guard with
   | some true => (Yq T o.op s.env s.h).bind fun x => evOps T base r ⟨s.env.put o.dst x.1,x.2.1,Jj base s.log x.2.2.2⟩ (recs ++ [(x.2.2.1,x.2.2.2)])
   | some false => evOps T base r ⟨s.env.put o.dst undef,s.h,s.log⟩ (recs ++ [(some [],[])])
   | none => none:=by rw [evOps.eq_def]; rfl
end
theorem Dy {α β:Type} {x y:Option α} (f:α → Option β) (h:x = y):x.bind f = y.bind f:=by rw [h]
abbrev FunE:=Nat → List Value → List Ob → Option (Value × List Ob × List Nat)
section
variable {T:Tab} {F:FunE}
theorem Jg {f:Nat} {args:List Value} {H:List Ob} {fn:AFun} (hfn:T.fn f = some fn):Vx T f args H = (J9 T H.length fn.body ⟨Jh 0 args,H,[]⟩).bind fun xs => match xs.1 with
   | .exit _ => none
   | _ => (Vb xs.2.env xs.2.h fn.results).bind fun vs => some (packed vs,xs.2.h,xs.2.log):=by
 rw [Vx.eq_def,hfn]; rfl
end
end Go.Ev
set_option linter.unusedSimpArgs false
set_option linter.unusedVariables false
namespace Go.Ev
theorem wrap_u32 (x:Int):IntKind.u32.wrap x = x % 4294967296:=rfl
theorem Ta (x:Int):IntKind.u64.wrap x = x % 18446744073709551616:=rfl
theorem wrap_u8 (x:Int):IntKind.u8.wrap x = x % 256:=rfl
theorem Qu0 (x:Int):IntKind.u16.wrap x = x % 65536:=rfl
theorem V6 {x:Int} (h : -9223372036854775808 ≤ x) (k:x < 9223372036854775808):IntKind.i64.wrap x = x:=by
 simp [IntKind.wrap,IntKind.signed,IntKind.bits]
 omega
theorem Ww {k:IntKind} (hk:k.signed = false) {n:Nat} (h:n < 2 ^ k.bits):k.wrap (n:Int) = n:=by
 simp only [IntKind.wrap,hk,Qgj,if_false,Zp]
 rw [Int.emod_eq_of_lt (Z0 _)]
 exact_mod_cast h
theorem Qfc {w a:Nat}:BitVec.ofInt w (a:Int) = BitVec.ofNat w a:=by simp
theorem Mx {k:IntKind} (hk:k.signed = false) {a b:Nat} (ha:a < 2 ^ k.bits) (hb:b < 2 ^ k.bits):Vf .and k a b = ((a &&& b:Nat):Int):=by
 simp only [Vf,Qfc]
 rw [BitVec.toNat_and,BitVec.toNat_ofNat,BitVec.toNat_ofNat,Z2 ha,Z2 hb,Ww hk (U4 _ hb)]
theorem Gy {k:IntKind} (hk:k.signed = false) {a b:Nat} (ha:a < 2 ^ k.bits) (hb:b < 2 ^ k.bits):Vf .or k a b = ((a ||| b:Nat):Int):=by
 simp only [Vf,Qfc]
 rw [BitVec.toNat_or,BitVec.toNat_ofNat,BitVec.toNat_ofNat,Z2 ha,Z2 hb,Ww hk (Hm ha hb)]
theorem Qin {k:IntKind} (hk:k.signed = false) {a b:Nat} (ha:a < 2 ^ k.bits) (hb:b < 2 ^ k.bits):Vf .xor k a b = ((a ^^^ b:Nat):Int):=by
 simp only [Vf,Qfc]
 rw [BitVec.toNat_xor,BitVec.toNat_ofNat,BitVec.toNat_ofNat,Z2 ha,Z2 hb,Ww hk (Qap ha hb)]
theorem Qqs (op:BinOp) (a b:Int):(Vf .and .u32 a b = ((BitVec.ofInt 32 a &&& BitVec.ofInt 32 b).toNat:Int)) ∧ (Vf .or .u32 a b = ((BitVec.ofInt 32 a ||| BitVec.ofInt 32 b).toNat:Int)) ∧ (Vf .xor .u32 a b = ((BitVec.ofInt 32 a ^^^ BitVec.ofInt 32 b).toNat:Int)) :=
 ⟨Ww (k := .u32) rfl (BitVec.isLt _),Ww (k := .u32) rfl (BitVec.isLt _),Ww (k := .u32) rfl (BitVec.isLt _)⟩
theorem Qjc (v:BitVec 32):BitVec.ofInt 32 (v.toNat:Int) = v:=by simp
theorem top32 (v:BitVec 32):((v.toNat:Int).fdiv (2 ^ 31)) = if v.msb then 1 else 0:=by
 have h:=v.isLt
 rw [BitVec.msb_eq_decide]
 have e:((v.toNat:Int).fdiv (2 ^ 31)) = ((v.toNat / 2147483648:Nat):Int):=by
  rw [Wb _ (by decide)]; rfl
 rw [e]
 by_cases hv:2 ^ (32 - 1) ≤ v.toNat
 ·simp only [hv,decide_true,if_true]; omega
 ·simp only [hv,decide_false,Zp,if_false]; omega
theorem Qnw (x:Int):(BitVec.ofInt 32 x).msb = decide (2147483648 ≤ x % 4294967296):=by
 rw [BitVec.msb_eq_decide,BitVec.toNat_ofInt]
 by_cases h:2147483648 ≤ x % 4294967296
 ·simp only [h,decide_true,decide_eq_true_eq]; omega
 ·simp only [h,decide_false,decide_eq_false_iff_not]; omega
theorem Qy0 {x y c:Nat} (hx:x < 4294967296) (hy:y < 4294967296) (hc:c ≤ 1) :
  (Vf .or .u32 (Vf .and .u32 (Vf .xor .u32 IntKind.u32.max x) y) (Vf .and .u32 (Vf .xor .u32 IntKind.u32.max (Vf .xor .u32 x y)) (((x:Int) - y - c) % 4294967296))).fdiv (2 ^ 31) = if x < y + c then 1 else 0:=by
 have hm:BitVec.ofInt 32 IntKind.u32.max = BitVec.allOnes 32:=by decide
 simp only [(Qqs .and _ _).1,(Qqs .and _ _).2.1,(Qqs .and _ _).2.2,Qjc,top32,hm]
 simp only [BitVec.msb_or,BitVec.msb_and,BitVec.msb_xor,Qnw,BitVec.msb_allOnes (by decide:0 < 32)]
 by_cases a:(2147483648:Int) ≤ (x:Int) % 4294967296 <;> by_cases b:(2147483648:Int) ≤ (y:Int) % 4294967296 <;> by_cases d:(2147483648:Int) ≤ ((x:Int) - y - c) % 4294967296 % 4294967296 <;> simp [a,b,d] <;> omega
end Go.Ev
set_option linter.unusedSimpArgs false
set_option linter.unusedVariables false
namespace Go.Ev
section
variable {T:Tab}
theorem Qny {base:Nat} {body:ACode} (I:Nat → St) {r:AExit × St} (hr:r.1 ≠ .normal):∀ (n i:Nat),(∀ j,i ≤ j → j < i + n → J9 T base body (I j) = some (.normal,I (j + 1))) → J9 T base body (I (i + n)) = some r →
  J9 T base (.loop body) (I i) = some r
 | 0,i,_,hl => by
  rw [Un,show i = i + 0 from rfl,hl]
  obtain ⟨x,s⟩:=r
  cases x with
  | normal => exact absurd rfl hr
  | exit id => rfl
  | ret => rfl
 | n + 1,i,hs,hl => by
  rw [Un,hs i (Zf _) (by omega)]
  exact Qny I hr n (i + 1) (fun j h1 h2 => hs j (by omega) (by omega)) (by rw [show i + 1 + n = i + (n + 1) by omega]; exact hl)
theorem Uk {base id:Nat} {body:ACode} (I:Nat → St) {s':St} (n:Nat) (hs:∀ j,j < n → J9 T base body (I j) = some (.normal,I (j + 1))) (hl:J9 T base body (I n) = some (.exit id,s')) :
  J9 T base (.block id (.loop body)) (I 0) = some (.normal,s'):=by
 rw [Ju,Qny (r:=(.exit id,s')) I (by simp) n 0 (fun j _ h => hs j (by omega)) (by simpa using hl)]
 simp
end
section
variable {T:Tab}
theorem Qnz {base:Nat} {body:ACode} {I:Nat → St → Prop} {x:AExit} (hx:x ≠ .normal) {Q:St → Prop} (n:Nat) (hs:∀ j s,j < n → I j s → ∃ s',J9 T base body s = some (.normal,s') ∧ I (j + 1) s') (hl:∀ s,I n s → ∃ s',J9 T base body s = some (x,s') ∧ Q s') :
  ∀ (k i:Nat),i + k = n → ∀ s,I i s → ∃ s',J9 T base (.loop body) s = some (x,s') ∧ Q s'
 | 0,i,hi,s,h => by
  obtain ⟨s',h1,h2⟩:=hl s (by rw [← hi]; exact h)
  refine ⟨s',?_,h2⟩
  rw [Un,h1]
  cases x with
  | normal => exact absurd rfl hx
  | exit id => rfl
  | ret => rfl
 | k + 1,i,hi,s,h => by
  obtain ⟨s1,h1,h2⟩:=hs i s (by omega) h
  obtain ⟨s',h3,h4⟩:=Qnz hx n hs hl k (i + 1) (by omega) s1 h2
  exact ⟨s',by rw [Un,h1]; exact h3,h4⟩
theorem Yv {base id:Nat} {body:ACode} (I:Nat → St → Prop) {Q:St → Prop} (n:Nat) {s:St} (h0:I 0 s) (hs:∀ j s,j < n → I j s → ∃ s',J9 T base body s = some (.normal,s') ∧ I (j + 1) s') (hl:∀ s,I n s → ∃ s',J9 T base body s = some (.exit id,s') ∧ Q s') :
  ∃ s',J9 T base (.block id (.loop body)) s = some (.normal,s') ∧ Q s':=by
 obtain ⟨s',h1,h2⟩:=Qnz (T:=T) (x := .exit id) (by simp) n hs hl n 0 (by omega) s h0
 exact ⟨s',by rw [Ju,h1]; simp,h2⟩
end
theorem Q58 {H r:List Ob} {a b x:Ob}:(H ++ a :: b :: r).set (H.length + 1) x = H ++ a :: x :: r:=by simp
theorem Vr {H:List Ob} {id:Nat} {o:Ob} (h:H[id]? = some o) (hl:o.live = true):liveAt H id = some o:=by simp [liveAt,h,hl]
def Row (k:IntKind) (H:List Ob) (id off:Nat) (xs:List Nat):Prop:=∃ o,liveAt H id = some o ∧ ∀ i x,xs[i]? = some x → o.cells[off + i]? = some (.int k (x:Nat))
theorem Ga {H l:List Ob} {id:Nat} {o:Ob} (h:liveAt H id = some o):liveAt (H ++ l) id = some o:=by
 simp only [liveAt,Qb] at h ⊢
 obtain ⟨o',h1,h2⟩:=h
 refine ⟨o',?_,h2⟩
 rw [Qc (Qu.1 h1).1]
 exact h1
theorem Row.app {k:IntKind} {H l:List Ob} {id off:Nat} {xs:List Nat} (h:Row k H id off xs):Row k (H ++ l) id off xs:=by
 obtain ⟨o,h1,h2⟩:=h
 exact ⟨o,Ga h1,h2⟩
theorem Row.load {k:IntKind} {H:List Ob} {id off i x:Nat} {xs:List Nat} {e:Env} {a:Operand} (h:Row k H id off xs) (hi:xs[i]? = some x) (ha:opd e a = some (.pointer (some ⟨id,off + i,none⟩))) :
  Zn H e (.load none a) = some (.int k (x:Nat),H,some [id],[]):=by
 obtain ⟨o,h1,h2⟩:=h
 simp [Zn,ha,h1,Yl,h2 i x hi]
theorem Wi {H r:List Ob} {cs:List Value} {o e:Bool} {n:Nat}:liveAt (H ++ ⟨cs,true,o,e,n⟩ :: r) H.length = some ⟨cs,true,o,e,n⟩:=by simp [liveAt]
theorem Wt {H r:List Ob} {a:Ob} {cs:List Value} {o e:Bool} {n:Nat}:liveAt (H ++ a :: ⟨cs,true,o,e,n⟩ :: r) (H.length + 1) = some ⟨cs,true,o,e,n⟩:=by simp [liveAt]
theorem Ws {H r:List Ob} {a b:Ob} {cs:List Value} {o e:Bool} {n:Nat}:liveAt (H ++ a :: b :: ⟨cs,true,o,e,n⟩ :: r) (H.length + 2) = some ⟨cs,true,o,e,n⟩:=by simp [liveAt]
def Xq (l:List Nat):List Value:=l.map fun n => .int .u32 (n:Nat)
def u8s (l:List Nat):List Value:=l.map fun n => .int .u8 (n:Nat)
theorem Bd (l:List Nat):(Xq l).length = l.length:=by simp [Xq]
theorem Zt (l:List Nat):(u8s l).length = l.length:=by simp [u8s]
theorem Hz (l:List Nat) (i n:Nat):(Xq l).set i (.int .u32 (n:Nat)) = Xq (l.set i n):=by simp [Xq,Q32]
theorem Gt (l:List Nat) (i n:Nat):(u8s l).set i (.int .u8 (n:Nat)) = u8s (l.set i n):=by simp [u8s,Q32]
theorem Be {l:List Nat} {i x:Nat} (h:l[i]? = some x):(Xq l)[i]? = some (.int .u32 (x:Nat)):=by simp [Xq,h]
theorem Uh {l:List Nat} {i x:Nat} (h:l[i]? = some x):(u8s l)[i]? = some (.int .u8 (x:Nat)):=by simp [u8s,h]
theorem Vh (k:IntKind) (n:Int):(Value.int k n).cells.toList = [.int k n]:=rfl
theorem J4 (k:IntKind) (n:Int):(Value.int k n).cells.size = 1:=rfl
theorem B0 {H r:List Ob} {cs:List Value} {e:Bool} {s off:Nat} {v:List Value} (h:off + v.length ≤ cs.length):storeAt (H ++ ⟨cs,true,true,e,s⟩ :: r) ⟨H.length,off,none⟩ v = some (H ++ ⟨splice cs off v,true,true,e,s⟩ :: r):=by
 simp [storeAt,Wi,h]
theorem Qmq {H r:List Ob} {a:Ob} {cs:List Value} {e:Bool} {s off:Nat} {v:List Value} (h:off + v.length ≤ cs.length):storeAt (H ++ a :: ⟨cs,true,true,e,s⟩ :: r) ⟨H.length + 1,off,none⟩ v = some (H ++ a :: ⟨splice cs off v,true,true,e,s⟩ :: r):=by
 simp [storeAt,Wt,h]
theorem Qmp {H r:List Ob} {a b:Ob} {cs:List Value} {e:Bool} {s off:Nat} {v:List Value} (h:off + v.length ≤ cs.length):storeAt (H ++ a :: b :: ⟨cs,true,true,e,s⟩ :: r) ⟨H.length + 2,off,none⟩ v = some (H ++ a :: b :: ⟨splice cs off v,true,true,e,s⟩ :: r):=by
 simp [storeAt,Ws,h]
theorem Vn (b o n:Nat):(⟨b,o,none⟩:Addr).add n = ⟨b,o + n,none⟩:=by
 unfold Addr.add
 split <;> simp_all
theorem Yp {n:Nat} (h:n < 9223372036854775808):IntKind.i64.wrap (n:Int) = n:=V6 (by omega) (by omega)
theorem J8 (cs:List Value) (off:Nat) (x:Value):splice cs off [x] = cs.set off x:=rfl
theorem Vd (l:List Value):(Value.agg l.toArray).cells.toList = l:=rfl
theorem Jx (l:List Value):(Value.agg l.toArray).cells.size = l.length:=rfl
theorem Bj (n:Nat):(n + 1 < n) = False:=by simp
theorem Bi (n:Nat):(n + 2 < n) = False:=by simp
theorem Bh (n:Nat):(n + 3 < n) = False:=by simp
theorem Bg (n:Nat):(n + 4 < n) = False:=by simp
theorem Y3 (k:IntKind) (n:Int):rf (.int k n) = true:=rfl
theorem Xc (k j:IntKind) (a b:Int):rf (.tuple #[.int k a,.int j b]) = true:=rfl
theorem Yi (a b:Value):(#[a,b]:Array Value).toList = [a,b]:=rfl
theorem Row.elems {k:IntKind} {H:List Ob} {id off n c:Nat} {xs:List Nat} (h:Row k H id off xs) (hx:0 < xs.length):elemsOf H 1 xs.length (.slice (some ⟨id,off,none⟩) n c) = some (xs.map fun (x:Nat) => Value.int k x):=by
 obtain ⟨o,h1,h2⟩:=h
 have hl:off + xs.length ≤ o.cells.length:=by
  have:=h2 (xs.length - 1) _ (Qt (by omega))
  have:=(Qu.1 this).1
  omega
 simp only [elemsOf,h1,Ql,Zy,X6,hl,and_self,if_true,Qs]
 apply Wn
 intro i
 rw [Vi]
 by_cases hi:i < xs.length
 ·rw [if_pos hi,V4,h2 i _ (Qt hi),Bn,Qt hi]; rfl
 ·rw [if_neg hi,Kn (by simp; omega)]
theorem B8 (cs:List Value) (off:Nat) (v:List Value) (h:off + v.length ≤ cs.length):splice cs off v = cs.take off ++ (v ++ cs.drop (off + v.length)):=by
 unfold splice
 split
 ·rename_i x
  simp only [Zr,Zw,Zm] at h
  rw [List.set_eq_take_append_cons_drop,if_pos (by omega)]
  simp
 ·rfl
theorem Qf5 {H r:List Ob} {es bytes len cap n:Nat} {cs new:List Value} {x:Value} (hl:lenV x = some n) (hx:elemsOf (H ++ ⟨cs,true,true,true,es⟩ :: r) es n x = some new) (hn:0 < n) (hc:len + n ≤ cap) (hb:(len + n) * bytes ≤ 2 ^ 47) (hb0:0 < bytes) (he:0 < es) (hf:len * es + new.length ≤ cs.length) :
  Y4 es bytes (H ++ ⟨cs,true,true,true,es⟩ :: r) (.slice (some ⟨H.length,0,none⟩) len cap) x = some (.slice (some ⟨H.length,0,none⟩) (len + n) cap,H ++ ⟨splice cs (len * es) new,true,true,true,es⟩ :: r,none,[H.length]):=by
 have h1:¬ n = 0:=by omega
 have h2:0 + len * es ≤ cs.length:=by omega
 have h3:(len + n) * bytes ≤ 2 ^ 47 ∧ 0 < bytes ∧ 0 < es:=⟨hb,hb0,he⟩
 have hold:elemsOf (H ++ ⟨cs,true,true,true,es⟩ :: r) es len (.slice (some ⟨H.length,0,none⟩) len cap) = some ((cs.drop 0).take (len * es)):=by
  simp only [elemsOf,Wi,Ql,Zy,h2,and_self,if_true]
 simp only [Y4,hl,hx,Ql,if_neg h1,h3,and_self,not_true_eq_false,if_false,Wi,hold,if_true,hc,Vn,Zm,B0 hf]
end Go.Ev
set_option linter.unusedSimpArgs false
set_option linter.unusedVariables false
namespace Go.Ev
def num (B:Nat):List Nat → Nat
 | [] => 0
 | x :: r => x + B * num B r
def dig (B n v:Nat):List Nat:=(Wu n).map fun i => v / B ^ i % B
theorem Vj (B n v:Nat):(dig B n v).length = n:=by simp [dig]
theorem Dc {B n v i:Nat} (h:i < n):(dig B n v)[i]? = some (v / B ^ i % B):=by simp [dig,h]
theorem Gr {B n v x:Nat} (hB:0 < B) (h:x ∈ dig B n v):x < B:=by
 simp only [dig,Us] at h
 obtain ⟨i,_,rfl⟩:=h
 exact Js _ hB
theorem Qb9 {B n v:Nat} {l:List Nat} (hl:l.length = n) (h:∀ i,i < n → l[i]? = some (v / B ^ i % B)):l = dig B n v:=by
 apply Wn
 intro i
 by_cases hi:i < n
 ·rw [h i hi,Dc hi]
 ·rw [Kn (by omega),Kn (by rw [Vj]; omega)]
theorem num_lt {B:Nat}:∀ {l:List Nat},(∀ x ∈ l,x < B) → num B l < B ^ l.length
 | [],_ => by simp [num]
 | x :: r,h => by
  have h1:x < B:=h x (by simp)
  have h2:=num_lt (l:=r) fun y hy => h y (by simp [hy])
  simp only [num,Zr,Vt]
  have h3:B * (num B r + 1) ≤ B * B ^ r.length:=Df _ h2
  rw [Qci,X6] at h3
  rw [Vp (B ^ r.length) B]
  omega
theorem T7 (B:Nat):∀ (a b:List Nat),num B (a ++ b) = num B a + B ^ a.length * num B b
 | [],b => by simp [num]
 | x :: r,b => by
  simp only [num,Zb,T7 B r b,Zr,Vt,Qci]
  rw [← Yw,Vp B (B ^ r.length)]
  omega
theorem Bf {B:Nat} {l:List Nat} {j x:Nat} (h:l[j]? = some x):num B (l.take (j + 1)) = num B (l.take j) + x * B ^ j:=by
 have hj:j < l.length:=(Qu.1 h).1
 rw [Y9,h,T7]
 simp [num,Vz (Um hj),Vp]
theorem Dn {B:Nat} (hB:0 < B):∀ {l:List Nat} {i x:Nat},(∀ x ∈ l,x < B) → l[i]? = some x → num B l / B ^ i % B = x
 | [],i,x,_,h => by simp at h
 | y :: r,0,x,hl,h => by
  simp at h; subst h
  have:=hl y (by simp)
  simp only [num,W0,Ux,Nat.add_mul_mod_self_left]
  exact Z2 this
 | y :: r,i + 1,x,hl,h => by
  have:=hl y (by simp)
  simp only [num,Vt,Vp (B ^ i) B]
  rw [← Ym,Nat.add_mul_div_left _ _ hB,Ua this,Zm]
  exact Dn hB (fun z hz => hl z (by simp [hz])) (by simpa using h)
theorem Qad {B:Nat} (hB:0 < B) {l:List Nat} (h:∀ x ∈ l,x < B):dig B l.length (num B l) = l:=by
 symm
 exact Qb9 rfl fun i hi => by rw [Dn hB h (Qt hi)]; exact Qt hi
theorem Qyr (B n v:Nat):dig B (n + 1) v = v % B :: dig B n (v / B):=by
 simp only [dig,List.range_succ_eq_map,Wf,Ql8,W0,Ux]
 congr 1
 apply List.map_congr_left
 intro i _
 simp only [Function.comp,Nat.succ_eq_add_one,Vt,Ym,Vp (B ^ i) B]
theorem Uz {B:Nat} (hB:0 < B):∀ (n v:Nat),num B (dig B n v) = v % B ^ n
 | 0,v => by simp [dig,num,Q7u]
 | n + 1,v => by
  rw [Qyr,num,Uz hB n,Vt,Vp (B ^ n) B,Nat.mod_mul]
theorem Ro {B:Nat}:∀ {l:List Nat} {i x:Nat} (y:Nat),l[i]? = some x → num B (l.set i y) + x * B ^ i = num B l + y * B ^ i
 | [],i,x,y,h => by simp at h
 | z :: r,0,x,y,h => by
  simp at h; subst h
  simp only [Qjn,num,W0]
  omega
 | z :: r,i + 1,x,y,h => by
  have:=Ro (B:=B) (l:=r) (i:=i) y (by simpa using h)
  simp only [D1,num,Vt]
  have e:B * (num B (r.set i y) + x * B ^ i) = B * (num B r + y * B ^ i):=by rw [this]
  rw [Qci,Qci] at e
  rw [show x * (B ^ i * B) = B * (x * B ^ i) by simp only [Yw,Y8,Vp],show y * (B ^ i * B) = B * (y * B ^ i) by simp only [Yw,Y8,Vp]]
  omega
theorem Mi {B:Nat} {l:List Nat} {i y:Nat} (h:∀ x ∈ l,x < B) (hy:y < B):∀ x ∈ l.set i y,x < B:=by
 intro x hx
 rcases Qbo hx with h1 | h1
 ·exact h x h1
 ·rw [h1]; exact hy
theorem Qys {m j x N:Nat} (hj:j / 4 < m) (hN:N < 256 ^ j) (hx:x < 256) :
  (dig 4294967296 m N).set (j / 4) ((dig 4294967296 m N).getD (j / 4) 0 ||| x * 2 ^ (8 * (j % 4))) = dig 4294967296 m (N + x * 256 ^ j):=by
 have e256:(256:Nat) = 2 ^ 8:=rfl
 have eW:(4294967296:Nat) = 2 ^ 32:=rfl
 have hpow:(256:Nat) ^ j = 2 ^ (8 * (j % 4)) * 4294967296 ^ (j / 4):=by
  rw [e256,eW,← Ys,← Ys,← Wl]
  congr 1; omega
 have hWq:0 < 4294967296 ^ (j / 4):=Wx (by decide)
 have hdiv:N / 4294967296 ^ (j / 4) < 2 ^ (8 * (j % 4)):=by
  rw [Qft hWq,← hpow]; exact hN
 have h24:(2:Nat) ^ (8 * (j % 4)) ≤ 2 ^ 24:=Ve (by decide) (by omega)
 have hx24:(x + 1) * 2 ^ (8 * (j % 4)) ≤ 256 * 2 ^ 24:=Wm (by omega) h24
 rw [Vo,Uw] at hx24
 have hsum:N / 4294967296 ^ (j / 4) + x * 2 ^ (8 * (j % 4)) < 4294967296:=by show _ < 4294967296; omega
 apply Qb9 (by rw [Jt,Vj])
 intro i hi
 by_cases hq:i = j / 4
 ·subst hq
  rw [Jq (by rw [Vj]; exact hi),Jf,Dc hi]
  rw [hpow,← Yw,M8 _ _ hWq]
  simp only [W8]
  rw [Z2 (a:=N / _) (by omega),Z2 hsum,Br,Vp x,Hl hdiv,Nat.or_comm]
 ·rw [Z3 (Ne.symm hq),Dc hi]
  congr 1
  by_cases hlt:i < j / 4
  ·have:4294967296 ^ (j / 4) = 4294967296 * 4294967296 ^ (j / 4 - i - 1) * 4294967296 ^ i:=by
    rw [Yw,← Wl,← Qo3]; congr 1; omega
   rw [hpow,this]
   rw [show x * (2 ^ (8 * (j % 4)) * (4294967296 * 4294967296 ^ (j / 4 - i - 1) * 4294967296 ^ i)) = (x * 2 ^ (8 * (j % 4)) * 4294967296 ^ (j / 4 - i - 1) * 4294967296) * 4294967296 ^ i by simp only [Yw,Y8,Vp]]
   rw [M8 _ _ (Wx (by decide)),Hw]
  ·have hle:4294967296 ^ (j / 4 + 1) ≤ 4294967296 ^ i:=Ve (by decide) (by omega)
   have h1:N + x * 256 ^ j < 4294967296 ^ i:=by
    refine Xl ?_ hle
    have:(256:Nat) ^ (j + 1) ≤ 4294967296 ^ (j / 4 + 1):=by
     rw [e256,eW,← Ys,← Ys]; exact Ve (by decide) (by omega)
    refine Xl ?_ this
    rw [Vt]
    have:x * 256 ^ j ≤ 255 * 256 ^ j:=Uo _ (by omega)
    omega
   rw [Ua h1,Ua (by omega)]
def ns (k:IntKind) (l:List Nat):List Value:=l.map fun n => .int k (n:Nat)
theorem Kr (k:IntKind) (l:List Nat):(ns k l).length = l.length:=by simp [ns]
theorem T8 (k:IntKind) (l:List Nat) (i n:Nat):(ns k l).set i (.int k (n:Nat)) = ns k (l.set i n):=by simp [ns,Q32]
theorem Ut {k:IntKind} {l:List Nat} {i x:Nat} (h:l[i]? = some x):(ns k l)[i]? = some (.int k (x:Nat)):=by simp [ns,h]
theorem Qb2 (k:IntKind) (a b:List Nat):ns k (a ++ b) = ns k a ++ ns k b:=by simp [ns]
theorem Qkg {H:List Ob} {id:Nat} {o:Ob} (h:liveAt H id = some o):id < H.length:=by
 simp only [liveAt,Qb] at h
 obtain ⟨o',h1,_⟩:=h
 exact (Qu.1 h1).1
theorem Qdu {H H':List Ob} {id:Nat} (h:H'[id]? = H[id]?):liveAt H' id = liveAt H id:=by simp only [liveAt,h]
inductive Sl (k:IntKind) (H:List Ob):Value → List Nat → Prop
 | nil:Sl k H (.slice none 0 0) []
 | mk {id off c:Nat} {o:Ob} {l:List Nat}:liveAt H id = some o → off + l.length ≤ o.cells.length → (∀ (i x:Nat),l[i]? = some x → o.cells[off + i]? = some (.int k (x:Nat))) → Sl k H (.slice (some ⟨id,off,none⟩) l.length c) l
theorem Sl.congr {k:IntKind} {H H':List Ob} {v:Value} {l:List Nat} (h:Sl k H v l) (hH:∀ id,id < H.length → H'[id]? = H[id]?):Sl k H' v l:=by
 cases h with
 | nil => exact .nil
 | mk h1 h2 h3 => exact .mk (by rw [Qdu (hH _ (Qkg h1))]; exact h1) h2 h3
theorem Sl.app {k:IntKind} {H l':List Ob} {v:Value} {l:List Nat} (h:Sl k H v l):Sl k (H ++ l') v l :=
 h.congr fun id hid => Qc hid
theorem Sl.lenV {k:IntKind} {H:List Ob} {v:Value} {l:List Nat} (h:Sl k H v l):lenV v = some l.length:=by
 cases h <;> rfl
theorem Sl.elems {k:IntKind} {H:List Ob} {v:Value} {l:List Nat} (h:Sl k H v l):elemsOf H 1 l.length v = some (ns k l):=by
 cases h with
 | nil => rfl
 | mk h1 h2 h3 =>
  simp only [elemsOf,h1,Ql,Zy,X6,h2,and_self,if_true,Qs]
  apply Wn
  intro i
  rw [Vi]
  by_cases hi:i < l.length
  ·rw [if_pos hi,V4,h3 i _ (Qt hi),Ut (Qt hi)]
  ·rw [if_neg hi,Kn (by rw [Kr]; omega)]
inductive Grown (k:IntKind) (B:Nat) (H:List Ob):Value → List Nat → Prop
 | nil:Grown k B H (.slice none 0 0) []
 | own {id:Nat} {bs:List Nat}:B ≤ id → 0 < bs.length → H[id]? = some (Ob.grown 1 (ns k bs)) → Grown k B H (.slice (some ⟨id,0,none⟩) bs.length bs.length) bs
 | new {id:Nat} {bs:List Nat}:B ≤ id → 0 < bs.length → H[id]? = some (Ob.fresh (ns k bs)) → Grown k B H (.slice (some ⟨id,0,none⟩) bs.length bs.length) bs
theorem Grown.sl {k:IntKind} {B:Nat} {H:List Ob} {v:Value} {l:List Nat} (h:Grown k B H v l):Sl k H v l:=by
 cases h with
 | nil => exact .nil
 | own h1 h2 h3 => exact .mk (Vr h3 rfl) (by simp [Ob.grown,Kr]) (fun i x hx => by rw [Zm]; exact Ut hx)
 | new h1 h2 h3 => exact .mk (Vr h3 rfl) (by simp [Ob.fresh,Kr]) (fun i x hx => by rw [Zm]; exact Ut hx)
theorem Grown.app {k:IntKind} {B:Nat} {H l':List Ob} {v:Value} {l:List Nat} (h:Grown k B H v l):Grown k B (H ++ l') v l:=by
 cases h with
 | nil => exact .nil
 | own h1 h2 h3 => exact .own h1 h2 (by rw [Qc (Qu.1 h3).1]; exact h3)
 | new h1 h2 h3 => exact .new h1 h2 (by rw [Qc (Qu.1 h3).1]; exact h3)
theorem Grown.append {k:IntKind} {B bytes:Nat} {H:List Ob} {s x:Value} {bs new:List Nat} (h:Grown k B H s bs) (hB:B ≤ H.length) (hl:Go.Ev.lenV x = some new.length) (he:elemsOf H 1 new.length x = some (ns k new)) (hb:(bs.length + new.length) * bytes ≤ 2 ^ 47) (hb0:0 < bytes) :
  ∃ s' H' M,Y4 1 bytes H s x = some (s',H',none,M) ∧ Grown k B H' s' (bs ++ new) ∧ (∀ i ∈ M,B ≤ i) ∧ H.length ≤ H'.length ∧ ∀ i,i < B → H'[i]? = H[i]? := by
 rcases W5 new.length with hn | hn
 ·have:new = []:=Y0 hn
  subst this
  rw [Xj]
  refine ⟨s,H,[],?_,h,by simp,Zf _,fun _ _ => rfl⟩
  rw [Zw] at hl he
  cases h <;> simp only [Y4,hl,he,Ql,if_true]
 ·cases h with
  | nil =>
   refine ⟨.slice (some ⟨H.length,0,none⟩) new.length new.length,H ++ [Ob.grown 1 (ns k new)],[],?_,?_,by simp,by simp,?_⟩
   ·have h1:¬ new.length = 0:=by omega
    have h2:(0 + new.length) * bytes ≤ 2 ^ 47 ∧ 0 < bytes ∧ 0 < 1:=⟨by simpa using hb,hb0,by decide⟩
    simp only [Y4,hl,he,Ql,if_neg h1,h2,and_self,not_true_eq_false,if_false,if_true]
   ·rw [Q6]
    exact .own hB hn (by simp)
   ·intro i hi
    rw [Qc (by omega)]
  | @own id0 _ h1 h2 h3 =>
   refine ⟨.slice (some ⟨H.length,0,none⟩) (bs.length + new.length) (bs.length + new.length),(H.set id0 Ob.dead) ++ [Ob.grown 1 (ns k (bs ++ new))],[id0],?_,?_,by simpa using h1,by simp,?_⟩
   ·have h4:liveAt H id0 = some (Ob.grown 1 (ns k bs)):=Vr h3 rfl
    have h5:¬ new.length = 0:=by omega
    have h6:(bs.length + new.length) * bytes ≤ 2 ^ 47 ∧ 0 < bytes ∧ 0 < 1:=⟨hb,hb0,by decide⟩
    have h7:¬ (bs.length + new.length ≤ bs.length):=by omega
    have h8:elemsOf H 1 bs.length (.slice (some ⟨id0,0,none⟩) bs.length bs.length) = some (ns k bs):=(Grown.own h1 h2 h3).sl.elems
    simp only [Y4,hl,he,Ql,if_neg h5,h6,and_self,not_true_eq_false,if_false,if_true,h4,h8]
    simp only [Ob.grown,not_true_eq_false,if_false,if_neg h7,Zp,Zf,if_true,← Qb2]
   ·have:=Grown.own (k:=k) (B:=B) (H:=(H.set id0 Ob.dead) ++ [Ob.grown 1 (ns k (bs ++ new))]) (id:=H.length) (bs:=bs ++ new) hB (by simp; omega) (by simp)
    rwa [Zc] at this
   ·intro i hi
    rw [Qc (by simp; have:=(Qu.1 h3).1; omega),Z3 (by omega)]
  | @new id0 _ h1 h2 h3 =>
   refine ⟨.slice (some ⟨H.length,0,none⟩) (bs.length + new.length) (bs.length + new.length),H ++ [Ob.grown 1 (ns k (bs ++ new))],[],?_,?_,by simp,by simp,?_⟩
   ·have h4:liveAt H id0 = some (Ob.fresh (ns k bs)):=Vr h3 rfl
    have h5:¬ new.length = 0:=by omega
    have h6:(bs.length + new.length) * bytes ≤ 2 ^ 47 ∧ 0 < bytes ∧ 0 < 1:=⟨hb,hb0,by decide⟩
    have h7:¬ (bs.length + new.length ≤ bs.length):=by omega
    have h8:elemsOf H 1 bs.length (.slice (some ⟨id0,0,none⟩) bs.length bs.length) = some (ns k bs):=(Grown.new h1 h2 h3).sl.elems
    simp only [Y4,hl,he,Ql,if_neg h5,h6,and_self,not_true_eq_false,if_false,if_true,h4,h8]
    simp only [Ob.fresh,not_true_eq_false,if_false,if_neg h7,Zp,Zf,if_true,← Qb2]
   ·have:=Grown.own (k:=k) (B:=B) (H:=H ++ [Ob.grown 1 (ns k (bs ++ new))]) (id:=H.length) (bs:=bs ++ new) hB (by simp; omega) (by simp)
    rwa [Zc] at this
   ·intro i hi
    rw [Qc (by omega)]
theorem By {H H':List Ob} (h1:H.length ≤ H'.length) (h2:∀ i,i < H.length → H'[i]? = H[i]?):∃ l,H' = H ++ l:=by
 refine ⟨H'.drop H.length,?_⟩
 apply Wn
 intro i
 by_cases hi:i < H.length
 ·rw [Qc hi,h2 i hi]
 ·rw [Q3 (by omega),V4]
  congr 1; omega
theorem K9 {base:Nat}:∀ {log M:List Nat},(∀ i ∈ M,base ≤ i) → Jj base log M = log
 | log,[],_ => rfl
 | log,i :: r,h => by
  have h1:¬ i < base:=by have:=h i (by simp); omega
  simp only [Jj,h1,false_and,if_false]
  exact K9 fun j hj => h j (by simp [hj])
end Go.Ev
set_option linter.unusedSimpArgs false
set_option linter.unusedVariables false
namespace Go.Ev
def gate {α:Type} (p:Prop) [Decidable p] (x:Option α):Option α:=if p then x else none
theorem W4 {α:Type} {p p':Prop} [Decidable p] [Decidable p'] (x:Option α) (h:∀ _:Unit,p = p'):gate p x = gate p' x:=by
 have h:=h (); subst h; unfold gate; congr
theorem Wq {α β:Type} {x y:Option α} (f:α → Option β) (h:∀ _:Unit,x = y):x.bind f = y.bind f:=by rw [h ()]
theorem W3 {α:Type} {c c':Prop} [Decidable c] [Decidable c'] (x y:α) (h:∀ _:Unit,c = c'):(if c then x else y) = (if c' then x else y):=by
 have h:=h (); subst h; congr
theorem Qdx {α:Type} (b:Bool) (x:Option α):(if b = true then none else x) = gate (b = false) x:=by cases b <;> rfl
theorem Qkm {α:Type} [Decidable True] {x:Option α}:gate True x = x:=by simp [gate]
def D6 {α:Type} (v:Value) (w:Bool) (x y:Option α):Option α:=match v with
 | .bool c => if c = w then x else y
 | _ => none
def gd (w:Bool) (v:Value):Value:=match v with
 | .tuple _ => .bool (!w)
 | v => v
theorem Q1p {w b:Bool}:gd w (.bool b) = .bool b:=Eq.trans rfl rfl
theorem gd_ut:gd true undef = .bool false:=Eq.trans rfl rfl
theorem gd_uf:gd false undef = .bool true:=Eq.trans rfl rfl
theorem Wg {α:Type} {v v':Value} (w:Bool) (x y:Option α) (h:∀ _:Unit,v = v'):D6 v w x y = D6 v' w x y:=by rw [h ()]
theorem Xr {α:Type} {x y:Option α}:D6 (.bool true) true x y = x:=rfl
theorem Xu {α:Type} {x y:Option α}:D6 (.bool false) false x y = x:=rfl
theorem Xs {α:Type} {x y:Option α}:D6 (.bool true) false x y = y:=rfl
theorem Xt {α:Type} {x y:Option α}:D6 (.bool false) true x y = y:=rfl
def Qxw (t:Nat) (v:Option Value) (l:Env):Env:=match v with
 | some v => (t,v) :: l
 | none => l
theorem J7 {t:Nat} {v:Value} {l:Env}:Qxw t (some v) l = (t,v) :: l:=rfl
theorem Qxv {e:Env}:Env.keep e [] = []:=rfl
theorem Qtu {e:Env} {t:Nat} {r:List Nat}:Env.keep e (t :: r) = Qxw t (e.get t) (Env.keep e r):=rfl
theorem Q1x {T:Tab} {base:Nat} {c:Operand} {a b:ACode} {s:St}:J9 T base (.cond c a b) s = (opd s.env c).bind fun v => D6 v true (J9 T base a s) (J9 T base b s):=by
 rw [Kl]
 cases opd s.env c with
 | none => rfl
 | some v =>
  cases v <;> try rfl
  rename_i c
  cases c <;> rfl
def steps (T:Tab) (b:Nat) (q:Bool):List AOper → St → Option St
 | [],s => some s
 | o :: r,s => match guardOf s.env o.guard with
  | some true => (Yq T o.op s.env s.h).bind fun x => if (q && !x.2.2.2.isEmpty) = true then none else steps T b q r ⟨s.env.put o.dst x.1,x.2.1,Jj b s.log x.2.2.2⟩
  | some false => steps T b q r ⟨s.env.put o.dst undef,s.h,s.log⟩
  | none => none
section
variable {T:Tab} {b:Nat} {q:Bool}
theorem Qbh:∀ (ops:List AOper) (s:St) (recs:List Rec),(evOps T b ops s recs).map (·.1) = steps T b false ops s
 | [],s,recs => by rw [K7]; rfl
 | o :: r,s,recs => by
  rw [Kd]
  unfold steps
  cases hg:guardOf s.env o.guard with
  | none => rfl
  | some g =>
   cases g with
   | false => exact Qbh r _ _
   | true =>
    cases hx:Yq T o.op s.env s.h with
    | none => simp [hx]
    | some x =>
     simp only [hx,Ql,Qgj,Zp,if_false]
     exact Qbh r _ _
theorem Rs:∀ (ops:List AOper) (s:St) (recs:List Rec) (s':St),steps T b true ops s = some s' → (∀ r ∈ recs,r.2 = []) → ∃ recs',evOps T b ops s recs = some (s',recs') ∧ (∀ r ∈ recs',r.2 = []) ∧ recs'.length = recs.length + ops.length
 | [],s,recs,s',h,hr => by
  simp only [steps,Qs] at h
  subst h
  exact ⟨recs,K7,hr,rfl⟩
 | o :: r,s,recs,s',h,hr => by
  rw [Kd]
  unfold steps at h
  cases hg:guardOf s.env o.guard with
  | none => simp only [hg] at h; cases h
  | some g =>
   simp only [hg] at h
   cases g with
   | false =>
    obtain ⟨recs',h1,h2,h3⟩:=Rs r _ (recs ++ [(some [],[])]) s' h (fun x hx => by
     rcases Xg.1 hx with h | h
     ·exact hr x h
     ·simp at h; subst h; rfl)
    exact ⟨recs',h1,h2,by rw [h3]; simp; omega⟩
   | true =>
    cases hx:Yq T o.op s.env s.h with
    | none => simp [hx] at h
    | some x =>
     simp only [hx,Ql] at h
     split at h
     ·cases h
     ·rename_i hq
      have hq':x.2.2.2 = []:=by simpa using hq
      obtain ⟨recs',h1,h2,h3⟩:=Rs r _ (recs ++ [(x.2.2.1,x.2.2.2)]) s' h (fun y hy => by
       rcases Xg.1 hy with h | h
       ·exact hr y h
       ·simp at h; subst h; exact hq')
      exact ⟨recs',h1,h2,by rw [h3]; simp; omega⟩
theorem Qty {ops:List AOper} {keep:Option (List Nat)} {s:St}:J9 T b (.region ops keep []) s = (steps T b false ops s).bind fun s' => some (.normal,s'.after keep):=by
 rw [Jy,← Qbh ops s []]
 cases evOps T b ops s [] <;> rfl
def Qdp {α:Type} (x y:Option α):Option α:=match x with
 | some v => some v
 | none => y
theorem J6 {α:Type} {v:α} {y:Option α}:Qdp (some v) y = some v:=rfl
theorem Wp {α:Type} {x x':Option α} (y:Option α) (h:∀ _:Unit,x = x'):Qdp x y = Qdp x' y:=by rw [h ()]
def quiet (T:Tab) (b:Nat) (ops:List AOper) (pairs:List (Nat × Nat)) (s:St):Option St :=
 match (pairs.all fun p => decide (p.1 < ops.length) && decide (p.2 < ops.length)) with
 | true => steps T b true ops s
 | false => none
theorem R2 {recs:List Rec} (hr:∀ r ∈ recs,r.2 = []):∀ {pairs:List (Nat × Nat)},(pairs.all fun p => decide (p.1 < recs.length) && decide (p.2 < recs.length)) = true → Vv recs pairs = true
 | [],_ => rfl
 | (i,j) :: ps,h => by
  simp only [J5,Yf,decide_eq_true_eq] at h
  have ih:=R2 hr (pairs:=ps) h.2
  simp only [Vv,J5,Yf] at ih ⊢
  refine ⟨?_,ih⟩
  rw [Qt h.1.1,Qt h.1.2]
  simp only [Qah,hr _ (Qdf h.1.1),hr _ (Qdf h.1.2),List.isEmpty_nil,Bool.true_or,Xi]
def Qbd (T:Tab) (b:Nat) (c:ACode) (s:St):Option (AExit × St):=J9 T b c s
theorem V1 {ops:List AOper} {keep:Option (List Nat)} {p:Nat × Nat} {ps:List (Nat × Nat)} {s:St}:J9 T b (.region ops keep (p :: ps)) s = Qdp ((quiet T b ops (p :: ps) s).bind fun s' => some (.normal,s'.after keep)) (Qbd T b (.region ops keep (p :: ps)) s):=by
 cases hq:quiet T b ops (p :: ps) s with
 | none => rfl
 | some s' =>
  simp only [Ql,Qdp]
  unfold quiet at hq
  split at hq
  ·rename_i hp
   obtain ⟨recs,h1,h2,h3⟩:=Rs ops s [] s' hq (by simp)
   simp only [Zw,Zm] at h3
   rw [Jy,h1]
   simp only [Ql]
   rw [if_pos (R2 h2 (by rw [h3]; exact hp))]
  ·cases hq
theorem Q67 {s:St}:steps T b q [] s = some s:=rfl
theorem Qx8 {o:AOp} {d:Option Nat} {t:Nat} {w:Bool} {r:List AOper} {e:Env} {H:List Ob} {l:List Nat}:steps T b q (⟨d,o,some (t,w)⟩ :: r) ⟨e,H,l⟩ = (e.get t).bind fun v => D6 (gd w v) w (steps T b q (⟨d,o,none⟩ :: r) ⟨e,H,l⟩) (steps T b q r ⟨e.put d undef,H,l⟩):=by
 simp only [steps,guardOf]
 cases e.get t with
 | none => rfl
 | some v =>
  cases v <;> try rfl
  all_goals first | (cases w <;> rfl) | (rename_i c; cases c <;> cases w <;> rfl)
theorem Uf {o:AOp} {d:Nat} {r:List AOper} {e:Env} {H:List Ob} {l:List Nat} {v:Option Value} (h:Yq T o e H = Yh H v):steps T b q (⟨some d,o,none⟩ :: r) ⟨e,H,l⟩ = v.bind fun v => steps T b q r ⟨(d,v) :: e,H,l⟩:=by
 simp only [steps,guardOf,h,Yh]
 cases v <;> cases q <;> rfl
theorem Qt2 {base id:Nat} {x y:ACode} {s:St}:J9 T base (.block id (.seq x y)) s = (J9 T base (.seq x y) s).bind fun r => match r.1 with
  | .exit i => if i = id then some (.normal,r.2) else some (.exit i,r.2)
  | z => some (z,r.2):=Ju
theorem Qt3 {base id:Nat} {ops:List AOper} {keep:Option (List Nat)} {pairs:List (Nat × Nat)} {s:St}:J9 T base (.block id (.region ops keep pairs)) s = (J9 T base (.region ops keep pairs) s).bind fun r => match r.1 with
  | .exit i => if i = id then some (.normal,r.2) else some (.exit i,r.2)
  | z => some (z,r.2):=Ju
theorem Qt5 {base id:Nat} {c:Operand} {x y:ACode} {s:St}:J9 T base (.block id (.cond c x y)) s = (J9 T base (.cond c x y) s).bind fun r => match r.1 with
  | .exit i => if i = id then some (.normal,r.2) else some (.exit i,r.2)
  | z => some (z,r.2):=Ju
theorem Qt4 {base id:Nat} {s:St}:J9 T base (.block id .skip) s = some (.normal,s):=by rw [Ju,Kc]; rfl
theorem Qt6 {base id id2:Nat} {x:ACode} {s:St}:J9 T base (.block id (.block id2 x)) s = (J9 T base (.block id2 x) s).bind fun r => match r.1 with
  | .exit i => if i = id then some (.normal,r.2) else some (.exit i,r.2)
  | z => some (z,r.2):=Ju
def Qvc:Value → Value → Value → Option Value
 | .bool t,a,b => some (if t then a else b)
 | _,_,_ => none
def vEq (ks:Option (List Bool)) (neg:Bool) (x y:Value):Option Value :=
 (match ks,x,y with
  | some ks,.agg a,.agg b => Wc ks a.toList b.toList
  | none,.bool a,.bool b => some (a == b)
  | _,_,_ => none).bind fun b => some (.bool (if neg then !b else b))
def Q37 (k:IntKind):Value → Option Value
 | .int _ n => some (.int k (k.wrap n))
 | _ => none
def vStr:Value → Option Value
 | .string s => some (.string s)
 | _ => none
def Qvf (n:Option Nat) (off:Nat):Value → Option Value
 | .agg cs => Yl n cs.toList off
 | _ => none
def Qk3 (n:Option Nat) (len es:Nat):Value → Value → Option Value
 | .agg cs,.int _ i => if 0 ≤ i ∧ i < len then Yl n cs.toList (i.toNat * es) else none
 | _,_ => none
def Qju:Value → Value → Option Value
 | .string s,.int _ i => if 0 ≤ i then (s.data.toList[i.toNat]?).bind fun b => some (.int .u8 b.toNat) else none
 | _,_ => none
def Qg5 (off:Nat):Value → Option Value
 | .pointer (some a) => some (.pointer (some (a.add off)))
 | _ => none
def Qg4 (len es:Nat):Value → Value → Option Value
 | .pointer (some a),.int _ i => if 0 ≤ i ∧ i < len then some (.pointer (some (a.add (i.toNat * es)))) else none
 | _,_ => none
def Qmi (es:Nat):Value → Value → Option Value
 | .slice (some a) len _,.int _ i => if 0 ≤ i ∧ i < len then some (.pointer (some (a.add (i.toNat * es)))) else none
 | _,_ => none
def Qet (n es:Nat) (lo hi mx:Option Value):Value → Option Value
 | .pointer (some a) => (Y5 n n lo hi mx).bind fun r => some (.slice (some (a.add (r.1 * es))) (r.2.1 - r.1) (r.2.2 - r.1))
 | _ => none
def vSliceSl (H:List Ob) (es:Nat) (lo hi mx:Option Value):Value → Option Value
 | .slice (some a) len cap => (Y5 len cap lo hi mx).bind fun r => (liveAt H a.block).bind fun o =>
    if o.exact ∨ ¬ o.own ∨ es ≤ o.es then some (.slice (some (a.add (r.1 * es))) (r.2.1 - r.1) (r.2.2 - r.1)) else none
 | .slice none 0 0 => (Y5 0 0 lo hi mx).bind fun _ => some (.slice none 0 0)
 | _ => none
def Qjs (lo hi:Option Value):Value → Option Value
 | .string s => (Y5 s.size s.size lo hi none).bind fun r => some (.string (s.extract r.1 r.2.1))
 | _ => none
def Qmj (i:Nat):Value → Option Value
 | .tuple vs => vs.toList[i]?
 | _ => none
def Qjt:Value → Option Value
 | .pointer (some a) => some (.pointer (some a))
 | _ => none
def Q36 (n:Nat):Value → Option Value
 | .slice (some a) len _ => if n ≤ len ∧ 0 < n then some (.pointer (some a)) else none
 | _ => none
def vLen (str:Bool):Value → Option Value
 | .slice _ n _ => if str then none else some (.int .i64 n)
 | .string s => if str then some (.int .i64 s.size) else none
 | _ => none
def Qdh (mx:Bool):Value → Value → Option Value
 | .int k a,.int k' b => if k = k' then some (.int k (if mx then (if b > a then b else a) else (if b < a then b else a))) else none
 | _,_ => none
def Qmg (H:List Ob) (n:Option Nat):Value → Option Value
 | .pointer (some a) => (liveAt H a.block).bind fun o => if a.spot.isNone then Yl n o.cells a.off else none
 | _ => none
def Q4u (H:List Ob) (x:Value):Option Value:=match x with
 | .slice _ n _ => (elemsOf H 1 n x).bind fun cs => (Bq cs).bind fun l => some (.string ⟨l.toArray⟩)
 | _ => none
theorem Q1s {x:Operand} {d:Nat} {r:List AOper} {e:Env} {H:List Ob} {l:List Nat}:steps T b q (⟨some d,.move x,none⟩ :: r) ⟨e,H,l⟩ = (opd e x).bind fun v => steps T b q r ⟨(d,v) :: e,H,l⟩:=Uf Kg
theorem Q1r {c x y:Operand} {d:Nat} {r:List AOper} {e:Env} {H:List Ob} {l:List Nat}:steps T b q (⟨some d,.pick c x y,none⟩ :: r) ⟨e,H,l⟩ = (opd e c).bind fun c => (opd e x).bind fun x => (opd e y).bind fun y => (Qvc c x y).bind fun v => steps T b q r ⟨(d,v) :: e,H,l⟩:=by
 rw [Uf Kf]
 cases opd e c with
 | none => rfl
 | some c =>
  cases opd e x with
  | none => rfl
  | some x =>
   cases opd e y with
   | none => rfl
   | some y => cases c <;> cases q <;> rfl
theorem Qyd {zero:List Value} {d:Nat} {r:List AOper} {e:Env} {H:List Ob} {l:List Nat}:steps T b q (⟨some d,.alloc zero,none⟩ :: r) ⟨e,H,l⟩ = steps T b q r ⟨(d,.pointer (some ⟨H.length,0,none⟩)) :: e,H ++ [⟨zero,true,true,true,1⟩],l⟩:=by
 simp only [steps,guardOf,Xx,Zn,Ql,Env.put,Jj,Ob.fresh]
 cases q <;> rfl
theorem Q7a {x:Operand} {d:Nat} {r:List AOper} {e:Env} {H:List Ob} {l:List Nat}:steps T b q (⟨some d,.box x,none⟩ :: r) ⟨e,H,l⟩ = (opd e x).bind fun v => gate (Vy v = true) (steps T b q r ⟨(d,.pointer (some ⟨H.length,0,none⟩)) :: e,H ++ [⟨v.cells.toList,true,true,true,1⟩],l⟩):=by
 simp only [steps,guardOf,Kv,Zn,Env.put,Jj,Ob.fresh]
 cases opd e x with
 | none => rfl
 | some v => simp only [Ql,gate]; split <;> cases q <;> rfl
theorem Q1u {n:Option Nat} {x:Operand} {d:Nat} {r:List AOper} {e:Env} {H:List Ob} {l:List Nat}:steps T b q (⟨some d,.load n x,none⟩ :: r) ⟨e,H,l⟩ = (opd e x).bind fun a => (Qmg H n a).bind fun v => steps T b q r ⟨(d,v) :: e,H,l⟩:=by
 simp only [steps,guardOf,X8,Zn,Env.put]
 cases opd e x with
 | none => rfl
 | some v =>
  cases v <;> try rfl
  rename_i p
  cases p with
  | none => rfl
  | some a =>
   simp only [Ql,Qmg]
   cases liveAt H a.block with
   | none => rfl
   | some o =>
    simp only [Ql]
    split
    ·cases Yl n o.cells a.off <;> cases q <;> rfl
    ·rfl
def Qo6 (H:List Ob) (n:Nat):Value → Value → Option (List Ob)
 | .pointer (some a),v => if v.cells.size = n ∧ Vy v = true then storeAt H a v.cells.toList else none
 | _,_ => none
def Qy7:Value → List Nat
 | .pointer (some a) => [a.block]
 | _ => []
theorem Qx5 {n:Nat} {a x:Operand} {r:List AOper} {e:Env} {H:List Ob} {l:List Nat}:steps T b q (⟨none,.store n a x,none⟩ :: r) ⟨e,H,l⟩ = (opd e a).bind fun a => (opd e x).bind fun v => (Qo6 H n a v).bind fun H' => gate (q = false) (steps T b q r ⟨e,H',Jj b l (Qy7 a)⟩):=by
 simp only [steps,guardOf,Xk,Zn,Env.put]
 cases opd e a with
 | none => rfl
 | some av =>
  cases opd e x with
  | none => rfl
  | some v =>
   cases av <;> try rfl
   rename_i p
   cases p with
   | none => rfl
   | some a =>
    simp only [Ql,Qo6,Qy7]
    split
    ·cases storeAt H a v.cells.toList <;> cases q <;> rfl
    ·rfl
theorem Q7b {op:BinOp} {x y:Operand} {d:Nat} {r:List AOper} {e:Env} {H:List Ob} {l:List Nat}:steps T b q (⟨some d,.bin op x y,none⟩ :: r) ⟨e,H,l⟩ = (opd e x).bind fun x => (opd e y).bind fun y => (Wa op x y).bind fun v => steps T b q r ⟨(d,v) :: e,H,l⟩:=by
 rw [Uf Kw]
 cases opd e x <;> cases opd e y <;> cases q <;> rfl
theorem Q69 {ks:Option (List Bool)} {neg:Bool} {x y:Operand} {d:Nat} {r:List AOper} {e:Env} {H:List Ob} {l:List Nat}:steps T b q (⟨some d,.eqv ks neg x y,none⟩ :: r) ⟨e,H,l⟩ = (opd e x).bind fun x => (opd e y).bind fun y => (vEq ks neg x y).bind fun v => steps T b q r ⟨(d,v) :: e,H,l⟩:=by
 rw [Uf Ku]
 cases opd e x <;> cases opd e y <;> cases q <;> rfl
theorem Qx6 {k:Nat} {neg:Bool} {x:Operand} {d:Nat} {r:List AOper} {e:Env} {H:List Ob} {l:List Nat}:steps T b q (⟨some d,.isNil k neg x,none⟩ :: r) ⟨e,H,l⟩ = (opd e x).bind fun x => (D5 k x).bind fun c => steps T b q r ⟨(d,.bool (if neg then !c else c)) :: e,H,l⟩:=by
 rw [Uf Xz]
 cases opd e x with
 | none => rfl
 | some v => simp only [Ql]; cases D5 k v <;> cases q <;> rfl
theorem fs_un {op:UnOp} {x:Operand} {d:Nat} {r:List AOper} {e:Env} {H:List Ob} {l:List Nat}:steps T b q (⟨some d,.un op x,none⟩ :: r) ⟨e,H,l⟩ = (opd e x).bind fun x => (unV op x).bind fun v => steps T b q r ⟨(d,v) :: e,H,l⟩:=by
 rw [Uf Vg]
 cases opd e x <;> cases q <;> rfl
theorem Q1w {k:IntKind} {x:Operand} {d:Nat} {r:List AOper} {e:Env} {H:List Ob} {l:List Nat}:steps T b q (⟨some d,.conv k x,none⟩ :: r) ⟨e,H,l⟩ = (opd e x).bind fun x => (Q37 k x).bind fun v => steps T b q r ⟨(d,v) :: e,H,l⟩:=by
 rw [Uf Ki]
 cases opd e x <;> cases q <;> rfl
def Qgk (H:List Ob):Value → Option Value
 | .slice (some a) n c => (liveAt H a.block).bind fun o => if o.own = true ∧ a.spot.isNone = true then some (.slice (some a) n c) else none
 | _ => none
theorem Qt1 {x:Operand} {d:Nat} {r:List AOper} {e:Env} {H:List Ob} {l:List Nat}:steps T b q (⟨some d,.convSl x,none⟩ :: r) ⟨e,H,l⟩ = (opd e x).bind fun x => (Qgk H x).bind fun v => steps T b q r ⟨(d,v) :: e,H,l⟩:=by
 simp only [steps,guardOf,Qji,Zn,Env.put]
 cases opd e x with
 | none => rfl
 | some v =>
  simp only [Ql]
  cases v with
  | slice a n c =>
   cases a with
   | none => rfl
   | some a =>
    simp only [Qgk]
    cases liveAt H a.block with
    | none => rfl
    | some o =>
     simp only [Ql]
     split <;> cases q <;> rfl
  | _ => rfl
theorem Qqf {x:Operand} {d:Nat} {r:List AOper} {e:Env} {H:List Ob} {l:List Nat}:steps T b q (⟨some d,.convStr x,none⟩ :: r) ⟨e,H,l⟩ = (opd e x).bind fun x => (vStr x).bind fun v => steps T b q r ⟨(d,v) :: e,H,l⟩:=by
 rw [Uf J3]
 cases opd e x <;> cases q <;> rfl
theorem Qx9 {n:Option Nat} {off:Nat} {x:Operand} {d:Nat} {r:List AOper} {e:Env} {H:List Ob} {l:List Nat}:steps T b q (⟨some d,.field n off x,none⟩ :: r) ⟨e,H,l⟩ = (opd e x).bind fun x => (Qvf n off x).bind fun v => steps T b q r ⟨(d,v) :: e,H,l⟩:=by
 rw [Uf X5]
 cases opd e x <;> cases q <;> rfl
theorem Qx7 {n:Option Nat} {len es:Nat} {x i:Operand} {d:Nat} {r:List AOper} {e:Env} {H:List Ob} {l:List Nat}:steps T b q (⟨some d,.index n len es x i,none⟩ :: r) ⟨e,H,l⟩ = (opd e x).bind fun x => (opd e i).bind fun i => (Qk3 n len es x i).bind fun v => steps T b q r ⟨(d,v) :: e,H,l⟩:=by
 rw [Uf X0]
 cases opd e x <;> cases opd e i <;> cases q <;> rfl
theorem Qn9 {x i:Operand} {d:Nat} {r:List AOper} {e:Env} {H:List Ob} {l:List Nat}:steps T b q (⟨some d,.indexStr x i,none⟩ :: r) ⟨e,H,l⟩ = (opd e x).bind fun x => (opd e i).bind fun i => (Qju x i).bind fun v => steps T b q r ⟨(d,v) :: e,H,l⟩:=by
 rw [Uf Jp]
 cases opd e x <;> cases opd e i <;> cases q <;> rfl
theorem Qyc {zero:List Value} {ps:List (Nat × Nat × Operand)} {d:Nat} {r:List AOper} {e:Env} {H:List Ob} {l:List Nat}:steps T b q (⟨some d,.build zero ps,none⟩ :: r) ⟨e,H,l⟩ = (Va e ps).bind fun ps => (fillL zero ps).bind fun cs => steps T b q r ⟨(d,.agg cs.toArray) :: e,H,l⟩:=by
 rw [Uf Xw]
 cases Va e ps with
 | none => rfl
 | some v => simp only [Ql]; cases fillL zero v <;> cases q <;> rfl
theorem Qjh {cells:List Value} {len:Nat} {ps:List (Nat × Nat × Operand)} {d:Nat} {r:List AOper} {e:Env} {H:List Ob} {l:List Nat}:steps T b q (⟨some d,.buildSlice cells len ps,none⟩ :: r) ⟨e,H,l⟩ = (Va e ps).bind fun ps => (fillL cells ps).bind fun cs => steps T b q r ⟨(d,.slice (some ⟨H.length,0,none⟩) len len) :: e,H ++ [⟨cs,true,true,true,1⟩],l⟩:=by
 simp only [steps,guardOf,Z5,Zn,Env.put,Ob.fresh]
 cases Va e ps with
 | none => rfl
 | some v => simp only [Ql]; cases fillL cells v <;> cases q <;> rfl
theorem Qly {off:Nat} {x:Operand} {d:Nat} {r:List AOper} {e:Env} {H:List Ob} {l:List Nat}:steps T b q (⟨some d,.fieldAddr off x,none⟩ :: r) ⟨e,H,l⟩ = (opd e x).bind fun x => (Qg5 off x).bind fun v => steps T b q r ⟨(d,v) :: e,H,l⟩:=by
 rw [Uf Je]
 cases opd e x <;> cases q <;> rfl
theorem Qlx {len es:Nat} {x i:Operand} {d:Nat} {r:List AOper} {e:Env} {H:List Ob} {l:List Nat}:steps T b q (⟨some d,.indexAddr len es x i,none⟩ :: r) ⟨e,H,l⟩ = (opd e x).bind fun x => (opd e i).bind fun i => (Qg4 len es x i).bind fun v => steps T b q r ⟨(d,v) :: e,H,l⟩:=by
 rw [Uf Jd]
 cases opd e x <;> cases opd e i <;> cases q <;> rfl
theorem Qqd {es:Nat} {x i:Operand} {d:Nat} {r:List AOper} {e:Env} {H:List Ob} {l:List Nat}:steps T b q (⟨some d,.indexSl es x i,none⟩ :: r) ⟨e,H,l⟩ = (opd e x).bind fun x => (opd e i).bind fun i => (Qmi es x i).bind fun v => steps T b q r ⟨(d,v) :: e,H,l⟩:=by
 rw [Uf J1]
 cases opd e x <;> cases opd e i <;> cases q <;> rfl
theorem Qn7 {n es:Nat} {x:Operand} {lo hi mx:Option Operand} {d:Nat} {r:List AOper} {e:Env} {H:List Ob} {l:List Nat}:steps T b q (⟨some d,.sliceArr n es x lo hi mx,none⟩ :: r) ⟨e,H,l⟩ = (opd e x).bind fun x => (Vu e lo).bind fun lo => (Vu e hi).bind fun hi => (Vu e mx).bind fun mx => (Qet n es lo hi mx x).bind fun v => steps T b q r ⟨(d,v) :: e,H,l⟩:=by
 rw [Uf Jn]
 cases opd e x <;> cases Vu e lo <;> cases Vu e hi <;> cases Vu e mx <;> cases q <;> rfl
theorem Qqb {es:Nat} {x:Operand} {lo hi mx:Option Operand} {d:Nat} {r:List AOper} {e:Env} {H:List Ob} {l:List Nat}:steps T b q (⟨some d,.sliceSl es x lo hi mx,none⟩ :: r) ⟨e,H,l⟩ = (opd e x).bind fun x => (Vu e lo).bind fun lo => (Vu e hi).bind fun hi => (Vu e mx).bind fun mx => (vSliceSl H es lo hi mx x).bind fun v => steps T b q r ⟨(d,v) :: e,H,l⟩:=by
 simp only [steps,guardOf,Jz,Zn,Env.put]
 cases opd e x with
 | none => rfl
 | some v =>
  cases Vu e lo with
  | none => rfl
  | some lo =>
   cases Vu e hi with
   | none => rfl
   | some hi =>
    cases Vu e mx with
    | none => rfl
    | some mx =>
     simp only [Ql]
     cases v <;> try rfl
     rename_i base len cap
     cases base with
     | some a =>
      simp only [vSliceSl]
      cases Y5 len cap lo hi mx with
      | none => rfl
      | some r =>
       simp only [Ql]
       cases liveAt H a.block with
       | none => rfl
       | some o => simp only [Ql]; split <;> cases q <;> rfl
     | none =>
      cases len <;> cases cap <;> try rfl
      simp only [vSliceSl]
      cases Y5 0 0 lo hi mx <;> cases q <;> rfl
theorem Qn6 {x:Operand} {lo hi:Option Operand} {d:Nat} {r:List AOper} {e:Env} {H:List Ob} {l:List Nat}:steps T b q (⟨some d,.sliceStr x lo hi,none⟩ :: r) ⟨e,H,l⟩ = (opd e x).bind fun x => (Vu e lo).bind fun lo => (Vu e hi).bind fun hi => (Qjs lo hi x).bind fun v => steps T b q r ⟨(d,v) :: e,H,l⟩:=by
 rw [Uf Jm]
 cases opd e x <;> cases Vu e lo <;> cases Vu e hi <;> cases q <;> rfl
def Qvd (zero:List Value) (bytes:Nat) (id:Nat):Value → Value → Option (Value × Ob)
 | .int _ l,.int _ c => if 0 ≤ l ∧ l ≤ c ∧ c * bytes ≤ 2 ^ 47 ∧ 0 < bytes ∧ 0 < zero.length then some (.slice (some ⟨id,0,none⟩) l.toNat c.toNat,⟨(Qa c.toNat zero).flatten,true,true,true,1⟩) else none
 | _,_ => none
theorem Qlw {zero:List Value} {bytes:Nat} {x y:Operand} {d:Nat} {r:List AOper} {e:Env} {H:List Ob} {l:List Nat}:steps T b q (⟨some d,.makeSlice zero bytes x y,none⟩ :: r) ⟨e,H,l⟩ = (opd e x).bind fun x => (opd e y).bind fun y => (Qvd zero bytes H.length x y).bind fun v => steps T b q r ⟨(d,v.1) :: e,H ++ [v.2],l⟩:=by
 simp only [steps,guardOf,Jc,Zn,Env.put]
 cases opd e x with
 | none => rfl
 | some v =>
  cases opd e y with
  | none => rfl
  | some w =>
   simp only [Ql]
   unfold Qvd
   cases v <;> try rfl
   cases w <;> try rfl
   dsimp only
   split <;> cases q <;> rfl
theorem Qqe {x:Operand} {i d:Nat} {r:List AOper} {e:Env} {H:List Ob} {l:List Nat}:steps T b q (⟨some d,.extract x i,none⟩ :: r) ⟨e,H,l⟩ = (opd e x).bind fun x => (Qmj i x).bind fun v => steps T b q r ⟨(d,v) :: e,H,l⟩:=by
 rw [Uf J2]
 cases opd e x <;> cases q <;> rfl
theorem Qqc {t:TypeId} {x:Operand} {d:Nat} {r:List AOper} {e:Env} {H:List Ob} {l:List Nat}:steps T b q (⟨some d,.mkIface t x,none⟩ :: r) ⟨e,H,l⟩ = (opd e x).bind fun x => steps T b q r ⟨(d,.iface t x) :: e,H,l⟩:=by
 rw [Uf J0]
 cases opd e x <;> cases q <;> rfl
theorem Qtz {fn:Fn} {fs cs:List Operand} {d:Nat} {r:List AOper} {e:Env} {H:List Ob} {l:List Nat}:steps T b q (⟨some d,.mkFunc fn fs cs,none⟩ :: r) ⟨e,H,l⟩ = (Wh e fs).bind fun fs => (Wh e cs).bind fun cs => steps T b q r ⟨(d,.func fn fs.toArray cs.toArray) :: e,H,l⟩:=by
 rw [Uf Xd]
 cases Wh e fs <;> cases Wh e cs <;> cases q <;> rfl
theorem Qn8 {x:Operand} {d:Nat} {r:List AOper} {e:Env} {H:List Ob} {l:List Nat}:steps T b q (⟨some d,.nilCheck x,none⟩ :: r) ⟨e,H,l⟩ = (opd e x).bind fun x => (Qjt x).bind fun v => steps T b q r ⟨(d,v) :: e,H,l⟩:=by
 rw [Uf Jo]
 cases opd e x <;> cases q <;> rfl
theorem Q1q {n:Nat} {x:Operand} {d:Nat} {r:List AOper} {e:Env} {H:List Ob} {l:List Nat}:steps T b q (⟨some d,.s2ap n x,none⟩ :: r) ⟨e,H,l⟩ = (opd e x).bind fun x => (Q36 n x).bind fun v => steps T b q r ⟨(d,v) :: e,H,l⟩:=by
 rw [Uf Ke]
 cases opd e x <;> cases q <;> rfl
theorem Q68 {str:Bool} {x:Operand} {d:Nat} {r:List AOper} {e:Env} {H:List Ob} {l:List Nat}:steps T b q (⟨some d,.len str x,none⟩ :: r) ⟨e,H,l⟩ = (opd e x).bind fun x => (vLen str x).bind fun v => steps T b q r ⟨(d,v) :: e,H,l⟩:=by
 rw [Uf Kt]
 cases opd e x <;> cases q <;> rfl
theorem Qt0 {mx:Bool} {x y:Operand} {d:Nat} {r:List AOper} {e:Env} {H:List Ob} {l:List Nat}:steps T b q (⟨some d,.minmax mx x y,none⟩ :: r) ⟨e,H,l⟩ = (opd e x).bind fun x => (opd e y).bind fun y => (Qdh mx x y).bind fun v => steps T b q r ⟨(d,v) :: e,H,l⟩:=by
 rw [Uf Xe]
 cases opd e x <;> cases opd e y <;> cases q <;> rfl
def Qzm (id:Nat):Value → Option (Value × Ob)
 | .string s => if s.size ≤ 2 ^ 47 then some (.slice (some ⟨id,0,none⟩) s.size s.size,⟨s.data.toList.map fun b => .int .u8 b.toNat,true,true,false,1⟩) else none
 | _ => none
theorem Q66 {x:Operand} {d:Nat} {r:List AOper} {e:Env} {H:List Ob} {l:List Nat}:steps T b q (⟨some d,.s2b x,none⟩ :: r) ⟨e,H,l⟩ = (opd e x).bind fun x => (Qzm H.length x).bind fun v => steps T b q r ⟨(d,v.1) :: e,H ++ [v.2],l⟩:=by
 simp only [steps,guardOf,Ks,Zn,Env.put,Ob.grown]
 cases opd e x with
 | none => rfl
 | some v =>
  cases v <;> try rfl
  simp only [Ql,Qzm]
  split <;> cases q <;> rfl
theorem Q7c {x:Operand} {d:Nat} {r:List AOper} {e:Env} {H:List Ob} {l:List Nat}:steps T b q (⟨some d,.b2s x,none⟩ :: r) ⟨e,H,l⟩ = (opd e x).bind fun x => (Q4u H x).bind fun v => steps T b q r ⟨(d,v) :: e,H,l⟩:=by
 simp only [steps,guardOf,Kx,Zn,Env.put]
 cases opd e x with
 | none => rfl
 | some v =>
  cases v <;> try rfl
  rename_i base n cap
  simp only [Ql,Q4u]
  cases elemsOf H 1 n (.slice base n cap) with
  | none => rfl
  | some cs =>
   simp only [Ql]
   cases Bq cs <;> cases q <;> rfl
theorem Qt7 {es bytes:Nat} {x y:Operand} {d:Nat} {r:List AOper} {e:Env} {H:List Ob} {l:List Nat}:steps T b q (⟨some d,.append es bytes x y,none⟩ :: r) ⟨e,H,l⟩ = (opd e x).bind fun x => (opd e y).bind fun y => (Y4 es bytes H x y).bind fun v => gate ((q && !v.2.2.2.isEmpty) = false) (steps T b q r ⟨(d,v.1) :: e,v.2.1,Jj b l v.2.2.2⟩):=by
 simp only [steps,guardOf,Qdx,Xf,Zn,Env.put]
 cases opd e x <;> cases opd e y <;> cases q <;> rfl
def Qq2 (H:List Ob) (es:Nat) (d s:Value):Option (Value × List Ob × List Nat):=match d with
 | .slice base dl _ => (lenV s).bind fun sl => (elemsOf H es (min sl dl) s).bind fun cs => match base with
   | some a => (storeAt H a cs).bind fun H' => some (.int .i64 (min sl dl:Nat),H',[a.block])
   | none => if dl = 0 then some (.int .i64 0,H,[]) else none
 | _ => none
theorem Q1v {es:Nat} {x y:Operand} {d:Option Nat} {r:List AOper} {e:Env} {H:List Ob} {l:List Nat}:steps T b q (⟨d,.copy es x y,none⟩ :: r) ⟨e,H,l⟩ = (opd e x).bind fun x => (opd e y).bind fun y => (Qq2 H es x y).bind fun v => gate ((q && !v.2.2.isEmpty) = false) (steps T b q r ⟨e.put d v.1,v.2.1,Jj b l v.2.2⟩):=by
 simp only [steps,guardOf,Qdx,Kh,Zn]
 cases opd e x with
 | none => rfl
 | some v =>
  cases opd e y with
  | none => rfl
  | some s =>
   simp only [Ql]
   cases v <;> try rfl
   rename_i base dl cap
   unfold Qq2
   dsimp only
   cases lenV s with
   | none => rfl
   | some sl =>
    simp only [Ql]
    cases elemsOf H es (min sl dl) s with
    | none => rfl
    | some cs =>
     simp only [Ql]
     cases base with
     | none => dsimp only; split <;> cases q <;> rfl
     | some a => dsimp only; cases storeAt H a cs <;> cases q <;> rfl
theorem Mr {f:Nat} {xs:List Operand} {d:Option Nat} {r:List AOper} {e:Env} {H:List Ob} {l:List Nat}:steps T b q (⟨d,.call f xs true,none⟩ :: r) ⟨e,H,l⟩ = (Wh e xs).bind fun args => gate (args.all rf = true) ((Vx T f args []).bind fun v => gate (rf v.1 = true) (steps T b q r ⟨e.put d v.1,H,l⟩)):=by
 simp only [steps,guardOf,Jw]
 cases Wh e xs with
 | none => rfl
 | some args =>
  simp only [Ql]
  cases args.all rf with
  | false => rfl
  | true =>
   simp only [if_true,Qkm]
   cases Vx T f args [] with
   | none => rfl
   | some v =>
    simp only [Ql]
    cases rf v.1 <;> cases q <;> rfl
theorem Qyb {f:Nat} {xs:List Operand} {d:Option Nat} {r:List AOper} {e:Env} {H:List Ob} {l:List Nat}:steps T b q (⟨d,.call f xs false,none⟩ :: r) ⟨e,H,l⟩ = (Wh e xs).bind fun args => (Vx T f args H).bind fun v => gate ((q && !v.2.2.isEmpty) = false) (steps T b q r ⟨e.put d v.1,v.2.1,Jj b l v.2.2⟩):=by
 simp only [steps,guardOf,Qdx,Kj]
 cases Wh e xs with
 | none => rfl
 | some args =>
  simp only [Zp,if_false,Ql]
  cases Vx T f args H <;> cases q <;> rfl
def callee:Value → List Value → Option (Nat × List Value)
 | .func (.func f) first captured,args => some (f,first.toList ++ args ++ captured.toList)
 | _,_ => none
theorem Qud {f:Operand} {xs:List Operand} {e:Env} {H:List Ob}:Yq T (.callv f xs) e H = (opd e f).bind fun f => (Wh e xs).bind fun args => (callee f args).bind fun c => (Vx T c.1 c.2 H).bind fun r => some (r.1,r.2.1,none,r.2.2):=by
 rw [Yq.eq_def]
 dsimp only
 cases opd e f with
 | none => rfl
 | some fv =>
  cases Wh e xs with
  | none =>
   cases fv <;> try rfl
   rename_i fn _ _
   cases fn <;> rfl
  | some args =>
   cases fv <;> try rfl
   rename_i fn _ _
   cases fn <;> rfl
theorem Qya {f:Operand} {xs:List Operand} {d:Option Nat} {r:List AOper} {e:Env} {H:List Ob} {l:List Nat}:steps T b q (⟨d,.callv f xs,none⟩ :: r) ⟨e,H,l⟩ = (opd e f).bind fun f => (Wh e xs).bind fun args => (callee f args).bind fun c => (Vx T c.1 c.2 H).bind fun v => gate ((q && !v.2.2.isEmpty) = false) (steps T b q r ⟨e.put d v.1,v.2.1,Jj b l v.2.2⟩):=by
 simp only [steps,guardOf,Qdx,Qud]
 cases opd e f with
 | none => rfl
 | some fv =>
  cases Wh e xs with
  | none => rfl
  | some args =>
   simp only [Ql]
   cases callee fv args with
   | none => rfl
   | some c => simp only [Ql]; cases Vx T c.1 c.2 H <;> cases q <;> rfl
end
theorem hget0 {H l:List Ob}:(H ++ l)[H.length]? = l[0]? := by rw [Q3 (Zf _),Xa]
theorem hgetK {H l:List Ob} {k:Nat}:(H ++ l)[H.length + k]? = l[k]? := by rw [Q3 (by omega)]; congr 1; omega
theorem Qx0 {H l:List Ob} {o:Ob}:(H ++ l).set H.length o = H ++ l.set 0 o:=by rw [We _ _ (Zf _),Xa]
theorem hsetK {H l:List Ob} {o:Ob} {k:Nat}:(H ++ l).set (H.length + k) o = H ++ l.set k o:=by rw [We _ _ (by omega)]; congr 2; omega
theorem V3 {cs v:List Value} (h:v.length = cs.length):splice cs 0 v = v:=by
 rw [B8 _ _ _ (by omega),Za,Q6,Zm,h,List.drop_length,Xj]
theorem Qpe {cs:List Value} {n:Nat} (h:cs.length = n):(cs.drop 0).take n = cs:=by rw [Q5,Zh (by omega)]
theorem Hp:∀ {n:Nat} {p q:List Nat},p.length = n → q.length = n → Wc (Qa n true) (u8s p) (u8s q) = some (p == q)
 | 0,[],[],_,_ => rfl
 | n + 1,x :: p,y :: q,hp,hq => by
  have:=Hp (n:=n) (p:=p) (q:=q) (by simpa using hp) (by simpa using hq)
  simp only [u8s,Wf,Dg,Wc,Qdc,if_true,Ql] at this ⊢
  rw [this]
  simp only [Ql,List.cons_beq_cons]
  congr 2
  by_cases h:x = y
  ·subst h; simp
  ·have:¬ ((x:Int) = y):=by omega
   rw [beq_eq_false_iff_ne.2 h,beq_eq_false_iff_ne.2 this]
theorem Qwe (l:List Nat):rf (.agg (u8s l).toArray) = true:=by
 show (u8s l).toArray.toList.all Vq = true
 rw [show (u8s l).toArray.toList = u8s l from rfl]
 simp [u8s,Vq]
theorem Qrc (b:Bool):rf (.bool b) = true:=rfl
theorem Qy8 (l:List Value):l.toArray.toList = l:=rfl
theorem Grown.len {k:IntKind} {B:Nat} {H:List Ob} {s:Value} {bs:List Nat} (h:Grown k B H s bs):vLen false s = some (.int .i64 bs.length):=by cases h <;> rfl
theorem Sl.len {k:IntKind} {H:List Ob} {s:Value} {bs:List Nat} (h:Sl k H s bs):vLen false s = some (.int .i64 bs.length):=by cases h <;> rfl
section
variable {e:Env} {H:List Ob}
theorem Q0o {t:Nat}:opd e (.tmp t) = e.get t:=Eq.trans rfl rfl
theorem Qs5 {v:Value}:opd e (.const v) = some v:=Eq.trans rfl rfl
theorem Qw0 {f:FuncId}:opd e (.func f) = some (.func (.func f) #[] #[]):=Eq.trans rfl rfl
theorem Qwz:Wh e [] = some []:=Eq.trans rfl rfl
theorem Qs4 {x:Operand} {r:List Operand}:Wh e (x :: r) = (opd e x).bind fun v => (Wh e r).bind fun vs => some (v :: vs):=Eq.trans rfl rfl
theorem Qnc:Vu e none = some none:=Eq.trans rfl rfl
theorem Qnb {x:Operand}:Vu e (some x) = (opd e x).bind fun v => some (some v):=Eq.trans rfl rfl
theorem Qlk:Va e [] = some []:=Eq.trans rfl rfl
theorem Qja {o n:Nat} {x:Operand} {r:List (Nat × Nat × Operand)}:Va e ((o,n,x) :: r) = (opd e x).bind fun v => (Va e r).bind fun vs => some ((o,n,v) :: vs):=Eq.trans rfl rfl
theorem Q1o {t:Nat} {v:Value} {r:Env}:Env.get ((t,v) :: r) t = some v:=by simp [Env.get]
theorem Qx3 {t u:Nat} {v:Value} {r:Env} (h:(t = u) = False):Env.get ((u,v) :: r) t = Env.get r t:=by simp [Env.get,h]
theorem Qzo {a b:Value}:Qvc (.bool true) a b = some a:=Eq.trans rfl rfl
theorem Qzp {a b:Value}:Qvc (.bool false) a b = some b:=Eq.trans rfl rfl
theorem Qzs {ks:List Bool} {a b:Array Value}:vEq (some ks) false (.agg a) (.agg b) = (Wc ks a.toList b.toList).bind fun c => some (.bool c):=Eq.trans rfl rfl
theorem Qmk {ks:List Bool} {a b:Array Value}:vEq (some ks) true (.agg a) (.agg b) = (Wc ks a.toList b.toList).bind fun c => some (.bool !c):=Eq.trans rfl rfl
theorem Qvg {a b:Bool}:vEq none false (.bool a) (.bool b) = some (.bool (a == b)):=Eq.trans rfl rfl
theorem Qsg {a b:Bool}:vEq none true (.bool a) (.bool b) = some (.bool !(a == b)):=Eq.trans rfl rfl
theorem Qsh {k j:IntKind} {n:Int}:Q37 k (.int j n) = some (.int k (k.wrap n)):=Eq.trans rfl rfl
theorem Q4p {s:ByteArray}:vStr (.string s) = some (.string s):=Eq.trans rfl rfl
theorem Qo9 {n:Option Nat} {off:Nat} {cs:Array Value}:Qvf n off (.agg cs) = Yl n cs.toList off:=Eq.trans rfl rfl
theorem Qcv {n:Option Nat} {len es:Nat} {cs:Array Value} {k:IntKind} {i:Int}:Qk3 n len es (.agg cs) (.int k i) = gate (0 ≤ i ∧ i < len) (Yl n cs.toList (i.toNat * es)):=Eq.trans rfl rfl
theorem Qmh {s:ByteArray} {k:IntKind} {i:Int}:Qju (.string s) (.int k i) = gate (0 ≤ i) ((s.data.toList[i.toNat]?).bind fun b => some (.int .u8 b.toNat)):=Eq.trans rfl rfl
theorem Qk4 {off b o:Nat}:Qg5 off (.pointer (some ⟨b,o,none⟩)) = some (.pointer (some ⟨b,o + off,none⟩)):=by rw [← Vn]; rfl
theorem Qk2 {len es b o:Nat} {k:IntKind} {i:Int}:Qg4 len es (.pointer (some ⟨b,o,none⟩)) (.int k i) = gate (0 ≤ i ∧ i < len) (some (.pointer (some ⟨b,o + i.toNat * es,none⟩))):=by rw [← Vn]; rfl
theorem Qo8 {es b o len cap:Nat} {k:IntKind} {i:Int}:Qmi es (.slice (some ⟨b,o,none⟩) len cap) (.int k i) = gate (0 ≤ i ∧ i < len) (some (.pointer (some ⟨b,o + i.toNat * es,none⟩))):=by rw [← Vn]; rfl
theorem Qme {n es b o:Nat} {lo hi mx:Option Value}:Qet n es lo hi mx (.pointer (some ⟨b,o,none⟩)) = (Y5 n n lo hi mx).bind fun r => some (.slice (some ⟨b,o + r.1 * es,none⟩) (r.2.1 - r.1) (r.2.2 - r.1)):=by
 simp only [Qet,Vn]
theorem Qsi {i o n c:Nat}:Qgk H (.slice (some ⟨i,o,none⟩) n c) = (liveAt H i).bind fun ob => gate (ob.own = true) (some (.slice (some ⟨i,o,none⟩) n c)):=by
 simp only [Qgk,gate,Zy,and_true]
theorem T1 {es b o len cap:Nat} {lo hi mx:Option Value}:vSliceSl H es lo hi mx (.slice (some ⟨b,o,none⟩) len cap) = (Y5 len cap lo hi mx).bind fun r => (liveAt H b).bind fun ob => gate (ob.exact ∨ ¬ ob.own ∨ es ≤ ob.es) (some (.slice (some ⟨b,o + r.1 * es,none⟩) (r.2.1 - r.1) (r.2.2 - r.1))):=by
 simp only [vSliceSl,Vn,gate]
theorem Qo7 {es:Nat} {lo hi mx:Option Value}:vSliceSl H es lo hi mx (.slice none 0 0) = (Y5 0 0 lo hi mx).bind fun _ => some (.slice none 0 0):=Eq.trans rfl rfl
theorem Qmd {s:ByteArray} {lo hi:Option Value}:Qjs lo hi (.string s) = (Y5 s.size s.size lo hi none).bind fun r => some (.string (s.extract r.1 r.2.1)):=Eq.trans rfl rfl
theorem Mh {i:Nat} {vs:Array Value}:Qmj i (.tuple vs) = vs.toList[i]? := Eq.trans rfl rfl
theorem Qmf {a:Addr}:Qjt (.pointer (some a)) = some (.pointer (some a)):=Eq.trans rfl rfl
theorem Qzn {n:Nat} {a:Addr} {len cap:Nat}:Q36 n (.slice (some a) len cap) = gate (n ≤ len ∧ 0 < n) (some (.pointer (some a))):=Eq.trans rfl rfl
theorem Q4s {a:Option Addr} {n c:Nat}:vLen false (.slice a n c) = some (.int .i64 n):=Eq.trans rfl rfl
theorem Qve {s:ByteArray}:vLen true (.string s) = some (.int .i64 s.size):=Eq.trans rfl rfl
theorem Q4q {k:IntKind} {a b:Int}:Qdh false (.int k a) (.int k b) = some (.int k (if b < a then b else a)):=by simp [Qdh]
theorem Q4r {k:IntKind} {a b:Int}:Qdh true (.int k a) (.int k b) = some (.int k (if b > a then b else a)):=by simp [Qdh]
theorem Qzr {n:Option Nat} {b o:Nat}:Qmg H n (.pointer (some ⟨b,o,none⟩)) = (liveAt H b).bind fun ob => Yl n ob.cells o:=by simp [Qmg]
theorem Qva {n b o:Nat} {v:Value}:Qo6 H n (.pointer (some ⟨b,o,none⟩)) v = gate (v.cells.size = n ∧ Vy v = true) (storeAt H ⟨b,o,none⟩ v.cells.toList):=Eq.trans rfl rfl
theorem Q2z {b o:Nat}:Qy7 (.pointer (some ⟨b,o,none⟩)) = [b]:=rfl
theorem Q4t {a:Option Addr} {n c:Nat}:Q4u H (.slice a n c) = (elemsOf H 1 n (.slice a n c)).bind fun cs => (Bq cs).bind fun l => some (.string ⟨l.toArray⟩):=Eq.trans rfl rfl
theorem Qzq {zero:List Value} {bytes id:Nat} {k j:IntKind} {l c:Int}:Qvd zero bytes id (.int k l) (.int j c) = gate (0 ≤ l ∧ l ≤ c ∧ c * bytes ≤ 2 ^ 47 ∧ 0 < bytes ∧ 0 < zero.length) (some (.slice (some ⟨id,0,none⟩) l.toNat c.toNat,⟨(Qa c.toNat zero).flatten,true,true,true,1⟩)):=Eq.trans rfl rfl
theorem Qvb {id:Nat} {s:ByteArray}:Qzm id (.string s) = gate (s.size ≤ 2 ^ 47) (some (.slice (some ⟨id,0,none⟩) s.size s.size,⟨s.data.toList.map fun b => .int .u8 b.toNat,true,true,false,1⟩)):=Eq.trans rfl rfl
theorem Qyy {f:FuncId} {a b:Array Value} {args:List Value}:callee (.func (.func f) a b) args = some (f,a.toList ++ args ++ b.toList):=Eq.trans rfl rfl
theorem Qtr {id:Nat}:liveAt H id = (H[id]?).bind fun o => gate (o.live = true) (some o):=Eq.trans rfl rfl
theorem Qhd {b o:Nat} {v:List Value}:storeAt H ⟨b,o,none⟩ v = (liveAt H b).bind fun ob => gate (ob.own = true ∧ o + v.length ≤ ob.cells.length) (some (H.set b ⟨splice ob.cells o v,ob.live,ob.own,ob.exact,ob.es⟩)):=by simp [storeAt,gate]
theorem Qpo {cs:List Value} {off:Nat}:Yl none cs off = cs[off]? := Eq.trans rfl rfl
theorem Qpn {n:Nat} {cs:List Value} {off:Nat}:Yl (some n) cs off = gate (off + n ≤ cs.length) (some (.agg ((cs.drop off).take n).toArray)):=Eq.trans rfl rfl
theorem Mo {y d:Nat}:Ge none y d = some d:=Eq.trans rfl rfl
theorem Qti {k:IntKind} {i:Int} {y d:Nat}:Ge (some (.int k i)) y d = gate (0 ≤ i ∧ i ≤ y) (some i.toNat):=Eq.trans rfl rfl
theorem U8 {len cap:Nat} {lo hi:Option Value}:Y5 len cap lo hi none = (Ge hi cap len).bind fun h => (Ge lo h 0).bind fun l => some (l,h,cap):=by simp [Y5,Ge]
theorem Q2w {k:IntKind} {a b:Int}:Wa .add (.int k a) (.int k b) = some (.int k (k.wrap (a + b))):=by simp [Wa,Ya]
theorem Q2i {k:IntKind} {a b:Int}:Wa .sub (.int k a) (.int k b) = some (.int k (k.wrap (a - b))):=by simp [Wa,Ya]
theorem Q2p {k:IntKind} {a b:Int}:Wa .mul (.int k a) (.int k b) = some (.int k (k.wrap (a * b))):=by simp [Wa,Ya]
theorem Q2n {k:IntKind} {a b:Int} (h:(b = 0) = False):Wa .quo (.int k a) (.int k b) = some (.int k (k.wrap (a.tdiv b))):=by simp [Wa,Ya,h]
theorem Q2m {k:IntKind} {a b:Int} (h:(b = 0) = False):Wa .rem (.int k a) (.int k b) = some (.int k (a.tmod b)):=by simp [Wa,Ya,h]
theorem Q2v {k:IntKind} {a b:Int}:Wa .and (.int k a) (.int k b) = some (.int k (Vf .and k a b)):=by simp [Wa,Ya]
theorem Q7o {k:IntKind} {a b:Int}:Wa .or (.int k a) (.int k b) = some (.int k (Vf .or k a b)):=by simp [Wa,Ya]
theorem Q2h {k:IntKind} {a b:Int}:Wa .xor (.int k a) (.int k b) = some (.int k (Vf .xor k a b)):=by simp [Wa,Ya]
theorem Qqt {k:IntKind} {a b:Int}:Wa .andNot (.int k a) (.int k b) = some (.int k (Vf .andNot k a b)):=by simp [Wa,Ya]
theorem Q2u {k:IntKind} {a b:Int}:Wa .eql (.int k a) (.int k b) = some (.bool (a == b)):=by simp [Wa,Ya]
theorem Q2o {k:IntKind} {a b:Int}:Wa .neq (.int k a) (.int k b) = some (.bool (a != b)):=by simp [Wa,Ya]
theorem Q2q {k:IntKind} {a b:Int}:Wa .lss (.int k a) (.int k b) = some (.bool (decide (a < b))):=by simp [Wa,Ya]
theorem Q2r {k:IntKind} {a b:Int}:Wa .leq (.int k a) (.int k b) = some (.bool (decide (a ≤ b))):=by simp [Wa,Ya]
theorem Q2s {k:IntKind} {a b:Int}:Wa .gtr (.int k a) (.int k b) = some (.bool (decide (b < a))):=by simp [Wa,Ya]
theorem Q2t {k:IntKind} {a b:Int}:Wa .geq (.int k a) (.int k b) = some (.bool (decide (b ≤ a))):=by simp [Wa,Ya]
theorem Q2k {k j:IntKind} {a b:Int} (h:(b < 0) = False):Wa .shl (.int k a) (.int j b) = some (.int k (k.wrap (a * 2 ^ (min b.toNat k.bits)))):=by simp [Wa,V7,h]
theorem Q2j {k j:IntKind} {a b:Int} (h:(b < 0) = False):Wa .shr (.int k a) (.int j b) = some (.int k (a.fdiv (2 ^ (min b.toNat k.bits)))):=by simp [Wa,V7,h]
theorem Qy5 {a b:ByteArray}:Wa .add (.string a) (.string b) = gate (a.size + b.size ≤ 2 ^ 47) (some (.string (a ++ b))):=Eq.trans rfl rfl
theorem Qy4 {a b:ByteArray}:Wa .eql (.string a) (.string b) = some (.bool (a.toList == b.toList)):=Eq.trans rfl rfl
theorem Qy3 {a b:ByteArray}:Wa .neq (.string a) (.string b) = some (.bool !(a.toList == b.toList)):=Eq.trans rfl rfl
theorem Q4w {b:Bool}:unV .not (.bool b) = some (.bool !b):=Eq.trans rfl rfl
theorem Q4x {k:IntKind} {n:Int}:unV .neg (.int k n) = some (.int k (k.wrap (0 - n))):=Eq.trans rfl rfl
theorem Q4v {k:IntKind} {n:Int}:unV .xor (.int k n) = some (.int k (Vf .xor k (if k.signed then -1 else k.max) n)):=Eq.trans rfl rfl
theorem Qqx {l:List Nat} {k:List Nat}:St.after ⟨e,H,l⟩ (some k) = ⟨e.keep k,H,l⟩:=rfl
theorem Qwj {d:Nat} {v:Value}:Env.put e (some d) v = (d,v) :: e:=rfl
theorem Qwk {v:Value}:Env.put e none v = e:=rfl
theorem Qz6:Vb e H [] = some []:=Eq.trans rfl rfl
theorem Qz5 {t:Nat} {r:List (Nat × Option (Option Nat))}:Vb e H ((t,none) :: r) = (e.get t).bind fun v => (Vb e H r).bind fun vs => some (v :: vs):=Eq.trans rfl rfl
theorem Qz4 {t:Nat} {n:Option Nat} {r:List (Nat × Option (Option Nat))}:Vb e H ((t,some n) :: r) = (e.get t).bind fun p => (Qmg H n p).bind fun v => (Vb e H r).bind fun vs => some (v :: vs):=Eq.trans rfl rfl
theorem Qpu {v:Value}:packed [v] = v:=rfl
theorem Qps {v w:Value} {r:List Value}:packed (v :: w :: r) = .tuple (v :: w :: r).toArray:=rfl
theorem Qtp {b:Nat} {l:List Nat}:Jj b l [] = l:=rfl
theorem Qxp {b i:Nat} {l r:List Nat} (h:b ≤ i):Jj b l (i :: r) = Jj b l r:=by
 have h1:¬ i < b:=by omega
 simp only [Jj,h1,false_and,if_false]
theorem Q0z {k:IntKind} {n:Int}:Vy (.int k n) = true:=rfl
theorem Qxd {b:Bool}:Vy (.bool b) = true:=rfl
theorem Q0x {s:ByteArray}:Vy (.string s) = true:=rfl
theorem Q00 {a:Array Value}:Vy (.agg a) = true:=rfl
theorem Q0y {a:Option Addr}:Vy (.pointer a) = true:=rfl
theorem Qta {a:Option Addr} {n c:Nat}:Vy (.slice a n c) = true:=rfl
theorem Qxc {f:Fn} {a b:Array Value}:Vy (.func f a b) = true:=rfl
theorem Qnk:Vy .nilFunc = true:=rfl
theorem Qtb {t:TypeId} {v:Value}:Vy (.iface t v) = true:=rfl
theorem Qlo:Vy .nilIface = true:=rfl
theorem Qqp (b:Bool):(Value.bool b).cells.toList = [.bool b]:=rfl
theorem Qgb (b:Bool):(Value.bool b).cells.size = 1:=rfl
theorem Qul (a:Option Addr):(Value.pointer a).cells.toList = [.pointer a]:=rfl
theorem Qil (a:Option Addr):(Value.pointer a).cells.size = 1:=rfl
theorem Qoq (a:Option Addr) (n c:Nat):(Value.slice a n c).cells.toList = [.slice a n c]:=rfl
theorem Qfo (a:Option Addr) (n c:Nat):(Value.slice a n c).cells.size = 1:=rfl
theorem Quk (s:ByteArray):(Value.string s).cells.toList = [.string s]:=rfl
theorem Qik (s:ByteArray):(Value.string s).cells.size = 1:=rfl
theorem Dl {a b:Value} (h1:T3 a = true) (h2:T3 b = true):rf (.tuple #[a,b]) = true:=by simp [rf,h1,h2]
theorem Qmz {k:IntKind} {n:Int}:T3 (.int k n) = true:=rfl
theorem Qsx {b:Bool}:T3 (.bool b) = true:=rfl
theorem Qa2 (l:List Nat):T3 (.agg (u8s l).toArray) = true:=Qwe l
theorem Q6b {s:ByteArray}:rf (.string s) = true:=rfl
theorem Qwf {s:ByteArray}:T3 (.string s) = true:=rfl
end
set_option linter.defProp false
def cF:=Q4 (Q4 (Q4 (Q4 (Q4 (Q4 (Q4 (@Kc) (Q4 (@Kk) (@Ky))) (Q4 (@Qt2) (Q4 (@Qt3) (@Qt5)))) (Q4 (Q4 (@Qt4) (Q4 (@Qt6) (@Kz))) (Q4 (@Qxv) (Q4 (@Qtu) (@Q1x))))) (Q4 (Q4 (Q4 (@Qty) (Q4 (@Q67) (@Qx8))) (Q4 (@Q1s) (Q4 (@Q1r) (@Qyd)))) (Q4 (Q4 (@Q7a) (Q4 (@Q1u) (@Qx5))) (Q4 (@Q7b) (Q4 (@Q69) (@Qx6)))))) (Q4 (Q4 (Q4 (Q4 (@fs_un) (Q4 (@Q1w) (@Qqf))) (Q4 (@Qt1) (Q4 (@Qx9) (@Qx7)))) (Q4 (Q4 (@Qn9) (Q4 (@Qyc) (@Qjh))) (Q4 (@Qly) (Q4 (@Qlx) (@Qqd))))) (Q4 (Q4 (Q4 (@Qn7) (Q4 (@Qqb) (@Qn6))) (Q4 (@Qlw) (Q4 (@Qqe) (@Qqc)))) (Q4 (Q4 (@Qtz) (Q4 (@Qn8) (@Q1q))) (Q4 (@Q68) (Q4 (@Qt0) (@Q66))))))) (Q4 (Q4 (Q4 (Q4 (Q4 (@Q7c) (Q4 (@Qt7) (@Q1v))) (Q4 (@Qyb) (Q4 (@Qya) (@Q0o)))) (Q4 (Q4 (@Qs5) (Q4 (@Qw0) (@Qwz))) (Q4 (@Qs4) (Q4 (@Qnc) (@Qnb))))) (Q4 (Q4 (Q4 (@Qlk) (Q4 (@Qja) (@Qx3))) (Q4 (@Qzo) (Q4 (@Qzp) (@Qzs)))) (Q4 (Q4 (@Qmk) (Q4 (@Qvg) (@Qsg))) (Q4 (@Qsh) (Q4 (@Q4p) (@Qsi)))))) (Q4 (Q4 (Q4 (Q4 (@Qo9) (Q4 (@Qcv) (@Qmh))) (Q4 (@Qk4) (Q4 (@Qk2) (@Qo8)))) (Q4 (Q4 (@Qme) (Q4 (@T1) (@Qo7))) (Q4 (@Qmd) (Q4 (@Mh) (@Qmf))))) (Q4 (Q4 (Q4 (@Qzn) (Q4 (@Q4s) (@Qve))) (Q4 (@Q4q) (Q4 (@Q4r) (@Qzr)))) (Q4 (Q4 (@Qva) (Q4 (@Q2z) (@Q4t))) (Q4 (@Qzq) (Q4 (@Qvb) (@Qyy)))))))) (Q4 (Q4 (Q4 (Q4 (Q4 (Q4 (@Qtr) (Q4 (@Qhd) (@Qpo))) (Q4 (@Qpn) (Q4 (@Mo) (@Qti)))) (Q4 (Q4 (@U8) (Q4 (@Q2w) (@Q2i))) (Q4 (@Q2p) (Q4 (@Q2n) (@Q2m))))) (Q4 (Q4 (Q4 (@Q2v) (Q4 (@Q7o) (@Q2h))) (Q4 (@Qqt) (Q4 (@Q2u) (@Q2o)))) (Q4 (Q4 (@Q2q) (Q4 (@Q2r) (@Q2s))) (Q4 (@Q2t) (Q4 (@Q2k) (@Q2j)))))) (Q4 (Q4 (Q4 (Q4 (@Qy5) (Q4 (@Qy4) (@Qy3))) (Q4 (@Q4w) (Q4 (@Q4x) (@Q4v)))) (Q4 (Q4 (@Qqx) (Q4 (@Qwj) (@Qwk))) (Q4 (@Qz6) (Q4 (@Qz5) (@Qz4))))) (Q4 (Q4 (Q4 (@Qpu) (Q4 (@Qps) (@Qtp))) (Q4 (@Qxp) (Q4 (@Dl) (@Qmz)))) (Q4 (Q4 (@Qsx) (Q4 (@Qa2) (@Q6b))) (Q4 (@Qwf) (Q4 (@Q1p) (@gd_ut))))))) (Q4 (Q4 (Q4 (Q4 (Q4 (@gd_uf) (Q4 (@Q6.{0}) (@Zb.{0}))) (Q4 (@Ka.{0}) (Q4 (@J5.{0}) (@List.isEmpty_nil.{0})))) (Q4 (Q4 (@Zp) (Q4 (@beq_self_eq_true.{0}) (@bne_self_eq_false.{0}))) (Q4 (@Xm) (Q4 (@Jv) (@Z0))))) (Q4 (Q4 (Q4 (@Xb) (Q4 (@false_and) (@Y3))) (Q4 (@Qrc) (Q4 (@Xc) (@Qwe)))) (Q4 (Q4 (@Qy8) (Q4 (@Yi) (@Xi))) (Q4 (@Jr) (Q4 (@Xy) (@Qch)))))) (Q4 (Q4 (Q4 (Q4 (@Nat.le_add_right) (Q4 (@Vd) (@Jx))) (Q4 (@Vh) (Q4 (@J4) (@Q0z)))) (Q4 (Q4 (@Qxd) (Q4 (@Q0x) (@Q00))) (Q4 (@Q0y) (Q4 (@Qta) (@Qxc))))) (Q4 (Q4 (Q4 (@Qnk) (Q4 (@Qtb) (@Qlo))) (Q4 (@Qqp) (Q4 (@Qgb) (@Qul)))) (Q4 (Q4 (@Qil) (Q4 (@Qoq) (@Qfo))) (Q4 (@Quk) (Q4 (@Qik) (@eq_self.{1}))))))))
def pF:=Q4 (Q4 (@Qkm) (@Q1o)) (Q4 (@Ql.{0,0}) (Q4 (@if_true.{1}) (@if_false.{1})))
def cL:=Q4 (Q4 (Q4 (Q4 (Q4 (@V6) (@Vm)) (Q4 (@Qqy) (Q4 (@Qau) (@Zw.{0})))) (Q4 (Q4 (@Zr.{0}) (@Zk.{0})) (Q4 (@Zl.{0}) (Q4 (@Qjn.{0}) (@D1.{0}))))) (Q4 (Q4 (Q4 (@Zm) (@Ji)) (Q4 (@X6) (Q4 (@Xo) (@Z4)))) (Q4 (Q4 (@Int.toNat_zero) (@Int.lt_irrefl)) (Q4 (@Kb) (Q4 (@Zf) (@and_self)))))) (Q4 (Q4 (Q4 (Q4 (@true_and) (@and_true)) (Q4 (@decide_true) (Q4 (@decide_false) (@Nat.min_self)))) (Q4 (Q4 (@ge_iff_le.{0}) (@gt_iff_lt.{0})) (Q4 (@Zy.{0}) (Q4 (@Zz.{0}) (@Option.isNone_some.{0}))))) (Q4 (Q4 (Q4 (@Qao.{0}) (@Xp)) (Q4 (@Xh) (Q4 (@Bool.and_false) (@Qgj)))) (Q4 (Q4 (@not_true_eq_false) (Q4 (@not_false_eq_true) (@or_true))) (Q4 (@true_or) (Q4 (@false_or) (@or_false))))))
def cJ:=Q4 (Q4 (Q4 (@hget0) (@hgetK)) (Q4 (@Qx0) (Q4 (@hsetK) (@J8)))) (Q4 (Q4 (@V3) (@Qpe)) (Q4 (@List.getElem?_nil.{0}) (Q4 (@Zc.{0}) (@Z1.{0}))))
end Go.Ev
set_option linter.unusedSimpArgs false
set_option linter.unusedVariables false
namespace Go.Ev
open Go.RowKit Go.WideShapes Go.ChangeShapes
section
variable {P:Program} {T:Tab}
structure Lies8 (w:World) (a:Addr) (len cap:Nat) (l:List Nat):Prop where
 spot:a.spot = none
 at_:∃ cs e fr,w.heap[a.block]? = some (.cells cs e fr) ∧ (cap = 0 ∨ a.off + cap ≤ cs.size) ∧ ∀ (i x:Nat),l[i]? = some x → cs[a.off + i]? = some (.int .u8 (x:Nat))
 le:len ≤ cap
 max:cap ≤ maxLen
 len:l.length = len
 lt:∀ x ∈ l,x < 256
end
end Go.Ev
set_option linter.unusedSimpArgs false
set_option linter.unusedVariables false
set_option maxRecDepth 100000
namespace Go.Ev.Ytpgphpkjlpkcbaa
open Go Go.Ev
def Gj:List Value:=Qa 128 (.int .u8 0) ++ ([.int .u32 0,.int .u32 0] ++ Qa 64 (.int .u8 0))
def zMac:List Value := .pointer none :: Qa 64 (.int .u8 0)
abbrev kt (n:Nat):Operand := .tmp n
abbrev ki (n:Int):Operand := .const (.int .i64 n)
abbrev ko (n:Nat) (o:AOp):AOper:=AOper.mk (some n) o none
abbrev kq (o:AOp):AOper:=AOper.mk none o none
abbrev kr (l:List AOper) (k:List Nat):ACode := .region l (some k) []
def a16:AFun:=⟨(.seq (kr [ko 1 (.box (kt 0)),ko 2 (.alloc (Qa 32 (.int .u8 0)))] [1,2]) (.seq (kr [ko 3 (.indexAddr 32 1 (kt 1) (ki 0)),ko 4 (.load none (kt 3)),ko 5 (.bin .and (kt 4) (.const (.int .u8 248))),ko 6 (.indexAddr 32 1 (kt 1) (ki 0)),kq (.store 1 (kt 6) (kt 5))] [1,2]) (.seq (kr [ko 7 (.indexAddr 32 1 (kt 1) (ki 31)),ko 8 (.load none (kt 7)),ko 9 (.bin .and (kt 8) (.const (.int .u8 127))),ko 10 (.bin .or (kt 9) (.const (.int .u8 64))),ko 11 (.indexAddr 32 1 (kt 1) (ki 31)),kq (.store 1 (kt 11) (kt 10))] [1,2]) (.seq (kr [ko 12 (.load (some 32) (kt 1)),kq (.store 32 (kt 2) (kt 12))] [2]) .ret)))),[(2,(some (some 32)))]⟩
def Qi3:ACode:=(.seq (kr [ko 9 (.bin .lss (kt 8) (kt 7))] [2,3,6,7,8,9]) (.seq (.cond (kt 9) .skip (.exit 0)) (.seq (.block 1 (.seq (kr [ko 10 (.indexSl 1 (kt 6) (kt 8)),ko 11 (.load none (kt 10)),ko 5 (.move (kt 11))] [2,3,5,6,7,8]) (kr [ko 12 (.move (kt 3)),ko 13 (.move (kt 5)),ko 14 (.append 1 1 (kt 12) (kt 13)),ko 3 (.move (kt 14))] [2,3,6,7,8]))) (kr [ko 15 (.bin .add (kt 8) (ki 1)),ko 8 (.move (kt 15))] [2,3,6,7,8]))))
def a17:AFun:=⟨(.seq (kr [ko 2 (.alloc (Qa 32 (.int .u8 0)))] [0,2]) (.seq (kr [ko 3 (.move (.const (.slice none 0 0)))] [0,2,3]) (.seq (.seq (kr [ko 6 (.move (kt 0)),ko 7 (.len false (kt 6)),ko 8 (.move (ki 0))] [2,3,6,7,8]) (.block 0 (.loop Qi3))) (.seq (kr [ko 16 (.move (kt 3)),ko 17 (.call 57 [(kt 16)] false),ko 18 (.call 60 [(kt 17)] false),ko 19 (.call 61 [(kt 18)] false),kq (.store 32 (kt 2) (kt 19))] [2]) .ret)))),[(2,(some (some 32)))]⟩
def a19:AFun:=⟨(.seq (kr [ko 3 (.box (kt 0)),ko 4 (.box (kt 1)),ko 5 (.box (kt 2)),ko 6 (.alloc (Qa 32 (.int .u8 0)))] [3,4,5,6]) (.seq (kr [ko 7 (.sliceArr 32 1 (kt 3) none none none),ko 8 (.call 57 [(kt 7)] false),ko 9 (.sliceArr 32 1 (kt 4) none none none),ko 10 (.call 57 [(kt 9)] false),ko 11 (.call 58 [(kt 8),(kt 10)] false),ko 12 (.sliceArr 32 1 (kt 5) none none none),ko 13 (.call 57 [(kt 12)] false),ko 14 (.call 59 [(kt 11),(kt 13)] false),ko 15 (.call 60 [(kt 14)] false),ko 16 (.call 61 [(kt 15)] false),kq (.store 32 (kt 6) (kt 16))] [6]) .ret)),[(6,(some (some 32)))]⟩
def a21:AFun:=⟨(.seq (kr [ko 1 (.box (kt 0)),ko 2 (.move (.const (.bool false)))] [1]) (.seq (kr [ko 3 (.sliceArr 32 1 (kt 1) none none none),ko 4 (.call 57 [(kt 3)] false),ko 5 (.call 84 [] false),ko 6 (.call 83 [(kt 4),(kt 5)] false),ko 2 (.move (kt 6))] [2]) .ret)),[(2,none)]⟩
def a25:AFun:=⟨(.seq (kr [ko 0 (.alloc (Qa 20 (.int .u64 0)))] [0]) (.seq (kr [ko 3 (.build (Qa 32 (.int .u8 0)) [(0,(1,(.const (.int .u8 26)))),(1,(1,(.const (.int .u8 213)))),(2,(1,(.const (.int .u8 37)))),(3,(1,(.const (.int .u8 143)))),(4,(1,(.const (.int .u8 96)))),(5,(1,(.const (.int .u8 45)))),(6,(1,(.const (.int .u8 86)))),(7,(1,(.const (.int .u8 201)))),(8,(1,(.const (.int .u8 178)))),(9,(1,(.const (.int .u8 167)))),(10,(1,(.const (.int .u8 37)))),(11,(1,(.const (.int .u8 149)))),(12,(1,(.const (.int .u8 96)))),(13,(1,(.const (.int .u8 199)))),(14,(1,(.const (.int .u8 44)))),(15,(1,(.const (.int .u8 105)))),(16,(1,(.const (.int .u8 92)))),(17,(1,(.const (.int .u8 220)))),(18,(1,(.const (.int .u8 214)))),(19,(1,(.const (.int .u8 253)))),(20,(1,(.const (.int .u8 49)))),(21,(1,(.const (.int .u8 226)))),(22,(1,(.const (.int .u8 164)))),(23,(1,(.const (.int .u8 192)))),(24,(1,(.const (.int .u8 254)))),(25,(1,(.const (.int .u8 83)))),(26,(1,(.const (.int .u8 110)))),(27,(1,(.const (.int .u8 205)))),(28,(1,(.const (.int .u8 211)))),(29,(1,(.const (.int .u8 54)))),(30,(1,(.const (.int .u8 105)))),(31,(1,(.const (.int .u8 33))))]),ko 4 (.call 36 [(kt 3)] true),ko 1 (.alloc (Qa 5 (.int .u64 0))),kq (.store 5 (kt 1) (kt 4))] [0,1]) (.seq (kr [ko 5 (.build (Qa 32 (.int .u8 0)) [(0,(1,(.const (.int .u8 88)))),(1,(1,(.const (.int .u8 102)))),(2,(1,(.const (.int .u8 102)))),(3,(1,(.const (.int .u8 102)))),(4,(1,(.const (.int .u8 102)))),(5,(1,(.const (.int .u8 102)))),(6,(1,(.const (.int .u8 102)))),(7,(1,(.const (.int .u8 102)))),(8,(1,(.const (.int .u8 102)))),(9,(1,(.const (.int .u8 102)))),(10,(1,(.const (.int .u8 102)))),(11,(1,(.const (.int .u8 102)))),(12,(1,(.const (.int .u8 102)))),(13,(1,(.const (.int .u8 102)))),(14,(1,(.const (.int .u8 102)))),(15,(1,(.const (.int .u8 102)))),(16,(1,(.const (.int .u8 102)))),(17,(1,(.const (.int .u8 102)))),(18,(1,(.const (.int .u8 102)))),(19,(1,(.const (.int .u8 102)))),(20,(1,(.const (.int .u8 102)))),(21,(1,(.const (.int .u8 102)))),(22,(1,(.const (.int .u8 102)))),(23,(1,(.const (.int .u8 102)))),(24,(1,(.const (.int .u8 102)))),(25,(1,(.const (.int .u8 102)))),(26,(1,(.const (.int .u8 102)))),(27,(1,(.const (.int .u8 102)))),(28,(1,(.const (.int .u8 102)))),(29,(1,(.const (.int .u8 102)))),(30,(1,(.const (.int .u8 102)))),(31,(1,(.const (.int .u8 102))))]),ko 6 (.call 36 [(kt 5)] true),ko 2 (.alloc (Qa 5 (.int .u64 0))),kq (.store 5 (kt 2) (kt 6))] [0,1,2]) (.seq (kr [ko 7 (.load (some 5) (kt 1)),ko 8 (.load (some 5) (kt 2)),ko 9 (.call 37 [(.const (.int .u32 1))] true),ko 10 (.load (some 5) (kt 1)),ko 11 (.load (some 5) (kt 2)),ko 12 (.call 40 [(kt 10),(kt 11)] true),ko 13 (.build (Qa 20 (.int .u64 0)) [(0,(5,(kt 7))),(5,(5,(kt 8))),(10,(5,(kt 9))),(15,(5,(kt 12)))]),kq (.store 20 (kt 0) (kt 13))] [0]) .ret)))),[(0,(some (some 20)))]⟩
def Qfs:ACode:=(.seq (.seq (kr [ko 10 (.move (kt 7)),ko 11 (.bin .geq (kt 10) (ki 0))] [2,3,4,5,6,7,11]) (.cond (kt 11) .skip (.exit 0))) (.seq (.block 1 (.seq (kr [ko 14 (.load (some 20) (kt 5)),ko 15 (.call 53 [(kt 14)] true),kq (.store 20 (kt 5) (kt 15))] [2,3,4,5,6,7]) (.seq (kr [ko 16 (.move (kt 7)),ko 17 (.bin .quo (kt 16) (ki 8)),ko 18 (.indexAddr 32 1 (kt 3) (kt 17)),ko 19 (.load none (kt 18)),ko 20 (.move (kt 7)),ko 21 (.bin .rem (kt 20) (ki 8)),ko 22 (.bin .shr (kt 19) (kt 21)),ko 23 (.bin .and (kt 22) (.const (.int .u8 1))),ko 24 (.bin .eql (kt 23) (.const (.int .u8 1)))] [2,3,4,5,6,7,24]) (.cond (kt 24) (kr [ko 25 (.load (some 20) (kt 5)),ko 26 (.load (some 20) (kt 2)),ko 27 (.load (some 5) (kt 6)),ko 28 (.call 54 [(kt 25),(kt 26),(kt 27)] true),kq (.store 20 (kt 5) (kt 28))] [2,3,4,5,6,7]) .skip)))) (kr [ko 12 (.move (kt 7)),ko 13 (.bin .sub (kt 12) (ki 1)),ko 7 (.move (kt 13))] [2,3,4,5,6,7])))
def a26:AFun:=⟨(.seq (kr [ko 2 (.box (kt 0)),ko 3 (.box (kt 1)),ko 4 (.alloc (Qa 20 (.int .u64 0)))] [2,3,4]) (.seq (kr [ko 8 (.call 51 [] true),ko 9 (.call 52 [] true),ko 5 (.alloc (Qa 20 (.int .u64 0))),ko 6 (.alloc (Qa 5 (.int .u64 0))),kq (.store 20 (kt 5) (kt 8)),kq (.store 5 (kt 6) (kt 9))] [2,3,4,5,6]) (.seq (.seq (kr [ko 7 (.move (ki 255))] [2,3,4,5,6,7]) (.block 0 (.loop Qfs))) (.seq (kr [ko 29 (.load (some 20) (kt 5)),kq (.store 20 (kt 4) (kt 29))] [4]) .ret)))),[(4,(some (some 20)))]⟩
def Qi2:ACode:=(.seq (kr [ko 12 (.bin .lss (kt 11) (kt 10))] [2,3,4,9,10,11,12]) (.seq (.cond (kt 12) .skip (.exit 0)) (.seq (.block 1 (.seq (kr [ko 13 (.indexSl 20 (kt 9) (kt 11)),ko 14 (.load (some 20) (kt 13)),ko 6 (.alloc (Qa 20 (.int .u64 0))),kq (.store 20 (kt 6) (kt 14))] [2,3,4,6,9,10,11]) (kr [ko 15 (.load (some 20) (kt 3)),ko 16 (.load (some 20) (kt 6)),ko 17 (.load (some 5) (kt 4)),ko 18 (.call 54 [(kt 15),(kt 16),(kt 17)] true),kq (.store 20 (kt 3) (kt 18))] [2,3,4,9,10,11]))) (kr [ko 19 (.bin .add (kt 11) (ki 1)),ko 11 (.move (kt 19))] [2,3,4,9,10,11]))))
def a27:AFun:=⟨(.seq (kr [ko 2 (.alloc (Qa 20 (.int .u64 0)))] [0,2]) (.seq (kr [ko 7 (.call 51 [] true),ko 8 (.call 52 [] true),ko 3 (.alloc (Qa 20 (.int .u64 0))),ko 4 (.alloc (Qa 5 (.int .u64 0))),kq (.store 20 (kt 3) (kt 7)),kq (.store 5 (kt 4) (kt 8))] [0,2,3,4]) (.seq (.seq (kr [ko 9 (.move (kt 0)),ko 10 (.len false (kt 9)),ko 11 (.move (ki 0))] [2,3,4,9,10,11]) (.block 0 (.loop Qi2))) (.seq (kr [ko 20 (.load (some 20) (kt 3)),kq (.store 20 (kt 2) (kt 20))] [2]) .ret)))),[(2,(some (some 20)))]⟩
def a28:AFun:=⟨(.seq (kr [ko 2 (.box (kt 0)),ko 3 (.box (kt 1)),ko 4 (.move (.const (.bool false)))] [2,3]) (.seq (kr [ko 5 (.fieldAddr 0 (kt 2)),ko 6 (.load (some 5) (kt 5)),ko 7 (.fieldAddr 10 (kt 3)),ko 8 (.load (some 5) (kt 7)),ko 9 (.call 40 [(kt 6),(kt 8)] true),ko 10 (.fieldAddr 0 (kt 3)),ko 11 (.load (some 5) (kt 10)),ko 12 (.fieldAddr 10 (kt 2)),ko 13 (.load (some 5) (kt 12)),ko 14 (.call 40 [(kt 11),(kt 13)] true),ko 15 (.call 98 [(kt 9),(kt 14)] true),ko 16 (.move (kt 15)),.mk (some 17) (.fieldAddr 5 (kt 2)) (some (16,true)),.mk (some 18) (.load (some 5) (kt 17)) (some (16,true)),.mk (some 19) (.fieldAddr 10 (kt 3)) (some (16,true)),.mk (some 20) (.load (some 5) (kt 19)) (some (16,true)),.mk (some 21) (.call 40 [(kt 18),(kt 20)] true) (some (16,true)),.mk (some 22) (.fieldAddr 5 (kt 3)) (some (16,true)),.mk (some 23) (.load (some 5) (kt 22)) (some (16,true)),.mk (some 24) (.fieldAddr 10 (kt 2)) (some (16,true)),.mk (some 25) (.load (some 5) (kt 24)) (some (16,true)),.mk (some 26) (.call 40 [(kt 23),(kt 25)] true) (some (16,true)),.mk (some 27) (.call 98 [(kt 21),(kt 26)] true) (some (16,true)),ko 28 (.pick (kt 16) (kt 27) (.const (.bool false))),ko 4 (.move (kt 28))] [4]) .ret)),[(4,none)]⟩
def a29:AFun:=⟨(.seq (kr [ko 1 (.box (kt 0)),ko 2 (.alloc (Qa 32 (.int .u8 0)))] [1,2]) (.seq (kr [ko 5 (.fieldAddr 10 (kt 1)),ko 6 (.load (some 5) (kt 5)),ko 7 (.call 41 [(kt 6)] true),ko 3 (.alloc (Qa 5 (.int .u64 0))),kq (.store 5 (kt 3) (kt 7))] [1,2,3]) (.seq (kr [ko 8 (.fieldAddr 5 (kt 1)),ko 9 (.load (some 5) (kt 8)),ko 10 (.load (some 5) (kt 3)),ko 11 (.call 40 [(kt 9),(kt 10)] true),ko 12 (.call 42 [(kt 11)] true),ko 4 (.alloc (Qa 32 (.int .u8 0))),kq (.store 32 (kt 4) (kt 12))] [1,2,3,4]) (.seq (.seq (kr [ko 13 (.fieldAddr 0 (kt 1)),ko 14 (.load (some 5) (kt 13)),ko 15 (.load (some 5) (kt 3)),ko 16 (.call 40 [(kt 14),(kt 15)] true),ko 17 (.call 55 [(kt 16)] true)] [2,4,17]) (.cond (kt 17) (kr [ko 18 (.indexAddr 32 1 (kt 4) (ki 31)),ko 19 (.load none (kt 18)),ko 20 (.bin .or (kt 19) (.const (.int .u8 128))),ko 21 (.indexAddr 32 1 (kt 4) (ki 31)),kq (.store 1 (kt 21) (kt 20))] [2,4]) .skip)) (.seq (kr [ko 22 (.load (some 32) (kt 4)),kq (.store 32 (kt 2) (kt 22))] [2]) .ret))))),[(2,(some (some 32)))]⟩
def a30:AFun:=⟨(.seq (kr [ko 0 (.alloc (Qa 20 (.int .u64 0)))] [0]) (.seq (kr [ko 1 (.call 37 [(.const (.int .u32 1))] true),ko 2 (.call 37 [(.const (.int .u32 1))] true),ko 3 (.build (Qa 20 (.int .u64 0)) [(5,(5,(kt 1))),(10,(5,(kt 2)))]),kq (.store 20 (kt 0) (kt 3))] [0]) .ret)),[(0,(some (some 20)))]⟩
def a31:AFun:=⟨(.seq (kr [ko 1 (.box (kt 0)),ko 2 (.alloc (Qa 20 (.int .u64 0))),ko 3 (.move (ki 0))] [1,2]) (.seq (kr [ko 9 (.indexAddr 32 1 (kt 1) (ki 31)),ko 10 (.load none (kt 9)),ko 11 (.bin .shr (kt 10) (.const (.int .u64 7))),ko 12 (.bin .eql (kt 11) (.const (.int .u8 1))),ko 4 (.move (kt 12))] [1,2,4]) (.seq (kr [ko 13 (.indexAddr 32 1 (kt 1) (ki 31)),ko 14 (.load none (kt 13)),ko 15 (.bin .and (kt 14) (.const (.int .u8 127))),ko 16 (.indexAddr 32 1 (kt 1) (ki 31)),kq (.store 1 (kt 16) (kt 15))] [1,2,4]) (.seq (kr [ko 17 (.load (some 32) (kt 1)),ko 18 (.call 36 [(kt 17)] true),ko 5 (.alloc (Qa 5 (.int .u64 0))),kq (.store 5 (kt 5) (kt 18))] [1,2,4,5]) (.seq (.seq (kr [ko 19 (.load (some 32) (kt 1)),ko 20 (.call 78 [(kt 19)] true),ko 21 (.un .not (kt 20))] [2,4,5,21]) (.cond (kt 21) (.seq (kr [ko 22 (.build (Qa 20 (.int .u64 0)) []),kq (.store 20 (kt 2) (kt 22)),ko 3 (.move (ki 60))] [2,3]) .ret) .skip)) (.seq (kr [ko 23 (.load (some 5) (kt 5)),ko 24 (.load (some 5) (kt 5)),ko 25 (.call 40 [(kt 23),(kt 24)] true),ko 6 (.alloc (Qa 5 (.int .u64 0))),kq (.store 5 (kt 6) (kt 25))] [2,4,5,6]) (.seq (kr [ko 27 (.load (some 5) (kt 6)),ko 28 (.call 37 [(.const (.int .u32 1))] true),ko 29 (.call 69 [(kt 27),(kt 28)] true),ko 30 (.call 52 [] true),ko 31 (.load (some 5) (kt 6)),ko 32 (.call 40 [(kt 30),(kt 31)] true),ko 33 (.call 37 [(.const (.int .u32 1))] true),ko 34 (.buildSlice (Qa 10 (.int .u64 0)) 2 [(0,(5,(kt 32))),(5,(5,(kt 33)))]),ko 35 (.call 68 [(kt 34)] false),ko 36 (.call 79 [(kt 29),(kt 35)] true),ko 26 (.move (kt 36)),ko 37 (.extract (kt 26) 0),ko 38 (.extract (kt 26) 1),ko 7 (.alloc (Qa 5 (.int .u64 0))),kq (.store 5 (kt 7) (kt 37)),ko 8 (.move (kt 38))] [2,4,5,7,8]) (.seq (.seq (kr [ko 39 (.move (kt 8)),ko 40 (.un .not (kt 39)),ko 41 (.move (kt 40)),.mk (some 42) (.move (kt 4)) (some (41,false)),.mk (some 43) (.move (kt 42)) (some (41,false)),.mk (some 44) (.load (some 5) (kt 7)) (some (43,true)),.mk (some 45) (.call 80 [(kt 44)] true) (some (43,true)),.mk (some 46) (.pick (kt 43) (kt 45) (.const (.bool false))) (some (41,false)),ko 47 (.pick (kt 41) (.const (.bool true)) (kt 46))] [2,4,5,7,47]) (.cond (kt 47) (.seq (kr [ko 48 (.build (Qa 20 (.int .u64 0)) []),kq (.store 20 (kt 2) (kt 48)),ko 3 (.move (ki 60))] [2,3]) .ret) .skip)) (.seq (.seq (kr [ko 49 (.move (kt 4))] [2,5,7,49]) (.cond (kt 49) (kr [ko 50 (.load (some 5) (kt 7)),ko 51 (.call 81 [(kt 50)] true),kq (.store 5 (kt 7) (kt 51))] [2,5,7]) .skip)) (.seq (kr [ko 52 (.load (some 5) (kt 7)),ko 53 (.load (some 5) (kt 5)),ko 54 (.call 37 [(.const (.int .u32 1))] true),ko 55 (.load (some 5) (kt 7)),ko 56 (.load (some 5) (kt 5)),ko 57 (.call 40 [(kt 55),(kt 56)] true),ko 58 (.build (Qa 20 (.int .u64 0)) [(0,(5,(kt 52))),(5,(5,(kt 53))),(10,(5,(kt 54))),(15,(5,(kt 57)))]),kq (.store 20 (kt 2) (kt 58)),ko 3 (.move (ki 0))] [2,3]) .ret)))))))))),[(2,(some (some 20))),(3,none)]⟩
def a34:AFun:=⟨(.seq (kr [ko 1 (.box (kt 0)),ko 2 (.alloc (Qa 20 (.int .u64 0)))] [1,2]) (.seq (kr [ko 3 (.fieldAddr 0 (kt 1)),ko 4 (.load (some 5) (kt 3)),ko 5 (.call 81 [(kt 4)] true),ko 6 (.fieldAddr 5 (kt 1)),ko 7 (.load (some 5) (kt 6)),ko 8 (.fieldAddr 10 (kt 1)),ko 9 (.load (some 5) (kt 8)),ko 10 (.fieldAddr 15 (kt 1)),ko 11 (.load (some 5) (kt 10)),ko 12 (.call 81 [(kt 11)] true),ko 13 (.build (Qa 20 (.int .u64 0)) [(0,(5,(kt 5))),(5,(5,(kt 7))),(10,(5,(kt 9))),(15,(5,(kt 12)))]),kq (.store 20 (kt 2) (kt 13))] [2]) .ret)),[(2,(some (some 20)))]⟩
def a39:AFun:=⟨(.seq (kr [ko 1 (.box (kt 0)),ko 2 (.move (.const (.bool false)))] [1]) (.seq (kr [ko 3 (.load (some 20) (kt 1)),ko 4 (.call 53 [(kt 3)] true),ko 5 (.call 53 [(kt 4)] true),ko 6 (.call 53 [(kt 5)] true),ko 7 (.call 51 [] true),ko 8 (.call 82 [(kt 6),(kt 7)] true),ko 2 (.move (kt 8))] [2]) .ret)),[(2,none)]⟩
def Qdd:ACode:=(.seq (kr [ko 14 (.bin .lss (kt 13) (kt 12))] [3,11,12,13,14]) (.seq (.cond (kt 14) .skip (.exit 0)) (.seq (.block 1 (.seq (kr [ko 15 (.move (kt 13)),ko 16 (.indexSl 1 (kt 11) (kt 13)),ko 17 (.load none (kt 16)),ko 4 (.move (kt 15)),ko 5 (.move (kt 17))] [3,4,5,11,12,13]) (kr [ko 18 (.move (kt 3)),ko 19 (.move (kt 4)),ko 20 (.bin .quo (kt 19) (ki 4)),ko 21 (.indexSl 1 (kt 18) (kt 20)),ko 22 (.load none (kt 21)),ko 23 (.move (kt 5)),ko 24 (.conv .u32 (kt 23)),ko 25 (.move (kt 4)),ko 26 (.bin .rem (kt 25) (ki 4)),ko 27 (.bin .mul (ki 8) (kt 26)),ko 28 (.bin .shl (kt 24) (kt 27)),ko 29 (.bin .or (kt 22) (kt 28)),ko 30 (.indexSl 1 (kt 18) (kt 20)),kq (.store 1 (kt 30) (kt 29))] [3,11,12,13]))) (kr [ko 31 (.bin .add (kt 13) (ki 1)),ko 13 (.move (kt 31))] [3,11,12,13]))))
def a40:AFun:=⟨(.seq (kr [ko 2 (.move (.const (.slice none 0 0)))] [0]) (.seq (kr [ko 6 (.move (kt 0)),ko 7 (.len false (kt 6)),ko 8 (.bin .add (kt 7) (ki 3)),ko 9 (.bin .quo (kt 8) (ki 4)),ko 10 (.makeSlice [(.int .u32 0)] 4 (kt 9) (kt 9)),ko 3 (.move (kt 10))] [0,3]) (.seq (.seq (kr [ko 11 (.move (kt 0)),ko 12 (.len false (kt 11)),ko 13 (.move (ki 0))] [3,11,12,13]) (.block 0 (.loop Qdd))) (.seq (kr [ko 32 (.move (kt 3)),ko 2 (.move (kt 32))] [2]) .ret)))),[(2,none)]⟩
def M0:ACode:=(.seq (kr [ko 55 (.bin .lss (kt 54) (kt 53))] [0,3,4,5,6,9,53,54,55]) (.seq (.cond (kt 55) .skip (.exit 4)) (.seq (.block 5 (.seq (kr [ko 56 (.move (kt 54)),ko 10 (.move (kt 56))] [0,3,4,5,6,9,10,53,54]) (kr [ko 58 (.move (kt 5)),ko 59 (.move (kt 10)),ko 60 (.move (kt 3)),ko 61 (.move (kt 10)),ko 62 (.indexSl 1 (kt 60) (kt 61)),ko 63 (.load none (kt 62)),ko 64 (.move (kt 4)),ko 65 (.move (kt 10)),ko 66 (.indexSl 1 (kt 64) (kt 65)),ko 67 (.load none (kt 66)),ko 68 (.move (kt 9)),ko 69 (.call 89 [(kt 63),(kt 67),(kt 68)] true),ko 57 (.move (kt 69)),ko 70 (.extract (kt 57) 0),ko 71 (.extract (kt 57) 1),ko 72 (.indexSl 1 (kt 58) (kt 59)),kq (.store 1 (kt 72) (kt 70)),ko 9 (.move (kt 71))] [0,3,4,5,6,9,53,54]))) (kr [ko 73 (.bin .add (kt 54) (ki 1)),ko 54 (.move (kt 73))] [0,3,4,5,6,9,53,54]))))
def Mz:ACode:=(.seq (kr [ko 34 (.bin .lss (kt 33) (kt 32))] [0,3,4,5,6,7,32,33,34]) (.seq (.cond (kt 34) .skip (.exit 2)) (.seq (.block 3 (.seq (kr [ko 35 (.move (kt 33)),ko 8 (.move (kt 35))] [0,3,4,5,6,7,8,32,33]) (kr [ko 36 (.move (kt 3)),ko 37 (.move (kt 8)),ko 38 (.move (kt 3)),ko 39 (.move (kt 8)),ko 40 (.indexSl 1 (kt 38) (kt 39)),ko 41 (.load none (kt 40)),ko 42 (.bin .shl (kt 41) (.const (.int .u64 1))),ko 43 (.move (kt 7)),ko 44 (.bin .or (kt 42) (kt 43)),ko 45 (.move (kt 3)),ko 46 (.move (kt 8)),ko 47 (.indexSl 1 (kt 45) (kt 46)),ko 48 (.load none (kt 47)),ko 49 (.bin .shr (kt 48) (.const (.int .u64 31))),ko 50 (.indexSl 1 (kt 36) (kt 37)),kq (.store 1 (kt 50) (kt 44)),ko 7 (.move (kt 49))] [0,3,4,5,6,7,32,33]))) (kr [ko 51 (.bin .add (kt 33) (ki 1)),ko 33 (.move (kt 51))] [0,3,4,5,6,7,32,33]))))
def Hr:ACode:=(.seq (.seq (kr [ko 18 (.move (kt 6)),ko 19 (.bin .geq (kt 18) (ki 0))] [0,3,4,5,6,19]) (.cond (kt 19) .skip (.exit 0))) (.seq (.block 1 (.seq (kr [ko 22 (.move (kt 0)),ko 23 (.move (kt 6)),ko 24 (.bin .quo (kt 23) (ki 32)),ko 25 (.indexSl 1 (kt 22) (kt 24)),ko 26 (.load none (kt 25)),ko 27 (.move (kt 6)),ko 28 (.bin .rem (kt 27) (ki 32)),ko 29 (.bin .shr (kt 26) (kt 28)),ko 30 (.bin .and (kt 29) (.const (.int .u32 1))),ko 7 (.move (kt 30))] [0,3,4,5,6,7]) (.seq (.seq (kr [ko 31 (.move (kt 3)),ko 32 (.len false (kt 31)),ko 33 (.move (ki 0))] [0,3,4,5,6,7,32,33]) (.block 2 (.loop Mz))) (.seq (kr [ko 9 (.move (.const (.int .u32 0)))] [0,3,4,5,6,9]) (.seq (.seq (kr [ko 52 (.move (kt 3)),ko 53 (.len false (kt 52)),ko 54 (.move (ki 0))] [0,3,4,5,6,9,53,54]) (.block 4 (.loop M0))) (.seq (kr [ko 74 (.move (kt 9)),ko 75 (.bin .eql (kt 74) (.const (.int .u32 0)))] [0,3,4,5,6,75]) (.cond (kt 75) (kr [ko 76 (.move (kt 5)),ko 77 (.move (kt 3)),ko 3 (.move (kt 76)),ko 5 (.move (kt 77))] [0,3,4,5,6]) .skip))))))) (kr [ko 20 (.move (kt 6)),ko 21 (.bin .sub (kt 20) (ki 1)),ko 6 (.move (kt 21))] [0,3,4,5,6])))
def a41:AFun:=⟨(.seq (kr [ko 2 (.move (.const (.slice none 0 0)))] [0]) (.seq (kr [ko 11 (.makeSlice [(.int .u32 0)] 4 (ki 8) (ki 8)),ko 12 (.call 84 [] false),ko 13 (.makeSlice [(.int .u32 0)] 4 (ki 8) (ki 8)),ko 3 (.move (kt 11)),ko 4 (.move (kt 12)),ko 5 (.move (kt 13))] [0,3,4,5]) (.seq (.seq (kr [ko 14 (.move (kt 0)),ko 15 (.len false (kt 14)),ko 16 (.bin .mul (ki 32) (kt 15)),ko 17 (.bin .sub (kt 16) (ki 1)),ko 6 (.move (kt 17))] [0,3,4,5,6]) (.block 0 (.loop Hr))) (.seq (kr [ko 78 (.move (kt 3)),ko 2 (.move (kt 78))] [2]) .ret)))),[(2,none)]⟩
def Qi1:ACode:=(.seq (kr [ko 6 (.bin .lss (kt 5) (ki 32))] [0,2,3,5,6]) (.seq (.cond (kt 6) .skip (.exit 0)) (.seq (.block 1 (.seq (kr [ko 7 (.move (kt 5)),ko 4 (.move (kt 7))] [0,2,3,4,5]) (kr [ko 8 (.move (kt 4)),ko 9 (.move (kt 0)),ko 10 (.move (kt 4)),ko 11 (.bin .quo (kt 10) (ki 4)),ko 12 (.indexSl 1 (kt 9) (kt 11)),ko 13 (.load none (kt 12)),ko 14 (.move (kt 4)),ko 15 (.bin .rem (kt 14) (ki 4)),ko 16 (.bin .mul (ki 8) (kt 15)),ko 17 (.bin .shr (kt 13) (kt 16)),ko 18 (.conv .u8 (kt 17)),ko 19 (.indexAddr 32 1 (kt 3) (kt 8)),kq (.store 1 (kt 19) (kt 18))] [0,2,3,5]))) (kr [ko 20 (.bin .add (kt 5) (ki 1)),ko 5 (.move (kt 20))] [0,2,3,5]))))
def a42:AFun:=⟨(.seq (kr [ko 2 (.alloc (Qa 32 (.int .u8 0)))] [0,2]) (.seq (kr [ko 3 (.alloc (Qa 32 (.int .u8 0)))] [0,2,3]) (.seq (.seq (kr [ko 5 (.move (ki 0))] [0,2,3,5]) (.block 0 (.loop Qi1))) (.seq (kr [ko 21 (.load (some 32) (kt 3)),kq (.store 32 (kt 2) (kt 21))] [2]) .ret)))),[(2,(some (some 32)))]⟩
def Qi0:ACode:=(.seq (kr [ko 27 (.bin .lss (kt 26) (kt 25))] [1,5,6,7,8,17,18,19,24,25,26,27]) (.seq (.cond (kt 27) .skip (.exit 2)) (.seq (.block 3 (.seq (kr [ko 28 (.move (kt 26)),ko 29 (.indexSl 1 (kt 24) (kt 26)),ko 30 (.load none (kt 29)),ko 9 (.move (kt 28)),ko 10 (.move (kt 30))] [1,5,6,7,8,9,10,17,18,19,24,25,26]) (.seq (kr [ko 31 (.move (kt 8)),ko 32 (.move (kt 5)),ko 33 (.move (kt 6)),ko 34 (.move (kt 9)),ko 35 (.bin .add (kt 33) (kt 34)),ko 36 (.indexSl 1 (kt 32) (kt 35)),ko 37 (.load none (kt 36)),ko 38 (.conv .u64 (kt 37)),ko 39 (.move (kt 7)),ko 40 (.conv .u64 (kt 39)),ko 41 (.move (kt 10)),ko 42 (.conv .u64 (kt 41)),ko 43 (.bin .mul (kt 40) (kt 42)),ko 44 (.bin .add (kt 38) (kt 43)),ko 45 (.bin .add (kt 31) (kt 44)),ko 8 (.move (kt 45))] [1,5,6,7,8,9,17,18,19,24,25,26]) (.seq (kr [ko 46 (.move (kt 5)),ko 47 (.move (kt 6)),ko 48 (.move (kt 9)),ko 49 (.bin .add (kt 47) (kt 48)),ko 50 (.move (kt 8)),ko 51 (.conv .u32 (kt 50)),ko 52 (.indexSl 1 (kt 46) (kt 49)),kq (.store 1 (kt 52) (kt 51))] [1,5,6,7,8,17,18,19,24,25,26]) (kr [ko 53 (.move (kt 8)),ko 54 (.bin .shr (kt 53) (.const (.int .u64 32))),ko 8 (.move (kt 54))] [1,5,6,7,8,17,18,19,24,25,26]))))) (kr [ko 55 (.bin .add (kt 26) (ki 1)),ko 26 (.move (kt 55))] [1,5,6,7,8,17,18,19,24,25,26]))))
def Qiz:ACode:=(.seq (kr [ko 20 (.bin .lss (kt 19) (kt 18))] [1,5,17,18,19,20]) (.seq (.cond (kt 20) .skip (.exit 0)) (.seq (.block 1 (.seq (kr [ko 21 (.move (kt 19)),ko 22 (.indexSl 1 (kt 17) (kt 19)),ko 23 (.load none (kt 22)),ko 6 (.move (kt 21)),ko 7 (.move (kt 23))] [1,5,6,7,17,18,19]) (.seq (kr [ko 8 (.move (.const (.int .u64 0)))] [1,5,6,7,8,17,18,19]) (.seq (.seq (kr [ko 24 (.move (kt 1)),ko 25 (.len false (kt 24)),ko 26 (.move (ki 0))] [1,5,6,7,8,17,18,19,24,25,26]) (.block 2 (.loop Qi0))) (kr [ko 56 (.move (kt 5)),ko 57 (.move (kt 6)),ko 58 (.move (kt 1)),ko 59 (.len false (kt 58)),ko 60 (.bin .add (kt 57) (kt 59)),ko 61 (.move (kt 8)),ko 62 (.conv .u32 (kt 61)),ko 63 (.indexSl 1 (kt 56) (kt 60)),kq (.store 1 (kt 63) (kt 62))] [1,5,17,18,19]))))) (kr [ko 64 (.bin .add (kt 19) (ki 1)),ko 19 (.move (kt 64))] [1,5,17,18,19]))))
def a44:AFun:=⟨(.seq (kr [ko 4 (.move (.const (.slice none 0 0)))] [0,1]) (.seq (kr [ko 11 (.move (kt 0)),ko 12 (.len false (kt 11)),ko 13 (.move (kt 1)),ko 14 (.len false (kt 13)),ko 15 (.bin .add (kt 12) (kt 14)),ko 16 (.makeSlice [(.int .u32 0)] 4 (kt 15) (kt 15)),ko 5 (.move (kt 16))] [0,1,5]) (.seq (.seq (kr [ko 17 (.move (kt 0)),ko 18 (.len false (kt 17)),ko 19 (.move (ki 0))] [1,5,17,18,19]) (.block 0 (.loop Qiz))) (.seq (kr [ko 65 (.move (kt 5)),ko 4 (.move (kt 65))] [4]) .ret)))),[(4,none)]⟩
def Qbm:ACode:=(.seq (kr [ko 21 (.bin .lss (kt 20) (kt 19))] [1,5,6,19,20,21]) (.seq (.cond (kt 21) .skip (.exit 0)) (.seq (.block 1 (.seq (kr [ko 22 (.move (kt 20)),ko 7 (.move (kt 22))] [1,5,6,7,19,20]) (.seq (kr [ko 8 (.move (.const (.int .u32 0)))] [1,5,6,7,8,19,20]) (.seq (.seq (kr [ko 23 (.move (kt 7)),ko 24 (.move (kt 1)),ko 25 (.len false (kt 24)),ko 26 (.bin .lss (kt 23) (kt 25))] [1,5,6,7,8,19,20,26]) (.cond (kt 26) (kr [ko 27 (.move (kt 1)),ko 28 (.move (kt 7)),ko 29 (.indexSl 1 (kt 27) (kt 28)),ko 30 (.load none (kt 29)),ko 8 (.move (kt 30))] [1,5,6,7,8,19,20]) .skip)) (kr [ko 32 (.move (kt 5)),ko 33 (.move (kt 7)),ko 34 (.move (kt 5)),ko 35 (.move (kt 7)),ko 36 (.indexSl 1 (kt 34) (kt 35)),ko 37 (.load none (kt 36)),ko 38 (.move (kt 8)),ko 39 (.move (kt 6)),ko 40 (.call 88 [(kt 37),(kt 38),(kt 39)] true),ko 31 (.move (kt 40)),ko 41 (.extract (kt 31) 0),ko 42 (.extract (kt 31) 1),ko 43 (.indexSl 1 (kt 32) (kt 33)),kq (.store 1 (kt 43) (kt 41)),ko 6 (.move (kt 42))] [1,5,6,19,20]))))) (kr [ko 44 (.bin .add (kt 20) (ki 1)),ko 20 (.move (kt 44))] [1,5,6,19,20]))))
def a45:AFun:=⟨(.seq (kr [ko 4 (.move (.const (.slice none 0 0)))] [0,1]) (.seq (kr [ko 9 (.move (kt 0)),ko 10 (.len false (kt 9)),ko 11 (.bin .add (kt 10) (ki 1)),ko 12 (.makeSlice [(.int .u32 0)] 4 (ki 0) (kt 11)),ko 13 (.move (kt 0)),ko 14 (.append 1 4 (kt 12) (kt 13)),ko 5 (.move (kt 14))] [1,5]) (.seq (kr [ko 15 (.move (kt 5)),ko 16 (.buildSlice [(.int .u32 0)] 1 [(0,(1,(.const (.int .u32 0))))]),ko 17 (.append 1 4 (kt 15) (kt 16)),ko 5 (.move (kt 17))] [1,5]) (.seq (kr [ko 6 (.move (.const (.int .u32 0)))] [1,5,6]) (.seq (.seq (kr [ko 18 (.move (kt 5)),ko 19 (.len false (kt 18)),ko 20 (.move (ki 0))] [1,5,6,19,20]) (.block 0 (.loop Qbm))) (.seq (kr [ko 45 (.move (kt 5)),ko 4 (.move (kt 45))] [4]) .ret)))))),[(4,none)]⟩
def Qiy:ACode:=(.seq (kr [ko 10 (.bin .lss (kt 9) (kt 8))] [0,1,5,8,9,10]) (.seq (.cond (kt 10) .skip (.exit 0)) (.seq (.block 1 (.seq (kr [ko 11 (.move (kt 9)),ko 6 (.move (kt 11))] [0,1,5,6,8,9]) (kr [ko 13 (.move (kt 0)),ko 14 (.move (kt 6)),ko 15 (.indexSl 1 (kt 13) (kt 14)),ko 16 (.load none (kt 15)),ko 17 (.move (kt 1)),ko 18 (.move (kt 6)),ko 19 (.indexSl 1 (kt 17) (kt 18)),ko 20 (.load none (kt 19)),ko 21 (.move (kt 5)),ko 22 (.call 89 [(kt 16),(kt 20),(kt 21)] true),ko 12 (.move (kt 22)),ko 23 (.extract (kt 12) 0),ko 24 (.extract (kt 12) 1),ko 5 (.move (kt 24))] [0,1,5,8,9]))) (kr [ko 25 (.bin .add (kt 9) (ki 1)),ko 9 (.move (kt 25))] [0,1,5,8,9]))))
def a46:AFun:=⟨(.seq (kr [ko 4 (.move (.const (.bool false)))] [0,1]) (.seq (kr [ko 5 (.move (.const (.int .u32 0)))] [0,1,5]) (.seq (.seq (kr [ko 7 (.move (kt 0)),ko 8 (.len false (kt 7)),ko 9 (.move (ki 0))] [0,1,5,8,9]) (.block 0 (.loop Qiy))) (.seq (kr [ko 26 (.move (kt 5)),ko 27 (.bin .eql (kt 26) (.const (.int .u32 1))),ko 4 (.move (kt 27))] [4]) .ret)))),[(4,none)]⟩
def a47:AFun:=⟨(.seq (kr [ko 0 (.move (.const (.slice none 0 0)))] []) (.seq (kr [ko 1 (.buildSlice (Qa 8 (.int .u32 0)) 8 [(0,(1,(.const (.int .u32 1559614445)))),(1,(1,(.const (.int .u32 1477600026)))),(2,(1,(.const (.int .u32 2734136534)))),(3,(1,(.const (.int .u32 350157278)))),(4,(1,(.const (.int .u32 0)))),(5,(1,(.const (.int .u32 0)))),(6,(1,(.const (.int .u32 0)))),(7,(1,(.const (.int .u32 268435456))))]),ko 0 (.move (kt 1))] [0]) .ret)),[(0,none)]⟩
def Qix:ACode:=(.seq (kr [ko 6 (.bin .lss (kt 5) (ki 255))] [1,2,3,5,6]) (.seq (.cond (kt 6) .skip (.exit 0)) (.seq (.block 1 (.seq (kr [ko 7 (.move (kt 5)),ko 4 (.move (kt 7))] [1,2,3,4,5]) (kr [ko 8 (.move (kt 4)),ko 9 (.bin .quo (kt 8) (ki 51)),ko 10 (.fieldAddr 0 (kt 3)),ko 11 (.indexAddr 5 1 (kt 10) (kt 9)),ko 12 (.load none (kt 11)),ko 13 (.move (kt 4)),ko 14 (.bin .quo (kt 13) (ki 8)),ko 15 (.indexAddr 32 1 (kt 1) (kt 14)),ko 16 (.load none (kt 15)),ko 17 (.move (kt 4)),ko 18 (.bin .rem (kt 17) (ki 8)),ko 19 (.bin .shr (kt 16) (kt 18)),ko 20 (.bin .and (kt 19) (.const (.int .u8 1))),ko 21 (.conv .u64 (kt 20)),ko 22 (.move (kt 4)),ko 23 (.bin .rem (kt 22) (ki 51)),ko 24 (.bin .shl (kt 21) (kt 23)),ko 25 (.bin .or (kt 12) (kt 24)),ko 26 (.fieldAddr 0 (kt 3)),ko 27 (.indexAddr 5 1 (kt 26) (kt 9)),kq (.store 1 (kt 27) (kt 25))] [1,2,3,5]))) (kr [ko 28 (.bin .add (kt 5) (ki 1)),ko 5 (.move (kt 28))] [1,2,3,5]))))
def a49:AFun:=⟨(.seq (kr [ko 1 (.box (kt 0)),ko 2 (.alloc (Qa 5 (.int .u64 0)))] [1,2]) (.seq (kr [ko 3 (.alloc (Qa 5 (.int .u64 0)))] [1,2,3]) (.seq (.seq (kr [ko 5 (.move (ki 0))] [1,2,3,5]) (.block 0 (.loop Qix))) (.seq (kr [ko 29 (.load (some 5) (kt 3)),kq (.store 5 (kt 2) (kt 29))] [2]) .ret)))),[(2,(some (some 5)))]⟩
def a50:AFun:=⟨(.seq (kr [ko 2 (.alloc (Qa 5 (.int .u64 0)))] [0,2]) (.seq (kr [ko 3 (.move (kt 0)),ko 4 (.conv .u64 (kt 3)),ko 5 (.build (Qa 5 (.int .u64 0)) [(0,(1,(kt 4)))]),ko 6 (.build (Qa 5 (.int .u64 0)) [(0,(5,(kt 5)))]),kq (.store 5 (kt 2) (kt 6))] [2]) .ret)),[(2,(some (some 5)))]⟩
def a51:AFun:=⟨(.seq (kr [ko 2 (.box (kt 0)),ko 3 (.box (kt 1)),ko 4 (.alloc (Qa 5 (.int .u64 0)))] [2,3,4]) (.seq (kr [ko 29 (.fieldAddr 0 (kt 2)),ko 30 (.fieldAddr 0 (kt 3)),ko 5 (.move (kt 29)),ko 6 (.move (kt 30))] [4,5,6]) (.seq (kr [ko 31 (.move (kt 5)),ko 32 (.nilCheck (kt 31)),ko 33 (.indexAddr 5 1 (kt 32) (ki 1)),ko 34 (.load none (kt 33)),ko 35 (.bin .mul (.const (.int .u64 19)) (kt 34)),ko 36 (.move (kt 5)),ko 37 (.nilCheck (kt 36)),ko 38 (.indexAddr 5 1 (kt 37) (ki 2)),ko 39 (.load none (kt 38)),ko 40 (.bin .mul (.const (.int .u64 19)) (kt 39)),ko 41 (.move (kt 5)),ko 42 (.nilCheck (kt 41)),ko 43 (.indexAddr 5 1 (kt 42) (ki 3)),ko 44 (.load none (kt 43)),ko 45 (.bin .mul (.const (.int .u64 19)) (kt 44)),ko 46 (.move (kt 5)),ko 47 (.nilCheck (kt 46)),ko 48 (.indexAddr 5 1 (kt 47) (ki 4)),ko 49 (.load none (kt 48)),ko 50 (.bin .mul (.const (.int .u64 19)) (kt 49)),ko 7 (.move (kt 35)),ko 8 (.move (kt 40)),ko 9 (.move (kt 45)),ko 10 (.move (kt 50))] [4,5,6,7,8,9,10]) (.seq (kr [ko 51 (.move (kt 5)),ko 52 (.nilCheck (kt 51)),ko 53 (.indexAddr 5 1 (kt 52) (ki 0)),ko 54 (.load none (kt 53)),ko 55 (.move (kt 6)),ko 56 (.nilCheck (kt 55)),ko 57 (.indexAddr 5 1 (kt 56) (ki 0)),ko 58 (.load none (kt 57)),ko 59 (.call 71 [(kt 54),(kt 58)] true),ko 60 (.move (kt 7)),ko 61 (.move (kt 6)),ko 62 (.nilCheck (kt 61)),ko 63 (.indexAddr 5 1 (kt 62) (ki 4)),ko 64 (.load none (kt 63)),ko 65 (.call 72 [(kt 59),(kt 60),(kt 64)] true),ko 66 (.move (kt 8)),ko 67 (.move (kt 6)),ko 68 (.nilCheck (kt 67)),ko 69 (.indexAddr 5 1 (kt 68) (ki 3)),ko 70 (.load none (kt 69)),ko 71 (.call 72 [(kt 65),(kt 66),(kt 70)] true),ko 72 (.move (kt 9)),ko 73 (.move (kt 6)),ko 74 (.nilCheck (kt 73)),ko 75 (.indexAddr 5 1 (kt 74) (ki 2)),ko 76 (.load none (kt 75)),ko 77 (.call 72 [(kt 71),(kt 72),(kt 76)] true),ko 78 (.move (kt 10)),ko 79 (.move (kt 6)),ko 80 (.nilCheck (kt 79)),ko 81 (.indexAddr 5 1 (kt 80) (ki 1)),ko 82 (.load none (kt 81)),ko 83 (.call 72 [(kt 77),(kt 78),(kt 82)] true),ko 11 (.alloc [(.int .u64 0),(.int .u64 0)]),kq (.store 2 (kt 11) (kt 83))] [4,5,6,8,9,10,11]) (.seq (kr [ko 84 (.move (kt 5)),ko 85 (.nilCheck (kt 84)),ko 86 (.indexAddr 5 1 (kt 85) (ki 0)),ko 87 (.load none (kt 86)),ko 88 (.move (kt 6)),ko 89 (.nilCheck (kt 88)),ko 90 (.indexAddr 5 1 (kt 89) (ki 1)),ko 91 (.load none (kt 90)),ko 92 (.call 71 [(kt 87),(kt 91)] true),ko 93 (.move (kt 5)),ko 94 (.nilCheck (kt 93)),ko 95 (.indexAddr 5 1 (kt 94) (ki 1)),ko 96 (.load none (kt 95)),ko 97 (.move (kt 6)),ko 98 (.nilCheck (kt 97)),ko 99 (.indexAddr 5 1 (kt 98) (ki 0)),ko 100 (.load none (kt 99)),ko 101 (.call 72 [(kt 92),(kt 96),(kt 100)] true),ko 102 (.move (kt 8)),ko 103 (.move (kt 6)),ko 104 (.nilCheck (kt 103)),ko 105 (.indexAddr 5 1 (kt 104) (ki 4)),ko 106 (.load none (kt 105)),ko 107 (.call 72 [(kt 101),(kt 102),(kt 106)] true),ko 108 (.move (kt 9)),ko 109 (.move (kt 6)),ko 110 (.nilCheck (kt 109)),ko 111 (.indexAddr 5 1 (kt 110) (ki 3)),ko 112 (.load none (kt 111)),ko 113 (.call 72 [(kt 107),(kt 108),(kt 112)] true),ko 114 (.move (kt 10)),ko 115 (.move (kt 6)),ko 116 (.nilCheck (kt 115)),ko 117 (.indexAddr 5 1 (kt 116) (ki 2)),ko 118 (.load none (kt 117)),ko 119 (.call 72 [(kt 113),(kt 114),(kt 118)] true),ko 12 (.alloc [(.int .u64 0),(.int .u64 0)]),kq (.store 2 (kt 12) (kt 119))] [4,5,6,9,10,11,12]) (.seq (kr [ko 120 (.move (kt 5)),ko 121 (.nilCheck (kt 120)),ko 122 (.indexAddr 5 1 (kt 121) (ki 0)),ko 123 (.load none (kt 122)),ko 124 (.move (kt 6)),ko 125 (.nilCheck (kt 124)),ko 126 (.indexAddr 5 1 (kt 125) (ki 2)),ko 127 (.load none (kt 126)),ko 128 (.call 71 [(kt 123),(kt 127)] true),ko 129 (.move (kt 5)),ko 130 (.nilCheck (kt 129)),ko 131 (.indexAddr 5 1 (kt 130) (ki 1)),ko 132 (.load none (kt 131)),ko 133 (.move (kt 6)),ko 134 (.nilCheck (kt 133)),ko 135 (.indexAddr 5 1 (kt 134) (ki 1)),ko 136 (.load none (kt 135)),ko 137 (.call 72 [(kt 128),(kt 132),(kt 136)] true),ko 138 (.move (kt 5)),ko 139 (.nilCheck (kt 138)),ko 140 (.indexAddr 5 1 (kt 139) (ki 2)),ko 141 (.load none (kt 140)),ko 142 (.move (kt 6)),ko 143 (.nilCheck (kt 142)),ko 144 (.indexAddr 5 1 (kt 143) (ki 0)),ko 145 (.load none (kt 144)),ko 146 (.call 72 [(kt 137),(kt 141),(kt 145)] true),ko 147 (.move (kt 9)),ko 148 (.move (kt 6)),ko 149 (.nilCheck (kt 148)),ko 150 (.indexAddr 5 1 (kt 149) (ki 4)),ko 151 (.load none (kt 150)),ko 152 (.call 72 [(kt 146),(kt 147),(kt 151)] true),ko 153 (.move (kt 10)),ko 154 (.move (kt 6)),ko 155 (.nilCheck (kt 154)),ko 156 (.indexAddr 5 1 (kt 155) (ki 3)),ko 157 (.load none (kt 156)),ko 158 (.call 72 [(kt 152),(kt 153),(kt 157)] true),ko 13 (.alloc [(.int .u64 0),(.int .u64 0)]),kq (.store 2 (kt 13) (kt 158))] [4,5,6,10,11,12,13]) (.seq (kr [ko 159 (.move (kt 5)),ko 160 (.nilCheck (kt 159)),ko 161 (.indexAddr 5 1 (kt 160) (ki 0)),ko 162 (.load none (kt 161)),ko 163 (.move (kt 6)),ko 164 (.nilCheck (kt 163)),ko 165 (.indexAddr 5 1 (kt 164) (ki 3)),ko 166 (.load none (kt 165)),ko 167 (.call 71 [(kt 162),(kt 166)] true),ko 168 (.move (kt 5)),ko 169 (.nilCheck (kt 168)),ko 170 (.indexAddr 5 1 (kt 169) (ki 1)),ko 171 (.load none (kt 170)),ko 172 (.move (kt 6)),ko 173 (.nilCheck (kt 172)),ko 174 (.indexAddr 5 1 (kt 173) (ki 2)),ko 175 (.load none (kt 174)),ko 176 (.call 72 [(kt 167),(kt 171),(kt 175)] true),ko 177 (.move (kt 5)),ko 178 (.nilCheck (kt 177)),ko 179 (.indexAddr 5 1 (kt 178) (ki 2)),ko 180 (.load none (kt 179)),ko 181 (.move (kt 6)),ko 182 (.nilCheck (kt 181)),ko 183 (.indexAddr 5 1 (kt 182) (ki 1)),ko 184 (.load none (kt 183)),ko 185 (.call 72 [(kt 176),(kt 180),(kt 184)] true),ko 186 (.move (kt 5)),ko 187 (.nilCheck (kt 186)),ko 188 (.indexAddr 5 1 (kt 187) (ki 3)),ko 189 (.load none (kt 188)),ko 190 (.move (kt 6)),ko 191 (.nilCheck (kt 190)),ko 192 (.indexAddr 5 1 (kt 191) (ki 0)),ko 193 (.load none (kt 192)),ko 194 (.call 72 [(kt 185),(kt 189),(kt 193)] true),ko 195 (.move (kt 10)),ko 196 (.move (kt 6)),ko 197 (.nilCheck (kt 196)),ko 198 (.indexAddr 5 1 (kt 197) (ki 4)),ko 199 (.load none (kt 198)),ko 200 (.call 72 [(kt 194),(kt 195),(kt 199)] true),ko 14 (.alloc [(.int .u64 0),(.int .u64 0)]),kq (.store 2 (kt 14) (kt 200))] [4,5,6,11,12,13,14]) (.seq (kr [ko 201 (.move (kt 5)),ko 202 (.nilCheck (kt 201)),ko 203 (.indexAddr 5 1 (kt 202) (ki 0)),ko 204 (.load none (kt 203)),ko 205 (.move (kt 6)),ko 206 (.nilCheck (kt 205)),ko 207 (.indexAddr 5 1 (kt 206) (ki 4)),ko 208 (.load none (kt 207)),ko 209 (.call 71 [(kt 204),(kt 208)] true),ko 210 (.move (kt 5)),ko 211 (.nilCheck (kt 210)),ko 212 (.indexAddr 5 1 (kt 211) (ki 1)),ko 213 (.load none (kt 212)),ko 214 (.move (kt 6)),ko 215 (.nilCheck (kt 214)),ko 216 (.indexAddr 5 1 (kt 215) (ki 3)),ko 217 (.load none (kt 216)),ko 218 (.call 72 [(kt 209),(kt 213),(kt 217)] true),ko 219 (.move (kt 5)),ko 220 (.nilCheck (kt 219)),ko 221 (.indexAddr 5 1 (kt 220) (ki 2)),ko 222 (.load none (kt 221)),ko 223 (.move (kt 6)),ko 224 (.nilCheck (kt 223)),ko 225 (.indexAddr 5 1 (kt 224) (ki 2)),ko 226 (.load none (kt 225)),ko 227 (.call 72 [(kt 218),(kt 222),(kt 226)] true),ko 228 (.move (kt 5)),ko 229 (.nilCheck (kt 228)),ko 230 (.indexAddr 5 1 (kt 229) (ki 3)),ko 231 (.load none (kt 230)),ko 232 (.move (kt 6)),ko 233 (.nilCheck (kt 232)),ko 234 (.indexAddr 5 1 (kt 233) (ki 1)),ko 235 (.load none (kt 234)),ko 236 (.call 72 [(kt 227),(kt 231),(kt 235)] true),ko 237 (.move (kt 5)),ko 238 (.nilCheck (kt 237)),ko 239 (.indexAddr 5 1 (kt 238) (ki 4)),ko 240 (.load none (kt 239)),ko 241 (.move (kt 6)),ko 242 (.nilCheck (kt 241)),ko 243 (.indexAddr 5 1 (kt 242) (ki 0)),ko 244 (.load none (kt 243)),ko 245 (.call 72 [(kt 236),(kt 240),(kt 244)] true),ko 15 (.alloc [(.int .u64 0),(.int .u64 0)]),kq (.store 2 (kt 15) (kt 245))] [4,11,12,13,14,15]) (.seq (kr [ko 247 (.load (some 2) (kt 11)),ko 248 (.call 73 [(kt 247)] true),ko 246 (.move (kt 248)),ko 249 (.extract (kt 246) 0),ko 250 (.extract (kt 246) 1),ko 16 (.move (kt 249)),ko 17 (.move (kt 250))] [4,12,13,14,15,16,17]) (.seq (kr [ko 252 (.load (some 2) (kt 12)),ko 253 (.call 73 [(kt 252)] true),ko 251 (.move (kt 253)),ko 254 (.extract (kt 251) 0),ko 255 (.extract (kt 251) 1),ko 18 (.move (kt 254)),ko 19 (.move (kt 255))] [4,13,14,15,16,17,18,19]) (.seq (kr [ko 257 (.load (some 2) (kt 13)),ko 258 (.call 73 [(kt 257)] true),ko 256 (.move (kt 258)),ko 259 (.extract (kt 256) 0),ko 260 (.extract (kt 256) 1),ko 20 (.move (kt 259)),ko 21 (.move (kt 260))] [4,14,15,16,17,18,19,20,21]) (.seq (kr [ko 262 (.load (some 2) (kt 14)),ko 263 (.call 73 [(kt 262)] true),ko 261 (.move (kt 263)),ko 264 (.extract (kt 261) 0),ko 265 (.extract (kt 261) 1),ko 22 (.move (kt 264)),ko 23 (.move (kt 265))] [4,15,16,17,18,19,20,21,22,23]) (.seq (kr [ko 267 (.load (some 2) (kt 15)),ko 268 (.call 73 [(kt 267)] true),ko 266 (.move (kt 268)),ko 269 (.extract (kt 266) 0),ko 270 (.extract (kt 266) 1),ko 24 (.move (kt 269)),ko 25 (.move (kt 270))] [4,16,17,18,19,20,21,22,23,24,25]) (.seq (kr [ko 271 (.move (kt 24)),ko 272 (.call 71 [(.const (.int .u64 19)),(kt 271)] true),ko 273 (.move (kt 17)),ko 274 (.call 74 [(kt 272),(kt 273)] true),ko 26 (.alloc [(.int .u64 0),(.int .u64 0)]),kq (.store 2 (kt 26) (kt 274))] [4,16,18,19,20,21,22,23,25,26]) (.seq (kr [ko 276 (.load (some 2) (kt 26)),ko 277 (.call 73 [(kt 276)] true),ko 275 (.move (kt 277)),ko 278 (.extract (kt 275) 0),ko 279 (.extract (kt 275) 1),ko 27 (.move (kt 278)),ko 28 (.move (kt 279))] [4,16,18,19,20,21,22,23,25,27,28]) (.seq (kr [ko 280 (.move (kt 28)),ko 281 (.move (kt 19)),ko 282 (.move (kt 16)),ko 283 (.bin .add (kt 281) (kt 282)),ko 284 (.move (kt 27)),ko 285 (.bin .add (kt 283) (kt 284)),ko 286 (.move (kt 21)),ko 287 (.move (kt 18)),ko 288 (.bin .add (kt 286) (kt 287)),ko 289 (.move (kt 23)),ko 290 (.move (kt 20)),ko 291 (.bin .add (kt 289) (kt 290)),ko 292 (.move (kt 25)),ko 293 (.move (kt 22)),ko 294 (.bin .add (kt 292) (kt 293)),ko 295 (.build (Qa 5 (.int .u64 0)) [(0,(1,(kt 280))),(1,(1,(kt 285))),(2,(1,(kt 288))),(3,(1,(kt 291))),(4,(1,(kt 294)))]),ko 296 (.build (Qa 5 (.int .u64 0)) [(0,(5,(kt 295)))]),ko 297 (.call 75 [(kt 296)] true),kq (.store 5 (kt 4) (kt 297))] [4]) .ret)))))))))))))))),[(4,(some (some 5)))]⟩
def a52:AFun:=⟨(.seq (kr [ko 0 (.alloc (Qa 5 (.int .u64 0)))] [0]) (.seq (kr [ko 1 (.build (Qa 32 (.int .u8 0)) [(0,(1,(.const (.int .u8 163)))),(1,(1,(.const (.int .u8 120)))),(2,(1,(.const (.int .u8 89)))),(3,(1,(.const (.int .u8 19)))),(4,(1,(.const (.int .u8 202)))),(5,(1,(.const (.int .u8 77)))),(6,(1,(.const (.int .u8 235)))),(7,(1,(.const (.int .u8 117)))),(8,(1,(.const (.int .u8 171)))),(9,(1,(.const (.int .u8 216)))),(10,(1,(.const (.int .u8 65)))),(11,(1,(.const (.int .u8 65)))),(12,(1,(.const (.int .u8 77)))),(13,(1,(.const (.int .u8 10)))),(14,(1,(.const (.int .u8 112)))),(15,(1,(.const (.int .u8 0)))),(16,(1,(.const (.int .u8 152)))),(17,(1,(.const (.int .u8 232)))),(18,(1,(.const (.int .u8 121)))),(19,(1,(.const (.int .u8 119)))),(20,(1,(.const (.int .u8 121)))),(21,(1,(.const (.int .u8 64)))),(22,(1,(.const (.int .u8 199)))),(23,(1,(.const (.int .u8 140)))),(24,(1,(.const (.int .u8 115)))),(25,(1,(.const (.int .u8 254)))),(26,(1,(.const (.int .u8 111)))),(27,(1,(.const (.int .u8 43)))),(28,(1,(.const (.int .u8 238)))),(29,(1,(.const (.int .u8 108)))),(30,(1,(.const (.int .u8 3)))),(31,(1,(.const (.int .u8 82))))]),ko 2 (.call 36 [(kt 1)] true),kq (.store 5 (kt 0) (kt 2))] [0]) .ret)),[(0,(some (some 5)))]⟩
def a53:AFun:=⟨(.seq (kr [ko 1 (.box (kt 0)),ko 2 (.alloc (Qa 20 (.int .u64 0)))] [1,2]) (.seq (kr [ko 11 (.fieldAddr 0 (kt 1)),ko 12 (.load (some 5) (kt 11)),ko 13 (.fieldAddr 0 (kt 1)),ko 14 (.load (some 5) (kt 13)),ko 15 (.call 40 [(kt 12),(kt 14)] true),ko 16 (.fieldAddr 5 (kt 1)),ko 17 (.load (some 5) (kt 16)),ko 18 (.fieldAddr 5 (kt 1)),ko 19 (.load (some 5) (kt 18)),ko 20 (.call 40 [(kt 17),(kt 19)] true),ko 3 (.alloc (Qa 5 (.int .u64 0))),ko 4 (.alloc (Qa 5 (.int .u64 0))),kq (.store 5 (kt 3) (kt 15)),kq (.store 5 (kt 4) (kt 20))] [1,2,3,4]) (.seq (kr [ko 21 (.call 37 [(.const (.int .u32 2))] true),ko 22 (.fieldAddr 10 (kt 1)),ko 23 (.load (some 5) (kt 22)),ko 24 (.fieldAddr 10 (kt 1)),ko 25 (.load (some 5) (kt 24)),ko 26 (.buildSlice (Qa 15 (.int .u64 0)) 3 [(0,(5,(kt 21))),(5,(5,(kt 23))),(10,(5,(kt 25)))]),ko 27 (.call 70 [(kt 26)] false),ko 5 (.alloc (Qa 5 (.int .u64 0))),kq (.store 5 (kt 5) (kt 27))] [1,2,3,4,5]) (.seq (kr [ko 28 (.load (some 5) (kt 3)),ko 29 (.load (some 5) (kt 4)),ko 30 (.buildSlice (Qa 10 (.int .u64 0)) 2 [(0,(5,(kt 28))),(5,(5,(kt 29)))]),ko 31 (.call 68 [(kt 30)] false),ko 6 (.alloc (Qa 5 (.int .u64 0))),kq (.store 5 (kt 6) (kt 31))] [1,2,3,4,5,6]) (.seq (kr [ko 32 (.fieldAddr 0 (kt 1)),ko 33 (.load (some 5) (kt 32)),ko 34 (.fieldAddr 5 (kt 1)),ko 35 (.load (some 5) (kt 34)),ko 36 (.buildSlice (Qa 10 (.int .u64 0)) 2 [(0,(5,(kt 33))),(5,(5,(kt 35)))]),ko 37 (.call 68 [(kt 36)] false),ko 7 (.alloc (Qa 5 (.int .u64 0))),kq (.store 5 (kt 7) (kt 37))] [2,3,4,5,6,7]) (.seq (kr [ko 38 (.load (some 5) (kt 6)),ko 39 (.load (some 5) (kt 7)),ko 40 (.load (some 5) (kt 7)),ko 41 (.call 40 [(kt 39),(kt 40)] true),ko 42 (.call 69 [(kt 38),(kt 41)] true),ko 8 (.alloc (Qa 5 (.int .u64 0))),kq (.store 5 (kt 8) (kt 42))] [2,3,4,5,6,8]) (.seq (kr [ko 43 (.load (some 5) (kt 3)),ko 44 (.load (some 5) (kt 4)),ko 45 (.call 69 [(kt 43),(kt 44)] true),ko 9 (.alloc (Qa 5 (.int .u64 0))),kq (.store 5 (kt 9) (kt 45))] [2,5,6,8,9]) (.seq (kr [ko 46 (.load (some 5) (kt 5)),ko 47 (.load (some 5) (kt 9)),ko 48 (.buildSlice (Qa 10 (.int .u64 0)) 2 [(0,(5,(kt 46))),(5,(5,(kt 47)))]),ko 49 (.call 68 [(kt 48)] false),ko 10 (.alloc (Qa 5 (.int .u64 0))),kq (.store 5 (kt 10) (kt 49))] [2,6,8,9,10]) (.seq (kr [ko 50 (.load (some 5) (kt 8)),ko 51 (.load (some 5) (kt 10)),ko 52 (.call 40 [(kt 50),(kt 51)] true),ko 53 (.load (some 5) (kt 9)),ko 54 (.load (some 5) (kt 6)),ko 55 (.call 40 [(kt 53),(kt 54)] true),ko 56 (.load (some 5) (kt 10)),ko 57 (.load (some 5) (kt 9)),ko 58 (.call 40 [(kt 56),(kt 57)] true),ko 59 (.load (some 5) (kt 8)),ko 60 (.load (some 5) (kt 6)),ko 61 (.call 40 [(kt 59),(kt 60)] true),ko 62 (.build (Qa 20 (.int .u64 0)) [(0,(5,(kt 52))),(5,(5,(kt 55))),(10,(5,(kt 58))),(15,(5,(kt 61)))]),kq (.store 20 (kt 2) (kt 62))] [2]) .ret))))))))),[(2,(some (some 20)))]⟩
def a54:AFun:=⟨(.seq (kr [ko 3 (.box (kt 0)),ko 4 (.box (kt 1)),ko 5 (.box (kt 2)),ko 6 (.alloc (Qa 20 (.int .u64 0)))] [3,4,5,6]) (.seq (kr [ko 15 (.fieldAddr 5 (kt 3)),ko 16 (.load (some 5) (kt 15)),ko 17 (.fieldAddr 0 (kt 3)),ko 18 (.load (some 5) (kt 17)),ko 19 (.call 69 [(kt 16),(kt 18)] true),ko 20 (.fieldAddr 5 (kt 4)),ko 21 (.load (some 5) (kt 20)),ko 22 (.fieldAddr 0 (kt 4)),ko 23 (.load (some 5) (kt 22)),ko 24 (.call 69 [(kt 21),(kt 23)] true),ko 25 (.call 40 [(kt 19),(kt 24)] true),ko 7 (.alloc (Qa 5 (.int .u64 0))),kq (.store 5 (kt 7) (kt 25))] [3,4,5,6,7]) (.seq (.region [ko 26 (.fieldAddr 5 (kt 3)),ko 27 (.load (some 5) (kt 26)),ko 28 (.fieldAddr 0 (kt 3)),ko 29 (.load (some 5) (kt 28)),ko 30 (.buildSlice (Qa 10 (.int .u64 0)) 2 [(0,(5,(kt 27))),(5,(5,(kt 29)))]),ko 31 (.call 68 [(kt 30)] false),ko 32 (.fieldAddr 5 (kt 4)),ko 33 (.load (some 5) (kt 32)),ko 34 (.fieldAddr 0 (kt 4)),ko 35 (.load (some 5) (kt 34)),ko 36 (.buildSlice (Qa 10 (.int .u64 0)) 2 [(0,(5,(kt 33))),(5,(5,(kt 35)))]),ko 37 (.call 68 [(kt 36)] false),ko 38 (.call 40 [(kt 31),(kt 37)] true),ko 8 (.alloc (Qa 5 (.int .u64 0))),kq (.store 5 (kt 8) (kt 38))] (some [3,4,5,6,7,8]) [(5,7),(5,9)]) (.seq (kr [ko 39 (.call 37 [(.const (.int .u32 2))] true),ko 40 (.load (some 5) (kt 5)),ko 41 (.fieldAddr 15 (kt 3)),ko 42 (.load (some 5) (kt 41)),ko 43 (.fieldAddr 15 (kt 4)),ko 44 (.load (some 5) (kt 43)),ko 45 (.buildSlice (Qa 20 (.int .u64 0)) 4 [(0,(5,(kt 39))),(5,(5,(kt 40))),(10,(5,(kt 42))),(15,(5,(kt 44)))]),ko 46 (.call 70 [(kt 45)] false),ko 9 (.alloc (Qa 5 (.int .u64 0))),kq (.store 5 (kt 9) (kt 46))] [3,4,6,7,8,9]) (.seq (kr [ko 47 (.call 37 [(.const (.int .u32 2))] true),ko 48 (.fieldAddr 10 (kt 3)),ko 49 (.load (some 5) (kt 48)),ko 50 (.fieldAddr 10 (kt 4)),ko 51 (.load (some 5) (kt 50)),ko 52 (.buildSlice (Qa 15 (.int .u64 0)) 3 [(0,(5,(kt 47))),(5,(5,(kt 49))),(10,(5,(kt 51)))]),ko 53 (.call 70 [(kt 52)] false),ko 10 (.alloc (Qa 5 (.int .u64 0))),kq (.store 5 (kt 10) (kt 53))] [6,7,8,9,10]) (.seq (.region [ko 54 (.load (some 5) (kt 8)),ko 55 (.load (some 5) (kt 7)),ko 56 (.call 69 [(kt 54),(kt 55)] true),ko 57 (.load (some 5) (kt 10)),ko 58 (.load (some 5) (kt 9)),ko 59 (.call 69 [(kt 57),(kt 58)] true),ko 60 (.load (some 5) (kt 10)),ko 61 (.load (some 5) (kt 9)),ko 62 (.buildSlice (Qa 10 (.int .u64 0)) 2 [(0,(5,(kt 60))),(5,(5,(kt 61)))]),ko 63 (.call 68 [(kt 62)] false),ko 64 (.load (some 5) (kt 8)),ko 65 (.load (some 5) (kt 7)),ko 66 (.buildSlice (Qa 10 (.int .u64 0)) 2 [(0,(5,(kt 64))),(5,(5,(kt 65)))]),ko 67 (.call 68 [(kt 66)] false),ko 11 (.alloc (Qa 5 (.int .u64 0))),ko 12 (.alloc (Qa 5 (.int .u64 0))),ko 13 (.alloc (Qa 5 (.int .u64 0))),ko 14 (.alloc (Qa 5 (.int .u64 0))),kq (.store 5 (kt 11) (kt 56)),kq (.store 5 (kt 12) (kt 59)),kq (.store 5 (kt 13) (kt 63)),kq (.store 5 (kt 14) (kt 67))] (some [6,11,12,13,14]) [(9,10),(9,11)]) (.seq (kr [ko 68 (.load (some 5) (kt 11)),ko 69 (.load (some 5) (kt 12)),ko 70 (.call 40 [(kt 68),(kt 69)] true),ko 71 (.load (some 5) (kt 13)),ko 72 (.load (some 5) (kt 14)),ko 73 (.call 40 [(kt 71),(kt 72)] true),ko 74 (.load (some 5) (kt 12)),ko 75 (.load (some 5) (kt 13)),ko 76 (.call 40 [(kt 74),(kt 75)] true),ko 77 (.load (some 5) (kt 11)),ko 78 (.load (some 5) (kt 14)),ko 79 (.call 40 [(kt 77),(kt 78)] true),ko 80 (.build (Qa 20 (.int .u64 0)) [(0,(5,(kt 70))),(5,(5,(kt 73))),(10,(5,(kt 76))),(15,(5,(kt 79)))]),kq (.store 20 (kt 6) (kt 80))] [6]) .ret))))))),[(6,(some (some 20)))]⟩
def a55:AFun:=⟨(.seq (kr [ko 2 (.box (kt 0)),ko 3 (.box (kt 1)),ko 4 (.move (.const (.bool false)))] [2,3]) (.seq (kr [ko 5 (.load (some 5) (kt 2)),ko 6 (.call 42 [(kt 5)] true),ko 7 (.load (some 5) (kt 3)),ko 8 (.call 42 [(kt 7)] true),ko 9 (.eqv (some (Qa 32 true)) false (kt 6) (kt 8)),ko 4 (.move (kt 9))] [4]) .ret)),[(4,none)]⟩
def a56:AFun:=⟨(.seq (kr [ko 1 (.box (kt 0)),ko 2 (.alloc (Qa 5 (.int .u64 0)))] [1,2]) (.seq (kr [ko 3 (.load (some 5) (kt 1)),ko 4 (.call 77 [(ki 255),(.const (.int .u8 20))] true),ko 5 (.call 76 [(kt 3),(kt 4)] true),kq (.store 5 (kt 2) (kt 5))] [2]) .ret)),[(2,(some (some 5)))]⟩
def Qfr:ACode:=(.seq (kr [ko 55 (.bin .lss (kt 54) (ki 255))] [1,2,6,54,55]) (.seq (.cond (kt 55) .skip (.exit 4)) (.seq (.block 5 (.seq (kr [ko 56 (.move (kt 54)),ko 8 (.move (kt 56))] [1,2,6,8,54]) (kr [ko 57 (.move (kt 8)),ko 58 (.bin .quo (kt 57) (ki 8)),ko 59 (.indexAddr 32 1 (kt 6) (kt 58)),ko 60 (.load none (kt 59)),ko 61 (.move (kt 8)),ko 62 (.bin .quo (kt 61) (ki 51)),ko 63 (.fieldAddr 0 (kt 1)),ko 64 (.indexAddr 5 1 (kt 63) (kt 62)),ko 65 (.load none (kt 64)),ko 66 (.move (kt 8)),ko 67 (.bin .rem (kt 66) (ki 51)),ko 68 (.bin .shr (kt 65) (kt 67)),ko 69 (.bin .and (kt 68) (.const (.int .u64 1))),ko 70 (.conv .u8 (kt 69)),ko 71 (.move (kt 8)),ko 72 (.bin .rem (kt 71) (ki 8)),ko 73 (.bin .shl (kt 70) (kt 72)),ko 74 (.bin .or (kt 60) (kt 73)),ko 75 (.indexAddr 32 1 (kt 6) (kt 58)),kq (.store 1 (kt 75) (kt 74))] [1,2,6,54]))) (kr [ko 76 (.bin .add (kt 54) (ki 1)),ko 54 (.move (kt 76))] [1,2,6,54]))))
def Qiw:ACode:=(.seq (kr [ko 31 (.bin .lss (kt 30) (ki 5))] [1,2,3,6,30,31]) (.seq (.cond (kt 31) .skip (.exit 2)) (.seq (.block 3 (.seq (kr [ko 32 (.move (kt 30)),ko 7 (.move (kt 32))] [1,2,3,6,7,30]) (.seq (kr [ko 33 (.move (kt 7)),ko 34 (.fieldAddr 0 (kt 1)),ko 35 (.indexAddr 5 1 (kt 34) (kt 33)),ko 36 (.load none (kt 35)),ko 37 (.move (kt 3)),ko 38 (.bin .add (kt 36) (kt 37)),ko 39 (.fieldAddr 0 (kt 1)),ko 40 (.indexAddr 5 1 (kt 39) (kt 33)),kq (.store 1 (kt 40) (kt 38))] [1,2,6,7,30]) (.seq (kr [ko 41 (.move (kt 7)),ko 42 (.fieldAddr 0 (kt 1)),ko 43 (.indexAddr 5 1 (kt 42) (kt 41)),ko 44 (.load none (kt 43)),ko 45 (.bin .shr (kt 44) (.const (.int .u64 51))),ko 3 (.move (kt 45))] [1,2,3,6,7,30]) (kr [ko 46 (.move (kt 7)),ko 47 (.fieldAddr 0 (kt 1)),ko 48 (.indexAddr 5 1 (kt 47) (kt 46)),ko 49 (.load none (kt 48)),ko 50 (.bin .and (kt 49) (.const (.int .u64 2251799813685247))),ko 51 (.fieldAddr 0 (kt 1)),ko 52 (.indexAddr 5 1 (kt 51) (kt 46)),kq (.store 1 (kt 52) (kt 50))] [1,2,3,6,30]))))) (kr [ko 53 (.bin .add (kt 30) (ki 1)),ko 30 (.move (kt 53))] [1,2,3,6,30]))))
def Qiv:ACode:=(.seq (kr [ko 15 (.bin .lss (kt 14) (ki 5))] [1,2,3,13,14,15]) (.seq (.cond (kt 15) .skip (.exit 0)) (.seq (.block 1 (.seq (kr [ko 16 (.index none 5 1 (kt 13) (kt 14)),ko 5 (.move (kt 16))] [1,2,3,5,13,14]) (kr [ko 17 (.move (kt 5)),ko 18 (.move (kt 3)),ko 19 (.bin .add (kt 17) (kt 18)),ko 20 (.bin .shr (kt 19) (.const (.int .u64 51))),ko 3 (.move (kt 20))] [1,2,3,13,14]))) (kr [ko 21 (.bin .add (kt 14) (ki 1)),ko 14 (.move (kt 21))] [1,2,3,13,14]))))
def a57:AFun:=⟨(.seq (kr [ko 1 (.box (kt 0)),ko 2 (.alloc (Qa 32 (.int .u8 0)))] [1,2]) (.seq (kr [ko 9 (.load (some 5) (kt 1)),ko 10 (.call 75 [(kt 9)] true),ko 11 (.call 75 [(kt 10)] true),kq (.store 5 (kt 1) (kt 11))] [1,2]) (.seq (kr [ko 3 (.move (.const (.int .u64 19)))] [1,2,3]) (.seq (.seq (kr [ko 12 (.fieldAddr 0 (kt 1)),ko 13 (.load (some 5) (kt 12)),ko 14 (.move (ki 0))] [1,2,3,13,14]) (.block 0 (.loop Qiv))) (.seq (kr [ko 22 (.fieldAddr 0 (kt 1)),ko 23 (.indexAddr 5 1 (kt 22) (ki 0)),ko 24 (.load none (kt 23)),ko 25 (.move (kt 3)),ko 26 (.bin .mul (.const (.int .u64 19)) (kt 25)),ko 27 (.bin .add (kt 24) (kt 26)),ko 28 (.fieldAddr 0 (kt 1)),ko 29 (.indexAddr 5 1 (kt 28) (ki 0)),kq (.store 1 (kt 29) (kt 27))] [1,2]) (.seq (kr [ko 3 (.move (.const (.int .u64 0)))] [1,2,3]) (.seq (kr [ko 6 (.alloc (Qa 32 (.int .u8 0)))] [1,2,3,6]) (.seq (.seq (kr [ko 30 (.move (ki 0))] [1,2,3,6,30]) (.block 2 (.loop Qiw))) (.seq (.seq (kr [ko 54 (.move (ki 0))] [1,2,6,54]) (.block 4 (.loop Qfr))) (.seq (kr [ko 77 (.load (some 32) (kt 6)),kq (.store 32 (kt 2) (kt 77))] [2]) .ret)))))))))),[(2,(some (some 32)))]⟩
def a58:AFun:=⟨(.seq (kr [ko 1 (.box (kt 0)),ko 2 (.move (.const (.bool false)))] [1]) (.seq (kr [ko 3 (.load (some 5) (kt 1)),ko 4 (.call 42 [(kt 3)] true),ko 5 (.index none 32 1 (kt 4) (ki 0)),ko 6 (.bin .and (kt 5) (.const (.int .u8 1))),ko 7 (.bin .eql (kt 6) (.const (.int .u8 1))),ko 2 (.move (kt 7))] [2]) .ret)),[(2,none)]⟩
def a59:AFun:=⟨(.seq (kr [ko 1 (.box (kt 0)),ko 2 (.move (.const (.bool false)))] [1]) (.seq (kr [ko 3 (.load (some 32) (kt 1)),ko 4 (.call 36 [(kt 3)] true),ko 5 (.call 42 [(kt 4)] true),ko 6 (.load (some 32) (kt 1)),ko 7 (.eqv (some (Qa 32 true)) false (kt 5) (kt 6)),ko 2 (.move (kt 7))] [2]) .ret)),[(2,none)]⟩
def a60:AFun:=⟨(.seq (kr [ko 2 (.box (kt 0)),ko 3 (.box (kt 1)),ko 4 (.alloc (Qa 5 (.int .u64 0))),ko 5 (.move (.const (.bool false)))] [2,3,4]) (.seq (kr [ko 9 (.load (some 5) (kt 3)),ko 10 (.load (some 5) (kt 3)),ko 11 (.load (some 5) (kt 3)),ko 12 (.buildSlice (Qa 15 (.int .u64 0)) 3 [(0,(5,(kt 9))),(5,(5,(kt 10))),(10,(5,(kt 11)))]),ko 13 (.call 70 [(kt 12)] false),ko 6 (.alloc (Qa 5 (.int .u64 0))),kq (.store 5 (kt 6) (kt 13))] [2,3,4,6]) (.seq (.region [ko 14 (.load (some 5) (kt 2)),ko 15 (.load (some 5) (kt 6)),ko 16 (.load (some 5) (kt 2)),ko 17 (.load (some 5) (kt 6)),ko 18 (.load (some 5) (kt 6)),ko 19 (.load (some 5) (kt 3)),ko 20 (.buildSlice (Qa 20 (.int .u64 0)) 4 [(0,(5,(kt 16))),(5,(5,(kt 17))),(10,(5,(kt 18))),(15,(5,(kt 19)))]),ko 21 (.call 70 [(kt 20)] false),ko 22 (.call 77 [(ki 252),(.const (.int .u8 2))] true),ko 23 (.call 76 [(kt 21),(kt 22)] true),ko 24 (.buildSlice (Qa 15 (.int .u64 0)) 3 [(0,(5,(kt 14))),(5,(5,(kt 15))),(10,(5,(kt 23)))]),ko 25 (.call 70 [(kt 24)] false),ko 7 (.alloc (Qa 5 (.int .u64 0))),kq (.store 5 (kt 7) (kt 25))] (some [2,3,4,7]) [(0,7),(1,7)]) (.seq (.seq (kr [ko 26 (.load (some 5) (kt 3)),ko 27 (.load (some 5) (kt 7)),ko 28 (.load (some 5) (kt 7)),ko 29 (.buildSlice (Qa 15 (.int .u64 0)) 3 [(0,(5,(kt 26))),(5,(5,(kt 27))),(10,(5,(kt 28)))]),ko 30 (.call 70 [(kt 29)] false),ko 8 (.alloc (Qa 5 (.int .u64 0))),kq (.store 5 (kt 8) (kt 30))] [2,4,7,8]) (.block 0 (.seq (kr [ko 33 (.load (some 5) (kt 8)),ko 34 (.load (some 5) (kt 2)),ko 35 (.call 98 [(kt 33),(kt 34)] true),ko 32 (.move (kt 35))] [2,4,7,8,32]) (.cond (kt 32) .skip (.seq (kr [ko 37 (.load (some 5) (kt 8)),ko 38 (.load (some 5) (kt 2)),ko 39 (.call 81 [(kt 38)] true),ko 40 (.call 98 [(kt 37),(kt 39)] true),ko 36 (.move (kt 40))] [4,7,36]) (.cond (kt 36) (kr [ko 41 (.load (some 5) (kt 7)),ko 42 (.call 37 [(.const (.int .u32 2))] true),ko 43 (.call 77 [(ki 253),(.const (.int .u8 4))] true),ko 44 (.call 76 [(kt 42),(kt 43)] true),ko 45 (.call 40 [(kt 41),(kt 44)] true),kq (.store 5 (kt 7) (kt 45))] [4,7]) (.seq (kr [ko 31 (.build (Qa 5 (.int .u64 0)) []),kq (.store 5 (kt 4) (kt 31)),ko 5 (.move (.const (.bool false)))] [4,5]) .ret))))))) (.seq (.seq (kr [ko 46 (.load (some 5) (kt 7)),ko 47 (.call 55 [(kt 46)] true)] [4,7,47]) (.cond (kt 47) (kr [ko 48 (.load (some 5) (kt 7)),ko 49 (.call 81 [(kt 48)] true),kq (.store 5 (kt 7) (kt 49))] [4,7]) .skip)) (.seq (kr [ko 50 (.load (some 5) (kt 7)),kq (.store 5 (kt 4) (kt 50)),ko 5 (.move (.const (.bool true)))] [4,5]) .ret)))))),[(4,(some (some 5))),(5,none)]⟩
def Qiu:ACode:=(.seq (kr [ko 7 (.bin .lss (kt 6) (ki 5))] [2,3,4,6,7]) (.seq (.cond (kt 7) .skip (.exit 0)) (.seq (.block 1 (.seq (kr [ko 8 (.move (kt 6)),ko 5 (.move (kt 8))] [2,3,4,5,6]) (kr [ko 9 (.move (kt 5)),ko 10 (.fieldAddr 0 (kt 2)),ko 11 (.indexAddr 5 1 (kt 10) (kt 9)),ko 12 (.load none (kt 11)),ko 13 (.move (kt 5)),ko 14 (.fieldAddr 0 (kt 3)),ko 15 (.indexAddr 5 1 (kt 14) (kt 13)),ko 16 (.load none (kt 15)),ko 17 (.bin .sub (.const (.int .u64 9007199254740988)) (kt 16)),ko 18 (.bin .add (kt 12) (kt 17)),ko 19 (.fieldAddr 0 (kt 2)),ko 20 (.indexAddr 5 1 (kt 19) (kt 9)),kq (.store 1 (kt 20) (kt 18))] [2,3,4,6]))) (kr [ko 21 (.bin .add (kt 6) (ki 1)),ko 6 (.move (kt 21))] [2,3,4,6]))))
def a61:AFun:=⟨(.seq (kr [ko 2 (.box (kt 0)),ko 3 (.box (kt 1)),ko 4 (.alloc (Qa 5 (.int .u64 0)))] [2,3,4]) (.seq (.seq (kr [ko 6 (.move (ki 0))] [2,3,4,6]) (.block 0 (.loop Qiu))) (.seq (kr [ko 22 (.fieldAddr 0 (kt 2)),ko 23 (.indexAddr 5 1 (kt 22) (ki 0)),ko 24 (.load none (kt 23)),ko 25 (.bin .sub (kt 24) (.const (.int .u64 72))),ko 26 (.fieldAddr 0 (kt 2)),ko 27 (.indexAddr 5 1 (kt 26) (ki 0)),kq (.store 1 (kt 27) (kt 25))] [2,4]) (.seq (kr [ko 28 (.load (some 5) (kt 2)),ko 29 (.call 75 [(kt 28)] true),kq (.store 5 (kt 4) (kt 29))] [4]) .ret)))),[(4,(some (some 5)))]⟩
def Qit:ACode:=(.seq (kr [ko 15 (.bin .lss (kt 14) (ki 5))] [2,3,4,5,7,8,9,14,15]) (.seq (.cond (kt 15) .skip (.exit 2)) (.seq (.block 3 (.seq (kr [ko 16 (.move (kt 14)),ko 6 (.move (kt 16))] [2,3,4,5,6,7,8,9,14]) (kr [ko 17 (.move (kt 6)),ko 18 (.fieldAddr 0 (kt 3)),ko 19 (.indexAddr 5 1 (kt 18) (kt 17)),ko 20 (.load none (kt 19)),ko 21 (.move (kt 6)),ko 22 (.fieldAddr 0 (kt 5)),ko 23 (.indexAddr 5 1 (kt 22) (kt 21)),ko 24 (.load none (kt 23)),ko 25 (.bin .add (kt 20) (kt 24)),ko 26 (.fieldAddr 0 (kt 3)),ko 27 (.indexAddr 5 1 (kt 26) (kt 17)),kq (.store 1 (kt 27) (kt 25))] [2,3,4,5,7,8,9,14]))) (kr [ko 28 (.bin .add (kt 14) (ki 1)),ko 14 (.move (kt 28))] [2,3,4,5,7,8,9,14]))))
def Qis:ACode:=(.seq (kr [ko 10 (.bin .lss (kt 9) (kt 8))] [2,3,7,8,9,10]) (.seq (.cond (kt 10) .skip (.exit 0)) (.seq (.block 1 (.seq (kr [ko 11 (.move (kt 9)),ko 12 (.indexSl 5 (kt 7) (kt 9)),ko 13 (.load (some 5) (kt 12)),ko 5 (.alloc (Qa 5 (.int .u64 0))),ko 4 (.move (kt 11)),kq (.store 5 (kt 5) (kt 13))] [2,3,4,5,7,8,9]) (.seq (.seq (kr [ko 14 (.move (ki 0))] [2,3,4,5,7,8,9,14]) (.block 2 (.loop Qit))) (.seq (kr [ko 29 (.move (kt 4)),ko 30 (.bin .rem (kt 29) (ki 64)),ko 31 (.bin .eql (kt 30) (ki 63))] [2,3,7,8,9,31]) (.cond (kt 31) (kr [ko 32 (.load (some 5) (kt 3)),ko 33 (.call 75 [(kt 32)] true),kq (.store 5 (kt 3) (kt 33))] [2,3,7,8,9]) .skip))))) (kr [ko 34 (.bin .add (kt 9) (ki 1)),ko 9 (.move (kt 34))] [2,3,7,8,9]))))
def a62:AFun:=⟨(.seq (kr [ko 2 (.alloc (Qa 5 (.int .u64 0)))] [0,2]) (.seq (kr [ko 3 (.alloc (Qa 5 (.int .u64 0)))] [0,2,3]) (.seq (.seq (kr [ko 7 (.move (kt 0)),ko 8 (.len false (kt 7)),ko 9 (.move (ki 0))] [2,3,7,8,9]) (.block 0 (.loop Qis))) (.seq (kr [ko 35 (.load (some 5) (kt 3)),ko 36 (.call 75 [(kt 35)] true),kq (.store 5 (kt 2) (kt 36))] [2]) .ret)))),[(2,(some (some 5)))]⟩
def a63:AFun:=⟨(.seq (kr [ko 1 (.box (kt 0)),ko 2 (.move (.const (.bool false)))] [1]) (.seq (kr [ko 3 (.load (some 5) (kt 1)),ko 4 (.call 42 [(kt 3)] true),ko 5 (.build (Qa 32 (.int .u8 0)) []),ko 6 (.eqv (some (Qa 32 true)) false (kt 4) (kt 5)),ko 2 (.move (kt 6))] [2]) .ret)),[(2,none)]⟩
def a64:AFun:=⟨(.seq (kr [ko 1 (.box (kt 0)),ko 2 (.alloc (Qa 5 (.int .u64 0)))] [1,2]) (.seq (kr [ko 3 (.build (Qa 5 (.int .u64 0)) []),ko 4 (.load (some 5) (kt 1)),ko 5 (.call 69 [(kt 3),(kt 4)] true),kq (.store 5 (kt 2) (kt 5))] [2]) .ret)),[(2,(some (some 5)))]⟩
def a75:AFun:=⟨(.seq (kr [ko 6 (.move (.const (.int .u32 0))),ko 7 (.move (.const (.int .u32 0)))] [0,1,2]) (.seq (kr [ko 8 (.move (kt 0)),ko 9 (.move (kt 1)),ko 10 (.bin .sub (kt 8) (kt 9)),ko 11 (.move (kt 2)),ko 12 (.bin .sub (kt 10) (kt 11)),ko 6 (.move (kt 12))] [0,1,6]) (.seq (kr [ko 13 (.move (kt 0)),ko 14 (.un .xor (kt 13)),ko 15 (.move (kt 1)),ko 16 (.bin .and (kt 14) (kt 15)),ko 17 (.move (kt 0)),ko 18 (.move (kt 1)),ko 19 (.bin .xor (kt 17) (kt 18)),ko 20 (.un .xor (kt 19)),ko 21 (.move (kt 6)),ko 22 (.bin .and (kt 20) (kt 21)),ko 23 (.bin .or (kt 16) (kt 22)),ko 24 (.bin .shr (kt 23) (.const (.int .u64 31))),ko 7 (.move (kt 24))] [6,7]) .ret))),[(6,none),(7,none)]⟩
def a76:AFun:=⟨(.seq (kr [ko 6 (.move (.const (.int .u32 0))),ko 7 (.move (.const (.int .u32 0)))] [0,1,2]) (.seq (kr [ko 9 (.move (kt 0)),ko 10 (.conv .u64 (kt 9)),ko 11 (.move (kt 1)),ko 12 (.conv .u64 (kt 11)),ko 13 (.bin .add (kt 10) (kt 12)),ko 14 (.move (kt 2)),ko 15 (.conv .u64 (kt 14)),ko 16 (.bin .add (kt 13) (kt 15)),ko 8 (.move (kt 16))] [8]) (.seq (kr [ko 17 (.move (kt 8)),ko 18 (.conv .u32 (kt 17)),ko 6 (.move (kt 18))] [6,8]) (.seq (kr [ko 19 (.move (kt 8)),ko 20 (.bin .shr (kt 19) (.const (.int .u64 32))),ko 21 (.conv .u32 (kt 20)),ko 7 (.move (kt 21))] [6,7]) .ret)))),[(6,none),(7,none)]⟩
def a77:AFun:=⟨(.seq (kr [ko 4 (.alloc [(.int .u64 0),(.int .u64 0)])] [0,1,4]) (.seq (kr [ko 8 (.move (kt 0)),ko 9 (.move (kt 1)),ko 10 (.call 96 [(kt 8),(kt 9)] true),ko 7 (.move (kt 10)),ko 11 (.extract (kt 7) 0),ko 12 (.extract (kt 7) 1),ko 5 (.move (kt 11)),ko 6 (.move (kt 12))] [4,5,6]) (.seq (kr [ko 13 (.move (kt 5)),ko 14 (.move (kt 6)),ko 15 (.build [(.int .u64 0),(.int .u64 0)] [(0,(1,(kt 13))),(1,(1,(kt 14)))]),kq (.store 2 (kt 4) (kt 15))] [4]) .ret))),[(4,(some (some 2)))]⟩
def a78:AFun:=⟨(.seq (kr [ko 3 (.box (kt 0)),ko 6 (.alloc [(.int .u64 0),(.int .u64 0)])] [1,2,3,6]) (.seq (kr [ko 11 (.move (kt 1)),ko 12 (.move (kt 2)),ko 13 (.call 96 [(kt 11),(kt 12)] true),ko 10 (.move (kt 13)),ko 14 (.extract (kt 10) 0),ko 15 (.extract (kt 10) 1),ko 7 (.move (kt 14)),ko 8 (.move (kt 15))] [3,6,7,8]) (.seq (kr [ko 17 (.fieldAddr 1 (kt 3)),ko 18 (.load none (kt 17)),ko 19 (.move (kt 8)),ko 20 (.call 97 [(kt 18),(kt 19),(.const (.int .u64 0))] true),ko 16 (.move (kt 20)),ko 21 (.extract (kt 16) 0),ko 22 (.extract (kt 16) 1),ko 8 (.move (kt 21)),ko 9 (.move (kt 22))] [3,6,7,8,9]) (.seq (kr [ko 24 (.fieldAddr 0 (kt 3)),ko 25 (.load none (kt 24)),ko 26 (.move (kt 7)),ko 27 (.move (kt 9)),ko 28 (.call 97 [(kt 25),(kt 26),(kt 27)] true),ko 23 (.move (kt 28)),ko 29 (.extract (kt 23) 0),ko 30 (.extract (kt 23) 1),ko 7 (.move (kt 29))] [6,7,8]) (.seq (kr [ko 31 (.move (kt 7)),ko 32 (.move (kt 8)),ko 33 (.build [(.int .u64 0),(.int .u64 0)] [(0,(1,(kt 31))),(1,(1,(kt 32)))]),kq (.store 2 (kt 6) (kt 33))] [6]) .ret))))),[(6,(some (some 2)))]⟩
def a79:AFun:=⟨(.seq (kr [ko 1 (.box (kt 0)),ko 2 (.move (.const (.int .u64 0))),ko 3 (.move (.const (.int .u64 0)))] [1]) (.seq (kr [ko 4 (.fieldAddr 0 (kt 1)),ko 5 (.load none (kt 4)),ko 6 (.bin .shl (kt 5) (.const (.int .u64 13))),ko 7 (.fieldAddr 1 (kt 1)),ko 8 (.load none (kt 7)),ko 9 (.bin .shr (kt 8) (.const (.int .u64 51))),ko 10 (.bin .or (kt 6) (kt 9)),ko 11 (.fieldAddr 1 (kt 1)),ko 12 (.load none (kt 11)),ko 13 (.bin .and (kt 12) (.const (.int .u64 2251799813685247))),ko 2 (.move (kt 10)),ko 3 (.move (kt 13))] [2,3]) .ret)),[(2,none),(3,none)]⟩
def a80:AFun:=⟨(.seq (kr [ko 2 (.box (kt 0)),ko 4 (.alloc [(.int .u64 0),(.int .u64 0)])] [1,2,4]) (.seq (kr [ko 8 (.fieldAddr 1 (kt 2)),ko 9 (.load none (kt 8)),ko 10 (.move (kt 1)),ko 11 (.call 97 [(kt 9),(kt 10),(.const (.int .u64 0))] true),ko 7 (.move (kt 11)),ko 12 (.extract (kt 7) 0),ko 13 (.extract (kt 7) 1),ko 5 (.move (kt 12)),ko 6 (.move (kt 13))] [2,4,5,6]) (.seq (kr [ko 14 (.fieldAddr 0 (kt 2)),ko 15 (.load none (kt 14)),ko 16 (.move (kt 6)),ko 17 (.bin .add (kt 15) (kt 16)),ko 18 (.move (kt 5)),ko 19 (.build [(.int .u64 0),(.int .u64 0)] [(0,(1,(kt 17))),(1,(1,(kt 18)))]),kq (.store 2 (kt 4) (kt 19))] [4]) .ret))),[(4,(some (some 2)))]⟩
def Qza:ACode:=(.seq (kr [ko 6 (.bin .lss (kt 5) (ki 5))] [1,2,3,5,6]) (.seq (.cond (kt 6) .skip (.exit 0)) (.seq (.block 1 (.seq (kr [ko 7 (.move (kt 5)),ko 4 (.move (kt 7))] [1,2,3,4,5]) (.seq (kr [ko 8 (.move (kt 4)),ko 9 (.fieldAddr 0 (kt 1)),ko 10 (.indexAddr 5 1 (kt 9) (kt 8)),ko 11 (.load none (kt 10)),ko 12 (.move (kt 3)),ko 13 (.bin .add (kt 11) (kt 12)),ko 14 (.fieldAddr 0 (kt 1)),ko 15 (.indexAddr 5 1 (kt 14) (kt 8)),kq (.store 1 (kt 15) (kt 13))] [1,2,4,5]) (.seq (kr [ko 16 (.move (kt 4)),ko 17 (.fieldAddr 0 (kt 1)),ko 18 (.indexAddr 5 1 (kt 17) (kt 16)),ko 19 (.load none (kt 18)),ko 20 (.bin .shr (kt 19) (.const (.int .u64 51))),ko 3 (.move (kt 20))] [1,2,3,4,5]) (kr [ko 21 (.move (kt 4)),ko 22 (.fieldAddr 0 (kt 1)),ko 23 (.indexAddr 5 1 (kt 22) (kt 21)),ko 24 (.load none (kt 23)),ko 25 (.bin .and (kt 24) (.const (.int .u64 2251799813685247))),ko 26 (.fieldAddr 0 (kt 1)),ko 27 (.indexAddr 5 1 (kt 26) (kt 21)),kq (.store 1 (kt 27) (kt 25))] [1,2,3,5]))))) (kr [ko 28 (.bin .add (kt 5) (ki 1)),ko 5 (.move (kt 28))] [1,2,3,5]))))
def a81:AFun:=⟨(.seq (kr [ko 1 (.box (kt 0)),ko 2 (.alloc (Qa 5 (.int .u64 0)))] [1,2]) (.seq (kr [ko 3 (.move (.const (.int .u64 0)))] [1,2,3]) (.seq (.seq (kr [ko 5 (.move (ki 0))] [1,2,3,5]) (.block 0 (.loop Qza))) (.seq (kr [ko 29 (.fieldAddr 0 (kt 1)),ko 30 (.indexAddr 5 1 (kt 29) (ki 0)),ko 31 (.load none (kt 30)),ko 32 (.move (kt 3)),ko 33 (.bin .mul (.const (.int .u64 19)) (kt 32)),ko 34 (.bin .add (kt 31) (kt 33)),ko 35 (.fieldAddr 0 (kt 1)),ko 36 (.indexAddr 5 1 (kt 35) (ki 0)),kq (.store 1 (kt 36) (kt 34))] [1,2]) (.seq (kr [ko 37 (.load (some 5) (kt 1)),kq (.store 5 (kt 2) (kt 37))] [2]) .ret))))),[(2,(some (some 5)))]⟩
def Qir:ACode:=(.seq (kr [ko 10 (.bin .lss (kt 9) (kt 8))] [2,3,7,8,9,10]) (.seq (.cond (kt 10) .skip (.exit 0)) (.seq (.block 1 (.seq (kr [ko 11 (.indexSl 5 (kt 7) (kt 9)),ko 12 (.load (some 5) (kt 11)),ko 5 (.alloc (Qa 5 (.int .u64 0))),kq (.store 5 (kt 5) (kt 12))] [2,3,5,7,8,9]) (kr [ko 13 (.load (some 5) (kt 3)),ko 14 (.load (some 5) (kt 5)),ko 15 (.call 40 [(kt 13),(kt 14)] true),kq (.store 5 (kt 3) (kt 15))] [2,3,7,8,9]))) (kr [ko 16 (.bin .add (kt 9) (ki 1)),ko 9 (.move (kt 16))] [2,3,7,8,9]))))
def a82:AFun:=⟨(.seq (kr [ko 2 (.alloc (Qa 5 (.int .u64 0)))] [0,2]) (.seq (kr [ko 6 (.call 37 [(.const (.int .u32 1))] true),ko 3 (.alloc (Qa 5 (.int .u64 0))),kq (.store 5 (kt 3) (kt 6))] [0,2,3]) (.seq (.seq (kr [ko 7 (.move (kt 0)),ko 8 (.len false (kt 7)),ko 9 (.move (ki 0))] [2,3,7,8,9]) (.block 0 (.loop Qir))) (.seq (kr [ko 17 (.load (some 5) (kt 3)),kq (.store 5 (kt 2) (kt 17))] [2]) .ret)))),[(2,(some (some 5)))]⟩
def Qfq:ACode:=(.seq (.seq (kr [ko 8 (.move (kt 6)),ko 9 (.bin .geq (kt 8) (ki 0))] [2,3,4,5,6,9]) (.cond (kt 9) .skip (.exit 0))) (.seq (.block 1 (.seq (kr [ko 12 (.load (some 5) (kt 5)),ko 13 (.load (some 5) (kt 5)),ko 14 (.call 40 [(kt 12),(kt 13)] true),kq (.store 5 (kt 5) (kt 14))] [2,3,4,5,6]) (.seq (kr [ko 15 (.move (kt 6)),ko 16 (.bin .quo (kt 15) (ki 8)),ko 17 (.indexAddr 32 1 (kt 3) (kt 16)),ko 18 (.load none (kt 17)),ko 19 (.move (kt 6)),ko 20 (.bin .rem (kt 19) (ki 8)),ko 21 (.bin .shr (kt 18) (kt 20)),ko 22 (.bin .and (kt 21) (.const (.int .u8 1))),ko 23 (.bin .eql (kt 22) (.const (.int .u8 1)))] [2,3,4,5,6,23]) (.cond (kt 23) (kr [ko 24 (.load (some 5) (kt 5)),ko 25 (.load (some 5) (kt 2)),ko 26 (.call 40 [(kt 24),(kt 25)] true),kq (.store 5 (kt 5) (kt 26))] [2,3,4,5,6]) .skip)))) (kr [ko 10 (.move (kt 6)),ko 11 (.bin .sub (kt 10) (ki 1)),ko 6 (.move (kt 11))] [2,3,4,5,6])))
def a83:AFun:=⟨(.seq (kr [ko 2 (.box (kt 0)),ko 3 (.box (kt 1)),ko 4 (.alloc (Qa 5 (.int .u64 0)))] [2,3,4]) (.seq (kr [ko 7 (.call 37 [(.const (.int .u32 1))] true),ko 5 (.alloc (Qa 5 (.int .u64 0))),kq (.store 5 (kt 5) (kt 7))] [2,3,4,5]) (.seq (.seq (kr [ko 6 (.move (ki 255))] [2,3,4,5,6]) (.block 0 (.loop Qfq))) (.seq (kr [ko 27 (.load (some 5) (kt 5)),kq (.store 5 (kt 4) (kt 27))] [4]) .ret)))),[(4,(some (some 5)))]⟩
def Qiq:ACode:=(.seq (kr [ko 9 (.bin .lss (kt 8) (kt 7))] [1,4,5,7,8,9]) (.seq (.cond (kt 9) .skip (.exit 0)) (.seq (.block 1 (.seq (kr [ko 10 (.move (kt 8)),ko 6 (.move (kt 10))] [1,4,5,6,7,8]) (kr [ko 11 (.move (kt 6)),ko 12 (.bin .quo (kt 11) (ki 8)),ko 13 (.indexAddr 32 1 (kt 5) (kt 12)),ko 14 (.load none (kt 13)),ko 15 (.move (kt 6)),ko 16 (.bin .rem (kt 15) (ki 8)),ko 17 (.bin .shl (.const (.int .u8 1)) (kt 16)),ko 18 (.bin .or (kt 14) (kt 17)),ko 19 (.indexAddr 32 1 (kt 5) (kt 12)),kq (.store 1 (kt 19) (kt 18))] [1,4,5,7,8]))) (kr [ko 20 (.bin .add (kt 8) (ki 1)),ko 8 (.move (kt 20))] [1,4,5,7,8]))))
def a84:AFun:=⟨(.seq (kr [ko 4 (.alloc (Qa 32 (.int .u8 0)))] [0,1,4]) (.seq (kr [ko 5 (.alloc (Qa 32 (.int .u8 0)))] [0,1,4,5]) (.seq (.seq (kr [ko 7 (.move (kt 0)),ko 8 (.move (ki 0))] [1,4,5,7,8]) (.block 0 (.loop Qiq))) (.seq (kr [ko 21 (.indexAddr 32 1 (kt 5) (ki 0)),ko 22 (.load none (kt 21)),ko 23 (.move (kt 1)),ko 24 (.bin .sub (kt 22) (kt 23)),ko 25 (.indexAddr 32 1 (kt 5) (ki 0)),kq (.store 1 (kt 25) (kt 24))] [4,5]) (.seq (kr [ko 26 (.load (some 32) (kt 5)),kq (.store 32 (kt 4) (kt 26))] [4]) .ret))))),[(4,(some (some 32)))]⟩
def a91:AFun:=⟨(.seq (kr [ko 4 (.move (.const (.int .u64 0))),ko 5 (.move (.const (.int .u64 0)))] [0,1]) (.seq (kr [ko 14 (.move (kt 0)),ko 15 (.bin .and (kt 14) (.const (.int .u64 4294967295))),ko 6 (.move (kt 15))] [0,1,6]) (.seq (kr [ko 16 (.move (kt 0)),ko 17 (.bin .shr (kt 16) (.const (.int .u64 32))),ko 7 (.move (kt 17))] [0,1,6,7]) (.seq (kr [ko 18 (.move (kt 1)),ko 19 (.bin .and (kt 18) (.const (.int .u64 4294967295))),ko 8 (.move (kt 19))] [0,1,6,7,8]) (.seq (kr [ko 20 (.move (kt 1)),ko 21 (.bin .shr (kt 20) (.const (.int .u64 32))),ko 9 (.move (kt 21))] [0,1,6,7,8,9]) (.seq (kr [ko 22 (.move (kt 6)),ko 23 (.move (kt 8)),ko 24 (.bin .mul (kt 22) (kt 23)),ko 10 (.move (kt 24))] [0,1,6,7,8,9,10]) (.seq (kr [ko 25 (.move (kt 7)),ko 26 (.move (kt 8)),ko 27 (.bin .mul (kt 25) (kt 26)),ko 28 (.move (kt 10)),ko 29 (.bin .shr (kt 28) (.const (.int .u64 32))),ko 30 (.bin .add (kt 27) (kt 29)),ko 11 (.move (kt 30))] [0,1,6,7,9,11]) (.seq (kr [ko 31 (.move (kt 11)),ko 32 (.bin .and (kt 31) (.const (.int .u64 4294967295))),ko 12 (.move (kt 32))] [0,1,6,7,9,11,12]) (.seq (kr [ko 33 (.move (kt 11)),ko 34 (.bin .shr (kt 33) (.const (.int .u64 32))),ko 13 (.move (kt 34))] [0,1,6,7,9,12,13]) (.seq (kr [ko 35 (.move (kt 12)),ko 36 (.move (kt 6)),ko 37 (.move (kt 9)),ko 38 (.bin .mul (kt 36) (kt 37)),ko 39 (.bin .add (kt 35) (kt 38)),ko 12 (.move (kt 39))] [0,1,7,9,12,13]) (.seq (kr [ko 40 (.move (kt 7)),ko 41 (.move (kt 9)),ko 42 (.bin .mul (kt 40) (kt 41)),ko 43 (.move (kt 13)),ko 44 (.bin .add (kt 42) (kt 43)),ko 45 (.move (kt 12)),ko 46 (.bin .shr (kt 45) (.const (.int .u64 32))),ko 47 (.bin .add (kt 44) (kt 46)),ko 4 (.move (kt 47))] [0,1,4]) (.seq (kr [ko 48 (.move (kt 0)),ko 49 (.move (kt 1)),ko 50 (.bin .mul (kt 48) (kt 49)),ko 5 (.move (kt 50))] [4,5]) .ret)))))))))))),[(4,none),(5,none)]⟩
def Q30:AFun:=⟨(.seq (kr [ko 2 (.box (kt 0)),ko 4 (.alloc (Qa 64 (.int .u8 0)))] [1,2,4]) (.seq (kr [ko 11 (.load (some 32) (kt 2)),ko 12 (.call 26 [(kt 11)] true),ko 5 (.alloc (Qa 64 (.int .u8 0))),kq (.store 64 (kt 5) (kt 12))] [1,4,5]) (.seq (kr [ko 13 (.call 27 [] true),ko 14 (.fieldAddr 0 (kt 5)),ko 15 (.load (some 32) (kt 14)),ko 16 (.call 28 [(kt 13),(kt 15)] true),ko 17 (.call 29 [(kt 16)] true),ko 6 (.alloc (Qa 32 (.int .u8 0))),kq (.store 32 (kt 6) (kt 17))] [1,4,5,6]) (.seq (kr [ko 18 (.fieldAddr 32 (kt 5)),ko 19 (.sliceArr 32 1 (kt 18) none none none),ko 20 (.buildSlice [(.slice none 0 0)] 1 [(0,(1,(kt 19)))]),ko 21 (.move (kt 1)),ko 22 (.append 1 24 (kt 20) (kt 21)),ko 23 (.call 30 [(kt 22)] false),ko 7 (.alloc (Qa 32 (.int .u8 0))),kq (.store 32 (kt 7) (kt 23))] [1,4,5,6,7]) (.seq (kr [ko 24 (.call 27 [] true),ko 25 (.load (some 32) (kt 7)),ko 26 (.call 28 [(kt 24),(kt 25)] true),ko 27 (.call 29 [(kt 26)] true),ko 8 (.alloc (Qa 32 (.int .u8 0))),kq (.store 32 (kt 8) (kt 27))] [1,4,5,6,7,8]) (.seq (kr [ko 28 (.sliceArr 32 1 (kt 8) none none none),ko 29 (.sliceArr 32 1 (kt 6) none none none),ko 30 (.buildSlice [(.slice none 0 0),(.slice none 0 0)] 2 [(0,(1,(kt 28))),(1,(1,(kt 29)))]),ko 31 (.move (kt 1)),ko 32 (.append 1 24 (kt 30) (kt 31)),ko 33 (.call 30 [(kt 32)] false),ko 9 (.alloc (Qa 32 (.int .u8 0))),kq (.store 32 (kt 9) (kt 33))] [4,5,7,8,9]) (.seq (kr [ko 34 (.load (some 32) (kt 9)),ko 35 (.fieldAddr 0 (kt 5)),ko 36 (.load (some 32) (kt 35)),ko 37 (.load (some 32) (kt 7)),ko 38 (.call 31 [(kt 34),(kt 36),(kt 37)] true),ko 10 (.alloc (Qa 32 (.int .u8 0))),kq (.store 32 (kt 10) (kt 38))] [4,8,10]) (.seq (kr [ko 39 (.sliceArr 32 1 (kt 8) none none none),ko 40 (.sliceArr 32 1 (kt 10) none none none),ko 41 (.append 1 1 (kt 39) (kt 40)),ko 42 (.s2ap 64 (kt 41)),ko 43 (.load (some 64) (kt 42)),kq (.store 64 (kt 4) (kt 43))] [4]) .ret)))))))),[(4,(some (some 64)))]⟩
def Qej:AFun:=⟨(.seq (kr [ko 3 (.box (kt 0)),ko 4 (.box (kt 1)),ko 6 (.move (ki 0))] [2,3,4]) (.seq (kr [ko 15 (.load (some 32) (kt 3)),ko 16 (.call 43 [(kt 15)] true),ko 14 (.move (kt 16)),ko 17 (.extract (kt 14) 0),ko 18 (.extract (kt 14) 1),ko 7 (.alloc (Qa 20 (.int .u64 0))),kq (.store 20 (kt 7) (kt 17)),ko 8 (.move (kt 18))] [2,3,4,7,8]) (.seq (.seq (kr [ko 19 (.move (kt 8)),ko 20 (.bin .neq (kt 19) (ki 0))] [2,3,4,7,8,20]) (.cond (kt 20) (.seq (kr [ko 21 (.move (kt 8)),ko 6 (.move (kt 21))] [6]) .ret) .skip)) (.seq (kr [ko 22 (.sliceArr 64 1 (kt 4) none (some (ki 32)) none),ko 23 (.s2ap 32 (kt 22)),ko 24 (.load (some 32) (kt 23)),ko 25 (.sliceArr 64 1 (kt 4) (some (ki 32)) none none),ko 26 (.s2ap 32 (kt 25)),ko 27 (.load (some 32) (kt 26)),ko 9 (.alloc (Qa 32 (.int .u8 0))),ko 10 (.alloc (Qa 32 (.int .u8 0))),kq (.store 32 (kt 9) (kt 24)),kq (.store 32 (kt 10) (kt 27))] [2,3,7,9,10]) (.seq (.seq (kr [ko 28 (.load (some 20) (kt 7)),ko 29 (.call 44 [(kt 28)] true),ko 30 (.move (kt 29)),.mk (some 31) (.load (some 32) (kt 10)) (some (30,false)),.mk (some 32) (.call 45 [(kt 31)] true) (some (30,false)),.mk (some 33) (.un .not (kt 32)) (some (30,false)),ko 34 (.pick (kt 30) (.const (.bool true)) (kt 33))] [2,3,7,9,10,34]) (.cond (kt 34) (.seq (kr [ko 6 (.move (ki 70))] [6]) .ret) .skip)) (.seq (.seq (kr [ko 36 (.load (some 32) (kt 9)),ko 37 (.call 43 [(kt 36)] true),ko 35 (.move (kt 37)),ko 38 (.extract (kt 35) 0),ko 39 (.extract (kt 35) 1),ko 11 (.alloc (Qa 20 (.int .u64 0))),kq (.store 20 (kt 11) (kt 38)),ko 12 (.move (kt 39))] [2,3,7,9,10,12]) (.seq (kr [ko 40 (.move (kt 12)),ko 41 (.bin .neq (kt 40) (ki 0))] [2,3,7,9,10,41]) (.cond (kt 41) (.seq (kr [ko 6 (.move (ki 70))] [6]) .ret) .skip))) (.seq (kr [ko 42 (.sliceArr 32 1 (kt 9) none none none),ko 43 (.sliceArr 32 1 (kt 3) none none none),ko 44 (.buildSlice [(.slice none 0 0),(.slice none 0 0)] 2 [(0,(1,(kt 42))),(1,(1,(kt 43)))]),ko 45 (.move (kt 2)),ko 46 (.append 1 24 (kt 44) (kt 45)),ko 47 (.call 30 [(kt 46)] false),ko 13 (.alloc (Qa 32 (.int .u8 0))),kq (.store 32 (kt 13) (kt 47))] [7,9,10,13]) (.seq (.seq (.region [ko 48 (.call 27 [] true),ko 49 (.load (some 32) (kt 10)),ko 50 (.call 28 [(kt 48),(kt 49)] true),ko 51 (.load (some 20) (kt 7)),ko 52 (.call 47 [(kt 51)] true),ko 53 (.load (some 32) (kt 13)),ko 54 (.call 28 [(kt 52),(kt 53)] true),ko 55 (.buildSlice (Qa 40 (.int .u64 0)) 2 [(0,(20,(kt 50))),(20,(20,(kt 54)))]),ko 56 (.call 46 [(kt 55)] false),ko 57 (.call 29 [(kt 56)] true),ko 58 (.load (some 32) (kt 9)),ko 59 (.eqv (some (Qa 32 true)) true (kt 57) (kt 58))] (some [59]) [(8,10)]) (.cond (kt 59) (.seq (kr [ko 6 (.move (ki 70))] [6]) .ret) .skip)) (.seq (kr [ko 6 (.move (ki 0))] [6]) .ret))))))))),[(6,none)]⟩
def Q3z:AFun:=⟨(.seq (kr [ko 1 (.box (kt 0)),ko 2 (.alloc (Qa 32 (.int .u8 0)))] [1,2]) (.seq (kr [ko 3 (.call 27 [] true),ko 4 (.load (some 32) (kt 1)),ko 5 (.call 26 [(kt 4)] true),ko 6 (.field (some 32) 0 (kt 5)),ko 7 (.call 28 [(kt 3),(kt 6)] true),ko 8 (.call 29 [(kt 7)] true),kq (.store 32 (kt 2) (kt 8))] [2]) .ret)),[(2,(some (some 32)))]⟩
def Q3y:AFun:=⟨(.seq (kr [ko 1 (.box (kt 0)),ko 2 (.alloc (Qa 64 (.int .u8 0)))] [1,2]) (.seq (kr [ko 4 (.sliceArr 32 1 (kt 1) none none none),ko 5 (.buildSlice [(.slice none 0 0)] 1 [(0,(1,(kt 4)))]),ko 6 (.call 50 [(kt 5)] false),ko 3 (.alloc (Qa 64 (.int .u8 0))),kq (.store 64 (kt 3) (kt 6))] [2,3]) (.seq (kr [ko 7 (.sliceArr 64 1 (kt 3) none (some (ki 32)) none),ko 8 (.s2ap 32 (kt 7)),ko 9 (.load (some 32) (kt 8)),ko 10 (.call 35 [(kt 9)] true),ko 11 (.sliceArr 64 1 (kt 3) (some (ki 32)) none none),ko 12 (.s2ap 32 (kt 11)),ko 13 (.load (some 32) (kt 12)),ko 14 (.build (Qa 64 (.int .u8 0)) [(0,(32,(kt 10))),(32,(32,(kt 13)))]),kq (.store 64 (kt 2) (kt 14))] [2]) .ret))),[(2,(some (some 64)))]⟩
def Q3x:AFun:=⟨(.seq (kr [ko 2 (.alloc (Qa 32 (.int .u8 0)))] [0,2]) (.seq (kr [ko 4 (.move (kt 0)),ko 5 (.call 50 [(kt 4)] false),ko 3 (.alloc (Qa 64 (.int .u8 0))),kq (.store 64 (kt 3) (kt 5))] [2,3]) (.seq (kr [ko 6 (.sliceArr 64 1 (kt 3) none none none),ko 7 (.buildSlice [(.slice none 0 0)] 1 [(0,(1,(kt 6)))]),ko 8 (.call 56 [(kt 7)] false),kq (.store 32 (kt 2) (kt 8))] [2]) .ret))),[(2,(some (some 32)))]⟩
def Q3w:AFun:=⟨(.seq (kr [ko 2 (.alloc (Qa 64 (.int .u8 0)))] [0,2]) (.seq (kr [ko 4 (.call 85 [] false),ko 3 (.move (kt 4))] [0,2,3]) (.seq (kr [ko 5 (.move (kt 3)),ko 6 (.move (kt 0)),ko 7 (.call 86 [(kt 5),(kt 6)] false)] [2,3]) (.seq (kr [ko 8 (.move (kt 3)),ko 9 (.call 87 [(kt 8)] false),kq (.store 64 (kt 2) (kt 9))] [2]) .ret)))),[(2,(some (some 64)))]⟩
def Q3v:AFun:=⟨(.seq (kr [ko 0 (.move (.const (.pointer none)))] []) (.seq (kr [ko 1 (.build (Qa 8 (.int .u64 0)) [(0,(1,(.const (.int .u64 7640891576956012808)))),(1,(1,(.const (.int .u64 13503953896175478587)))),(2,(1,(.const (.int .u64 4354685564936845355)))),(3,(1,(.const (.int .u64 11912009170470909681)))),(4,(1,(.const (.int .u64 5840696475078001361)))),(5,(1,(.const (.int .u64 11170449401992604703)))),(6,(1,(.const (.int .u64 2270897969802886507)))),(7,(1,(.const (.int .u64 6620516959819538809))))]),ko 2 (.build [(.slice none 0 0),(.int .u64 0),(.int .u64 0),(.int .u64 0),(.int .u64 0),(.int .u64 0),(.int .u64 0),(.int .u64 0),(.int .u64 0),(.int .u64 0)] [(2,(8,(kt 1)))]),ko 3 (.box (kt 2)),ko 0 (.move (kt 3))] [0]) .ret)),[(0,none)]⟩
def Qei:ACode:=(.seq (kr [ko 9 (.bin .lss (kt 8) (kt 7))] [0,6,7,8,9]) (.seq (.cond (kt 9) .skip (.exit 0)) (.seq (.block 1 (.seq (kr [ko 10 (.indexSl 1 (kt 6) (kt 8)),ko 11 (.load none (kt 10)),ko 5 (.move (kt 11))] [0,5,6,7,8]) (kr [ko 12 (.move (kt 0)),ko 13 (.nilCheck (kt 12)),ko 14 (.fieldAddr 0 (kt 13)),ko 15 (.move (kt 5)),ko 16 (.move (kt 0)),ko 17 (.mkFunc (.func 99) [(kt 16)] []),ko 18 (.call 93 [(kt 14),(ki 128),(kt 15),(kt 17)] false)] [0,6,7,8]))) (kr [ko 19 (.bin .add (kt 8) (ki 1)),ko 8 (.move (kt 19))] [0,6,7,8]))))
def Q3u:AFun:=⟨(.seq (kr [ko 6 (.move (kt 1)),ko 7 (.len false (kt 6)),ko 8 (.move (ki 0))] [0,6,7,8]) (.block 0 (.loop Qei))),[]⟩
def Qeh:ACode:=(.seq (kr [ko 33 (.bin .lss (kt 32) (ki 64))] [2,3,4,32,33]) (.seq (.cond (kt 33) .skip (.exit 0)) (.seq (.block 1 (.seq (kr [ko 34 (.move (kt 32)),ko 5 (.move (kt 34))] [2,3,4,5,32]) (kr [ko 35 (.move (kt 5)),ko 36 (.move (kt 3)),ko 37 (.move (kt 5)),ko 38 (.bin .quo (kt 37) (ki 8)),ko 39 (.nilCheck (kt 36)),ko 40 (.fieldAddr 2 (kt 39)),ko 41 (.indexAddr 8 1 (kt 40) (kt 38)),ko 42 (.load none (kt 41)),ko 43 (.move (kt 5)),ko 44 (.bin .rem (kt 43) (ki 8)),ko 45 (.bin .mul (ki 8) (kt 44)),ko 46 (.bin .sub (ki 56) (kt 45)),ko 47 (.bin .shr (kt 42) (kt 46)),ko 48 (.conv .u8 (kt 47)),ko 49 (.indexAddr 64 1 (kt 4) (kt 35)),kq (.store 1 (kt 49) (kt 48))] [2,3,4,32]))) (kr [ko 50 (.bin .add (kt 32) (ki 1)),ko 32 (.move (kt 50))] [2,3,4,32]))))
def Q3t:AFun:=⟨(.seq (kr [ko 2 (.alloc (Qa 64 (.int .u8 0)))] [0,2]) (.seq (.region [ko 6 (.buildSlice [] 0 []),ko 7 (.move (kt 0)),ko 8 (.nilCheck (kt 7)),ko 9 (.fieldAddr 0 (kt 8)),ko 10 (.fieldAddr 0 (kt 9)),ko 11 (.load none (kt 10)),ko 12 (.append 1 1 (kt 6) (kt 11)),ko 13 (.move (kt 0)),ko 14 (.nilCheck (kt 13)),ko 15 (.fieldAddr 0 (kt 14)),ko 16 (.fieldAddr 1 (kt 15)),ko 17 (.load none (kt 16)),ko 18 (.build [(.slice none 0 0),(.int .u64 0)] [(0,(1,(kt 12))),(1,(1,(kt 17)))]),ko 19 (.move (kt 0)),ko 20 (.nilCheck (kt 19)),ko 21 (.fieldAddr 2 (kt 20)),ko 22 (.load (some 8) (kt 21)),ko 23 (.build [(.slice none 0 0),(.int .u64 0),(.int .u64 0),(.int .u64 0),(.int .u64 0),(.int .u64 0),(.int .u64 0),(.int .u64 0),(.int .u64 0),(.int .u64 0)] [(0,(2,(kt 18))),(2,(8,(kt 22)))]),ko 24 (.box (kt 23)),ko 3 (.move (kt 24))] (some [0,2,3]) [(6,11),(6,16)]) (.seq (kr [ko 25 (.move (kt 3)),ko 26 (.move (kt 0)),ko 27 (.nilCheck (kt 26)),ko 28 (.fieldAddr 0 (kt 27)),ko 29 (.call 95 [(kt 28),(ki 128),(ki 16)] false),ko 30 (.buildSlice [(.slice none 0 0)] 1 [(0,(1,(kt 29)))]),ko 31 (.call 86 [(kt 25),(kt 30)] false)] [2,3]) (.seq (kr [ko 4 (.alloc (Qa 64 (.int .u8 0)))] [2,3,4]) (.seq (.seq (kr [ko 32 (.move (ki 0))] [2,3,4,32]) (.block 0 (.loop Qeh))) (.seq (kr [ko 51 (.load (some 64) (kt 4)),kq (.store 64 (kt 2) (kt 51))] [2]) .ret)))))),[(2,(some (some 64)))]⟩
def Ma:ACode:=(.seq (.seq (kr [ko 27 (.move (kt 0)),ko 28 (.nilCheck (kt 27)),ko 29 (.fieldAddr 0 (kt 28)),ko 30 (.load none (kt 29)),ko 31 (.len false (kt 30)),ko 32 (.move (kt 1)),ko 33 (.bin .geq (kt 31) (kt 32))] [0,1,3,33]) (.cond (kt 33) .skip (.exit 0))) (.block 1 (.seq (kr [ko 34 (.move (kt 3)),ko 35 (.move (kt 0)),ko 36 (.nilCheck (kt 35)),ko 37 (.fieldAddr 0 (kt 36)),ko 38 (.load none (kt 37)),ko 39 (.move (kt 1)),ko 40 (.sliceSl 1 (kt 38) none (some (kt 39)) none),ko 41 (.callv (kt 34) [(kt 40)])] [0,1,3]) (kr [ko 42 (.move (kt 0)),ko 43 (.move (kt 0)),ko 44 (.nilCheck (kt 43)),ko 45 (.fieldAddr 0 (kt 44)),ko 46 (.load none (kt 45)),ko 47 (.move (kt 1)),ko 48 (.sliceSl 1 (kt 46) (some (kt 47)) none none),ko 49 (.nilCheck (kt 42)),ko 50 (.fieldAddr 0 (kt 49)),kq (.store 1 (kt 50) (kt 48))] [0,1,3]))))
def Quw:AFun:=⟨(.seq (kr [ko 8 (.move (kt 0)),ko 9 (.nilCheck (kt 8)),ko 10 (.fieldAddr 1 (kt 9)),ko 11 (.load none (kt 10)),ko 12 (.move (kt 2)),ko 13 (.len false (kt 12)),ko 14 (.conv .u64 (kt 13)),ko 15 (.bin .add (kt 11) (kt 14)),ko 16 (.nilCheck (kt 8)),ko 17 (.fieldAddr 1 (kt 16)),kq (.store 1 (kt 17) (kt 15))] [0,1,2,3]) (.seq (kr [ko 18 (.move (kt 0)),ko 19 (.move (kt 0)),ko 20 (.nilCheck (kt 19)),ko 21 (.fieldAddr 0 (kt 20)),ko 22 (.load none (kt 21)),ko 23 (.move (kt 2)),ko 24 (.append 1 1 (kt 22) (kt 23)),ko 25 (.nilCheck (kt 18)),ko 26 (.fieldAddr 0 (kt 25)),kq (.store 1 (kt 26) (kt 24))] [0,1,3]) (.block 0 (.loop Ma)))),[]⟩
def Qeg:ACode:=(.seq (kr [ko 176 (.bin .lss (kt 175) (ki 8))] [0,174,175,176]) (.seq (.cond (kt 176) .skip (.exit 6)) (.seq (.block 7 (.seq (kr [ko 177 (.move (kt 175)),ko 178 (.index none 8 1 (kt 174) (kt 175)),ko 15 (.move (kt 177)),ko 16 (.move (kt 178))] [0,15,16,174,175]) (kr [ko 179 (.move (kt 0)),ko 180 (.move (kt 15)),ko 181 (.nilCheck (kt 179)),ko 182 (.fieldAddr 2 (kt 181)),ko 183 (.indexAddr 8 1 (kt 182) (kt 180)),ko 184 (.load none (kt 183)),ko 185 (.move (kt 16)),ko 186 (.bin .add (kt 184) (kt 185)),ko 187 (.nilCheck (kt 179)),ko 188 (.fieldAddr 2 (kt 187)),ko 189 (.indexAddr 8 1 (kt 188) (kt 180)),kq (.store 1 (kt 189) (kt 186))] [0,174,175]))) (kr [ko 190 (.bin .add (kt 175) (ki 1)),ko 175 (.move (kt 190))] [0,174,175]))))
def Qcg:ACode:=(.seq (kr [ko 88 (.bin .lss (kt 87) (ki 80))] [0,4,10,86,87,88]) (.seq (.cond (kt 88) .skip (.exit 4)) (.seq (.block 5 (.seq (kr [ko 89 (.move (kt 87)),ko 90 (.index none 80 1 (kt 86) (kt 87)),ko 11 (.move (kt 89)),ko 12 (.move (kt 90))] [0,4,10,11,12,86,87]) (.seq (kr [ko 91 (.indexAddr 8 1 (kt 10) (ki 7)),ko 92 (.load none (kt 91)),ko 93 (.indexAddr 8 1 (kt 10) (ki 4)),ko 94 (.load none (kt 93)),ko 95 (.call 102 [(kt 94),(ki (-14))] true),ko 96 (.indexAddr 8 1 (kt 10) (ki 4)),ko 97 (.load none (kt 96)),ko 98 (.call 102 [(kt 97),(ki (-18))] true),ko 99 (.bin .xor (kt 95) (kt 98)),ko 100 (.indexAddr 8 1 (kt 10) (ki 4)),ko 101 (.load none (kt 100)),ko 102 (.call 102 [(kt 101),(ki (-41))] true),ko 103 (.bin .xor (kt 99) (kt 102)),ko 104 (.bin .add (kt 92) (kt 103)),ko 105 (.indexAddr 8 1 (kt 10) (ki 4)),ko 106 (.load none (kt 105)),ko 107 (.indexAddr 8 1 (kt 10) (ki 5)),ko 108 (.load none (kt 107)),ko 109 (.bin .and (kt 106) (kt 108)),ko 110 (.indexAddr 8 1 (kt 10) (ki 4)),ko 111 (.load none (kt 110)),ko 112 (.un .xor (kt 111)),ko 113 (.indexAddr 8 1 (kt 10) (ki 6)),ko 114 (.load none (kt 113)),ko 115 (.bin .and (kt 112) (kt 114)),ko 116 (.bin .xor (kt 109) (kt 115)),ko 117 (.bin .add (kt 104) (kt 116)),ko 118 (.move (kt 12)),ko 119 (.bin .add (kt 117) (kt 118)),ko 120 (.move (kt 11)),ko 121 (.indexAddr 80 1 (kt 4) (kt 120)),ko 122 (.load none (kt 121)),ko 123 (.bin .add (kt 119) (kt 122)),ko 13 (.move (kt 123))] [0,4,10,13,86,87]) (.seq (kr [ko 124 (.indexAddr 8 1 (kt 10) (ki 0)),ko 125 (.load none (kt 124)),ko 126 (.call 102 [(kt 125),(ki (-28))] true),ko 127 (.indexAddr 8 1 (kt 10) (ki 0)),ko 128 (.load none (kt 127)),ko 129 (.call 102 [(kt 128),(ki (-34))] true),ko 130 (.bin .xor (kt 126) (kt 129)),ko 131 (.indexAddr 8 1 (kt 10) (ki 0)),ko 132 (.load none (kt 131)),ko 133 (.call 102 [(kt 132),(ki (-39))] true),ko 134 (.bin .xor (kt 130) (kt 133)),ko 135 (.indexAddr 8 1 (kt 10) (ki 0)),ko 136 (.load none (kt 135)),ko 137 (.indexAddr 8 1 (kt 10) (ki 1)),ko 138 (.load none (kt 137)),ko 139 (.bin .and (kt 136) (kt 138)),ko 140 (.indexAddr 8 1 (kt 10) (ki 0)),ko 141 (.load none (kt 140)),ko 142 (.indexAddr 8 1 (kt 10) (ki 2)),ko 143 (.load none (kt 142)),ko 144 (.bin .and (kt 141) (kt 143)),ko 145 (.bin .xor (kt 139) (kt 144)),ko 146 (.indexAddr 8 1 (kt 10) (ki 1)),ko 147 (.load none (kt 146)),ko 148 (.indexAddr 8 1 (kt 10) (ki 2)),ko 149 (.load none (kt 148)),ko 150 (.bin .and (kt 147) (kt 149)),ko 151 (.bin .xor (kt 145) (kt 150)),ko 152 (.bin .add (kt 134) (kt 151)),ko 14 (.move (kt 152))] [0,4,10,13,14,86,87]) (kr [ko 153 (.move (kt 13)),ko 154 (.move (kt 14)),ko 155 (.bin .add (kt 153) (kt 154)),ko 156 (.indexAddr 8 1 (kt 10) (ki 0)),ko 157 (.load none (kt 156)),ko 158 (.indexAddr 8 1 (kt 10) (ki 1)),ko 159 (.load none (kt 158)),ko 160 (.indexAddr 8 1 (kt 10) (ki 2)),ko 161 (.load none (kt 160)),ko 162 (.indexAddr 8 1 (kt 10) (ki 3)),ko 163 (.load none (kt 162)),ko 164 (.move (kt 13)),ko 165 (.bin .add (kt 163) (kt 164)),ko 166 (.indexAddr 8 1 (kt 10) (ki 4)),ko 167 (.load none (kt 166)),ko 168 (.indexAddr 8 1 (kt 10) (ki 5)),ko 169 (.load none (kt 168)),ko 170 (.indexAddr 8 1 (kt 10) (ki 6)),ko 171 (.load none (kt 170)),ko 172 (.build (Qa 8 (.int .u64 0)) [(0,(1,(kt 155))),(1,(1,(kt 157))),(2,(1,(kt 159))),(3,(1,(kt 161))),(4,(1,(kt 165))),(5,(1,(kt 167))),(6,(1,(kt 169))),(7,(1,(kt 171)))]),kq (.store 8 (kt 10) (kt 172))] [0,4,10,86,87]))))) (kr [ko 173 (.bin .add (kt 87) (ki 1)),ko 87 (.move (kt 173))] [0,4,10,86,87]))))
def Qef:ACode:=(.seq (kr [ko 31 (.bin .lss (kt 30) (kt 29))] [0,1,4,5,17,28,29,30,31]) (.seq (.cond (kt 31) .skip (.exit 2)) (.seq (.block 3 (.seq (kr [ko 32 (.indexSl 1 (kt 28) (kt 30)),ko 33 (.load none (kt 32)),ko 7 (.move (kt 33))] [0,1,4,5,7,17,28,29,30]) (kr [ko 34 (.move (kt 5)),ko 35 (.move (kt 5)),ko 36 (.indexAddr 80 1 (kt 4) (kt 35)),ko 37 (.load none (kt 36)),ko 38 (.bin .shl (kt 37) (.const (.int .u64 8))),ko 39 (.move (kt 7)),ko 40 (.conv .u64 (kt 39)),ko 41 (.bin .or (kt 38) (kt 40)),ko 42 (.indexAddr 80 1 (kt 4) (kt 34)),kq (.store 1 (kt 42) (kt 41))] [0,1,4,5,17,28,29,30]))) (kr [ko 43 (.bin .add (kt 30) (ki 1)),ko 30 (.move (kt 43))] [0,1,4,5,17,28,29,30]))))
def Rx:ACode:=(.seq (kr [ko 18 (.bin .lss (kt 17) (ki 80))] [0,1,4,17,18]) (.seq (.cond (kt 18) .skip (.exit 0)) (.seq (.block 1 (.seq (kr [ko 19 (.move (kt 17)),ko 5 (.move (kt 19))] [0,1,4,5,17]) (.seq (.seq (kr [ko 20 (.move (kt 5)),ko 21 (.bin .lss (kt 20) (ki 16))] [0,1,4,5,17,21]) (.cond (kt 21) (.seq (.seq (kr [ko 22 (.move (kt 1)),ko 23 (.move (kt 5)),ko 24 (.bin .mul (ki 8) (kt 23)),ko 25 (.move (kt 5)),ko 26 (.bin .mul (ki 8) (kt 25)),ko 27 (.bin .add (kt 26) (ki 8)),ko 28 (.sliceSl 1 (kt 22) (some (kt 24)) (some (kt 27)) none),ko 29 (.len false (kt 28)),ko 30 (.move (ki 0))] [0,1,4,5,17,28,29,30]) (.block 2 (.loop Qef))) (.exit 1)) .skip)) (.seq (kr [ko 44 (.move (kt 5)),ko 45 (.bin .sub (kt 44) (ki 15)),ko 46 (.indexAddr 80 1 (kt 4) (kt 45)),ko 47 (.load none (kt 46)),ko 48 (.move (kt 5)),ko 49 (.bin .sub (kt 48) (ki 2)),ko 50 (.indexAddr 80 1 (kt 4) (kt 49)),ko 51 (.load none (kt 50)),ko 8 (.move (kt 47)),ko 9 (.move (kt 51))] [0,1,4,5,8,9,17]) (kr [ko 52 (.move (kt 5)),ko 53 (.move (kt 5)),ko 54 (.bin .sub (kt 53) (ki 16)),ko 55 (.indexAddr 80 1 (kt 4) (kt 54)),ko 56 (.load none (kt 55)),ko 57 (.move (kt 5)),ko 58 (.bin .sub (kt 57) (ki 7)),ko 59 (.indexAddr 80 1 (kt 4) (kt 58)),ko 60 (.load none (kt 59)),ko 61 (.bin .add (kt 56) (kt 60)),ko 62 (.move (kt 8)),ko 63 (.call 102 [(kt 62),(ki (-1))] true),ko 64 (.move (kt 8)),ko 65 (.call 102 [(kt 64),(ki (-8))] true),ko 66 (.bin .xor (kt 63) (kt 65)),ko 67 (.move (kt 8)),ko 68 (.bin .shr (kt 67) (.const (.int .u64 7))),ko 69 (.bin .xor (kt 66) (kt 68)),ko 70 (.bin .add (kt 61) (kt 69)),ko 71 (.move (kt 9)),ko 72 (.call 102 [(kt 71),(ki (-19))] true),ko 73 (.move (kt 9)),ko 74 (.call 102 [(kt 73),(ki (-61))] true),ko 75 (.bin .xor (kt 72) (kt 74)),ko 76 (.move (kt 9)),ko 77 (.bin .shr (kt 76) (.const (.int .u64 6))),ko 78 (.bin .xor (kt 75) (kt 77)),ko 79 (.bin .add (kt 70) (kt 78)),ko 80 (.indexAddr 80 1 (kt 4) (kt 52)),kq (.store 1 (kt 80) (kt 79))] [0,1,4,17]))))) (kr [ko 81 (.bin .add (kt 17) (ki 1)),ko 17 (.move (kt 81))] [0,1,4,17]))))
def Q3s:AFun:=⟨(.seq (kr [ko 4 (.alloc (Qa 80 (.int .u64 0)))] [0,1,4]) (.seq (.seq (kr [ko 17 (.move (ki 0))] [0,1,4,17]) (.block 0 (.loop Rx))) (.seq (kr [ko 82 (.move (kt 0)),ko 83 (.nilCheck (kt 82)),ko 84 (.fieldAddr 2 (kt 83)),ko 85 (.load (some 8) (kt 84)),ko 10 (.alloc (Qa 8 (.int .u64 0))),kq (.store 8 (kt 10) (kt 85))] [0,4,10]) (.seq (.seq (kr [ko 86 (.call 101 [] true),ko 87 (.move (ki 0))] [0,4,10,86,87]) (.block 4 (.loop Qcg))) (.seq (kr [ko 174 (.load (some 8) (kt 10)),ko 175 (.move (ki 0))] [0,174,175]) (.block 6 (.loop Qeg))))))),[]⟩
def Gz:ACode:=(.seq (.seq (kr [ko 29 (.move (kt 8)),ko 30 (.bin .geq (kt 29) (ki 0))] [0,7,8,30]) (.cond (kt 30) .skip (.exit 2))) (.seq (.block 3 (.seq (kr [ko 9 (.move (.const (.int .u8 0)))] [0,7,8,9]) (.seq (.seq (kr [ko 33 (.move (kt 8)),ko 34 (.bin .lss (kt 33) (ki 9))] [0,7,8,9,34]) (.cond (kt 34) (kr [ko 35 (.move (kt 0)),ko 36 (.nilCheck (kt 35)),ko 37 (.fieldAddr 1 (kt 36)),ko 38 (.load none (kt 37)),ko 39 (.move (kt 8)),ko 40 (.bin .mul (ki 8) (kt 39)),ko 41 (.bin .shr (kt 38) (kt 40)),ko 42 (.bin .shl (kt 41) (.const (.int .u64 3))),ko 43 (.conv .u8 (kt 42)),ko 9 (.move (kt 43))] [0,7,8,9]) .skip)) (.seq (.seq (kr [ko 44 (.move (kt 8)),ko 45 (.bin .gtr (kt 44) (ki 0)),ko 46 (.move (kt 45)),.mk (some 47) (.move (kt 8)) (some (46,true)),.mk (some 48) (.bin .lss (kt 47) (ki 9)) (some (46,true)),ko 49 (.pick (kt 46) (kt 48) (.const (.bool false)))] [0,7,8,9,49]) (.cond (kt 49) (kr [ko 50 (.move (kt 9)),ko 51 (.move (kt 0)),ko 52 (.nilCheck (kt 51)),ko 53 (.fieldAddr 1 (kt 52)),ko 54 (.load none (kt 53)),ko 55 (.move (kt 8)),ko 56 (.bin .mul (ki 8) (kt 55)),ko 57 (.bin .sub (kt 56) (ki 8)),ko 58 (.bin .shr (kt 54) (kt 57)),ko 59 (.bin .and (kt 58) (.const (.int .u64 255))),ko 60 (.bin .shr (kt 59) (.const (.int .u64 5))),ko 61 (.conv .u8 (kt 60)),ko 62 (.bin .or (kt 50) (kt 61)),ko 9 (.move (kt 62))] [0,7,8,9]) .skip)) (kr [ko 63 (.move (kt 7)),ko 64 (.move (kt 9)),ko 65 (.buildSlice [(.int .u8 0)] 1 [(0,(1,(kt 64)))]),ko 66 (.append 1 1 (kt 63) (kt 65)),ko 7 (.move (kt 66))] [0,7,8]))))) (kr [ko 31 (.move (kt 8)),ko 32 (.bin .sub (kt 31) (ki 1)),ko 8 (.move (kt 32))] [0,7,8])))
def D9:ACode:=(.seq (.seq (kr [ko 11 (.move (kt 0)),ko 12 (.nilCheck (kt 11)),ko 13 (.fieldAddr 1 (kt 12)),ko 14 (.load none (kt 13)),ko 15 (.conv .i64 (kt 14)),ko 16 (.move (kt 7)),ko 17 (.len false (kt 16)),ko 18 (.bin .add (kt 15) (kt 17)),ko 19 (.move (kt 2)),ko 20 (.bin .add (kt 18) (kt 19)),ko 21 (.move (kt 1)),ko 22 (.bin .rem (kt 20) (kt 21)),ko 23 (.bin .neq (kt 22) (ki 0))] [0,1,2,7,23]) (.cond (kt 23) .skip (.exit 0))) (.block 1 (kr [ko 24 (.move (kt 7)),ko 25 (.buildSlice [(.int .u8 0)] 1 [(0,(1,(.const (.int .u8 0))))]),ko 26 (.append 1 1 (kt 24) (kt 25)),ko 7 (.move (kt 26))] [0,1,2,7])))
def Quv:AFun:=⟨(.seq (kr [ko 6 (.move (.const (.slice none 0 0)))] [0,1,2]) (.seq (kr [ko 10 (.buildSlice [(.int .u8 0)] 1 [(0,(1,(.const (.int .u8 128))))]),ko 7 (.move (kt 10))] [0,1,2,7]) (.seq (.block 0 (.loop D9)) (.seq (.seq (kr [ko 27 (.move (kt 2)),ko 28 (.bin .sub (kt 27) (ki 1)),ko 8 (.move (kt 28))] [0,7,8]) (.block 2 (.loop Gz))) (.seq (kr [ko 67 (.move (kt 7)),ko 6 (.move (kt 67))] [6]) .ret))))),[(6,none)]⟩
def Q3r:AFun:=⟨(.seq (kr [ko 4 (.move (.const (.int .u64 0)))] [0,1]) (.seq (kr [ko 6 (.move (kt 1)),ko 7 (.conv .u64 (kt 6)),ko 8 (.bin .and (kt 7) (.const (.int .u64 63))),ko 5 (.move (kt 8))] [0,5]) (.seq (kr [ko 9 (.move (kt 0)),ko 10 (.move (kt 5)),ko 11 (.bin .shl (kt 9) (kt 10)),ko 12 (.move (kt 0)),ko 13 (.move (kt 5)),ko 14 (.bin .sub (.const (.int .u64 64)) (kt 13)),ko 15 (.bin .shr (kt 12) (kt 14)),ko 16 (.bin .or (kt 11) (kt 15)),ko 4 (.move (kt 16))] [4]) .ret))),[(4,none)]⟩
def Q3q:AFun:=⟨(.seq (kr [ko 0 (.alloc (Qa 80 (.int .u64 0)))] [0]) (.seq (kr [ko 1 (.build (Qa 80 (.int .u64 0)) [(0,(1,(.const (.int .u64 4794697086780616226)))),(1,(1,(.const (.int .u64 8158064640168781261)))),(2,(1,(.const (.int .u64 13096744586834688815)))),(3,(1,(.const (.int .u64 16840607885511220156)))),(4,(1,(.const (.int .u64 4131703408338449720)))),(5,(1,(.const (.int .u64 6480981068601479193)))),(6,(1,(.const (.int .u64 10538285296894168987)))),(7,(1,(.const (.int .u64 12329834152419229976)))),(8,(1,(.const (.int .u64 15566598209576043074)))),(9,(1,(.const (.int .u64 1334009975649890238)))),(10,(1,(.const (.int .u64 2608012711638119052)))),(11,(1,(.const (.int .u64 6128411473006802146)))),(12,(1,(.const (.int .u64 8268148722764581231)))),(13,(1,(.const (.int .u64 9286055187155687089)))),(14,(1,(.const (.int .u64 11230858885718282805)))),(15,(1,(.const (.int .u64 13951009754708518548)))),(16,(1,(.const (.int .u64 16472876342353939154)))),(17,(1,(.const (.int .u64 17275323862435702243)))),(18,(1,(.const (.int .u64 1135362057144423861)))),(19,(1,(.const (.int .u64 2597628984639134821)))),(20,(1,(.const (.int .u64 3308224258029322869)))),(21,(1,(.const (.int .u64 5365058923640841347)))),(22,(1,(.const (.int .u64 6679025012923562964)))),(23,(1,(.const (.int .u64 8573033837759648693)))),(24,(1,(.const (.int .u64 10970295158949994411)))),(25,(1,(.const (.int .u64 12119686244451234320)))),(26,(1,(.const (.int .u64 12683024718118986047)))),(27,(1,(.const (.int .u64 13788192230050041572)))),(28,(1,(.const (.int .u64 14330467153632333762)))),(29,(1,(.const (.int .u64 15395433587784984357)))),(30,(1,(.const (.int .u64 489312712824947311)))),(31,(1,(.const (.int .u64 1452737877330783856)))),(32,(1,(.const (.int .u64 2861767655752347644)))),(33,(1,(.const (.int .u64 3322285676063803686)))),(34,(1,(.const (.int .u64 5560940570517711597)))),(35,(1,(.const (.int .u64 5996557281743188959)))),(36,(1,(.const (.int .u64 7280758554555802590)))),(37,(1,(.const (.int .u64 8532644243296465576)))),(38,(1,(.const (.int .u64 9350256976987008742)))),(39,(1,(.const (.int .u64 10552545826968843579)))),(40,(1,(.const (.int .u64 11727347734174303076)))),(41,(1,(.const (.int .u64 12113106623233404929)))),(42,(1,(.const (.int .u64 14000437183269869457)))),(43,(1,(.const (.int .u64 14369950271660146224)))),(44,(1,(.const (.int .u64 15101387698204529176)))),(45,(1,(.const (.int .u64 15463397548674623760)))),(46,(1,(.const (.int .u64 17586052441742319658)))),(47,(1,(.const (.int .u64 1182934255886127544)))),(48,(1,(.const (.int .u64 1847814050463011016)))),(49,(1,(.const (.int .u64 2177327727835720531)))),(50,(1,(.const (.int .u64 2830643537854262169)))),(51,(1,(.const (.int .u64 3796741975233480872)))),(52,(1,(.const (.int .u64 4115178125766777443)))),(53,(1,(.const (.int .u64 5681478168544905931)))),(54,(1,(.const (.int .u64 6601373596472566643)))),(55,(1,(.const (.int .u64 7507060721942968483)))),(56,(1,(.const (.int .u64 8399075790359081724)))),(57,(1,(.const (.int .u64 8693463985226723168)))),(58,(1,(.const (.int .u64 9568029438360202098)))),(59,(1,(.const (.int .u64 10144078919501101548)))),(60,(1,(.const (.int .u64 10430055236837252648)))),(61,(1,(.const (.int .u64 11840083180663258601)))),(62,(1,(.const (.int .u64 13761210420658862357)))),(63,(1,(.const (.int .u64 14299343276471374635)))),(64,(1,(.const (.int .u64 14566680578165727644)))),(65,(1,(.const (.int .u64 15097957966210449927)))),(66,(1,(.const (.int .u64 16922976911328602910)))),(67,(1,(.const (.int .u64 17689382322260857208)))),(68,(1,(.const (.int .u64 500013540394364858)))),(69,(1,(.const (.int .u64 748580250866718886)))),(70,(1,(.const (.int .u64 1242879168328830382)))),(71,(1,(.const (.int .u64 1977374033974150939)))),(72,(1,(.const (.int .u64 2944078676154940804)))),(73,(1,(.const (.int .u64 3659926193048069267)))),(74,(1,(.const (.int .u64 4368137639120453308)))),(75,(1,(.const (.int .u64 4836135668995329356)))),(76,(1,(.const (.int .u64 5532061633213252278)))),(77,(1,(.const (.int .u64 6448918945643986474)))),(78,(1,(.const (.int .u64 6902733635092675308)))),(79,(1,(.const (.int .u64 7801388544844847127))))]),kq (.store 80 (kt 0) (kt 1))] [0]) .ret)),[(0,(some (some 80)))]⟩
def Q3p:AFun:=⟨(.seq (kr [ko 3 (.box (kt 0)),ko 4 (.box (kt 1)),ko 5 (.box (kt 2)),ko 6 (.move (.const (.bool false)))] [3,4,5]) (.seq (.seq (kr [ko 12 (.call 5 [] true),ko 13 (.un .not (kt 12))] [3,4,5,13]) (.cond (kt 13) (.seq (kr [ko 6 (.move (.const (.bool false)))] [6]) .ret) .skip)) (.seq (kr [ko 14 (.load (some 64) (kt 4)),ko 15 (.indexAddr 3 32 (kt 5) (ki 0)),ko 16 (.load (some 32) (kt 15)),ko 17 (.indexAddr 3 32 (kt 5) (ki 1)),ko 18 (.load (some 32) (kt 17)),ko 19 (.call 6 [(kt 14),(kt 16),(kt 18),(.const (.int .u32 1)),(.const (.int .u32 2))] true),ko 7 (.alloc Gj),kq (.store 194 (kt 7) (kt 19))] [3,4,5,7]) (.seq (kr [ko 21 (.load (some 64) (kt 3)),ko 22 (.indexAddr 3 32 (kt 5) (ki 2)),ko 23 (.load (some 32) (kt 22)),ko 24 (.load (some 194) (kt 7)),ko 25 (.call 7 [(kt 21),(kt 23),(kt 24)] true),ko 20 (.move (kt 25)),ko 26 (.extract (kt 20) 0),ko 27 (.extract (kt 20) 1),ko 8 (.alloc (Qa 64 (.int .u8 0))),kq (.store 64 (kt 8) (kt 26)),ko 9 (.move (kt 27))] [3,4,5,7,8,9]) (.seq (kr [ko 29 (.load (some 64) (kt 4)),ko 30 (.indexAddr 3 32 (kt 5) (ki 0)),ko 31 (.load (some 32) (kt 30)),ko 32 (.indexAddr 3 32 (kt 5) (ki 1)),ko 33 (.load (some 32) (kt 32)),ko 34 (.load (some 64) (kt 3)),ko 35 (.call 9 [(kt 34)] true),ko 36 (.indexAddr 3 32 (kt 5) (ki 2)),ko 37 (.load (some 32) (kt 36)),ko 38 (.call 10 [(kt 37)] true),ko 39 (.call 8 [(kt 29),(kt 31),(kt 33),(kt 35),(kt 38)] true),ko 28 (.move (kt 39)),ko 40 (.extract (kt 28) 0),ko 41 (.extract (kt 28) 1),ko 10 (.alloc (Qa 64 (.int .u8 0))),kq (.store 64 (kt 10) (kt 40)),ko 11 (.move (kt 41))] [7,8,9,10,11]) (.seq (kr [ko 42 (.load (some 194) (kt 7)),ko 43 (.call 11 [(kt 42)] true),ko 44 (.bin .eql (kt 43) (ki 0)),ko 45 (.move (kt 44)),.mk (some 46) (.load (some 64) (kt 8)) (some (45,true)),.mk (some 47) (.load (some 64) (kt 10)) (some (45,true)),.mk (some 48) (.eqv (some (Qa 64 true)) false (kt 46) (kt 47)) (some (45,true)),ko 49 (.pick (kt 45) (kt 48) (.const (.bool false))),ko 50 (.move (kt 49)),.mk (some 51) (.move (kt 9)) (some (50,true)),.mk (some 52) (.move (kt 11)) (some (50,true)),.mk (some 53) (.bin .eql (kt 51) (kt 52)) (some (50,true)),ko 54 (.pick (kt 50) (kt 53) (.const (.bool false))),ko 55 (.move (kt 54)),.mk (some 56) (.move (kt 9)) (some (55,true)),.mk (some 57) (.bin .eql (kt 56) (ki 0)) (some (55,true)),.mk (some 58) (.move (kt 57)) (some (55,true)),.mk (some 59) (.move (kt 9)) (some (58,false)),.mk (some 60) (.bin .eql (kt 59) (ki 50)) (some (58,false)),.mk (some 61) (.pick (kt 58) (.const (.bool true)) (kt 60)) (some (55,true)),ko 62 (.pick (kt 55) (kt 61) (.const (.bool false))),ko 6 (.move (kt 62))] [6]) .ret)))))),[(6,none)]⟩
def Q3o:AFun:=⟨(.seq (kr [ko 0 (.move (.const (.bool false)))] []) (.seq (kr [ko 8 (.build (Qa 32 (.int .u8 0)) [(0,(1,(.const (.int .u8 1))))]),ko 9 (.build (Qa 32 (.int .u8 0)) [(0,(1,(.const (.int .u8 2))))]),ko 10 (.build (Qa 64 (.int .u8 0)) [(0,(32,(kt 8))),(32,(32,(kt 9)))]),ko 11 (.build (Qa 32 (.int .u8 0)) [(0,(1,(.const (.int .u8 3))))]),ko 12 (.build (Qa 32 (.int .u8 0)) [(0,(1,(.const (.int .u8 4))))]),ko 13 (.build (Qa 64 (.int .u8 0)) [(0,(32,(kt 11))),(32,(32,(kt 12)))]),ko 1 (.alloc (Qa 64 (.int .u8 0))),ko 2 (.alloc (Qa 64 (.int .u8 0))),kq (.store 64 (kt 1) (kt 10)),kq (.store 64 (kt 2) (kt 13))] [1,2]) (.seq (kr [ko 14 (.load (some 64) (kt 2)),ko 15 (.build (Qa 32 (.int .u8 0)) [(0,(1,(.const (.int .u8 5))))]),ko 16 (.build (Qa 32 (.int .u8 0)) [(0,(1,(.const (.int .u8 6))))]),ko 17 (.call 6 [(kt 14),(kt 15),(kt 16),(.const (.int .u32 7)),(.const (.int .u32 8))] true),ko 3 (.alloc Gj),kq (.store 194 (kt 3) (kt 17))] [1,2,3]) (.seq (kr [ko 19 (.load (some 64) (kt 1)),ko 20 (.build (Qa 32 (.int .u8 0)) [(0,(1,(.const (.int .u8 9))))]),ko 21 (.load (some 194) (kt 3)),ko 22 (.call 7 [(kt 19),(kt 20),(kt 21)] true),ko 18 (.move (kt 22)),ko 23 (.extract (kt 18) 0),ko 24 (.extract (kt 18) 1),ko 4 (.alloc (Qa 64 (.int .u8 0))),kq (.store 64 (kt 4) (kt 23)),ko 5 (.move (kt 24))] [1,2,3,4,5]) (.seq (kr [ko 26 (.load (some 64) (kt 2)),ko 27 (.build (Qa 32 (.int .u8 0)) [(0,(1,(.const (.int .u8 5))))]),ko 28 (.build (Qa 32 (.int .u8 0)) [(0,(1,(.const (.int .u8 6))))]),ko 29 (.load (some 64) (kt 1)),ko 30 (.call 9 [(kt 29)] true),ko 31 (.build (Qa 32 (.int .u8 0)) [(0,(1,(.const (.int .u8 9))))]),ko 32 (.call 10 [(kt 31)] true),ko 33 (.call 8 [(kt 26),(kt 27),(kt 28),(kt 30),(kt 32)] true),ko 25 (.move (kt 33)),ko 34 (.extract (kt 25) 0),ko 35 (.extract (kt 25) 1),ko 6 (.alloc (Qa 64 (.int .u8 0))),kq (.store 64 (kt 6) (kt 34)),ko 7 (.move (kt 35))] [3,4,5,6,7]) (.seq (kr [ko 36 (.move (kt 5)),ko 37 (.bin .eql (kt 36) (ki 0)),ko 38 (.move (kt 37)),.mk (some 39) (.move (kt 7)) (some (38,true)),.mk (some 40) (.bin .eql (kt 39) (ki 0)) (some (38,true)),ko 41 (.pick (kt 38) (kt 40) (.const (.bool false))),ko 42 (.move (kt 41)),.mk (some 43) (.load (some 64) (kt 4)) (some (42,true)),.mk (some 44) (.load (some 64) (kt 6)) (some (42,true)),.mk (some 45) (.eqv (some (Qa 64 true)) false (kt 43) (kt 44)) (some (42,true)),ko 46 (.pick (kt 42) (kt 45) (.const (.bool false))),ko 47 (.move (kt 46)),.mk (some 48) (.fieldAddr 0 (kt 4)) (some (47,true)),.mk (some 49) (.load (some 32) (kt 48)) (some (47,true)),.mk (some 50) (.build (Qa 32 (.int .u8 0)) []) (some (47,true)),.mk (some 51) (.eqv (some (Qa 32 true)) true (kt 49) (kt 50)) (some (47,true)),ko 52 (.pick (kt 47) (kt 51) (.const (.bool false))),ko 53 (.move (kt 52)),.mk (some 54) (.load (some 194) (kt 3)) (some (53,true)),.mk (some 55) (.call 11 [(kt 54)] true) (some (53,true)),.mk (some 56) (.bin .eql (kt 55) (ki 0)) (some (53,true)),ko 57 (.pick (kt 53) (kt 56) (.const (.bool false))),ko 58 (.move (kt 57)),.mk (some 59) (.fieldAddr 128 (kt 3)) (some (58,true)),.mk (some 60) (.load none (kt 59)) (some (58,true)),.mk (some 61) (.bin .eql (kt 60) (.const (.int .u32 7))) (some (58,true)),ko 62 (.pick (kt 58) (kt 61) (.const (.bool false))),ko 63 (.move (kt 62)),.mk (some 64) (.fieldAddr 129 (kt 3)) (some (63,true)),.mk (some 65) (.load none (kt 64)) (some (63,true)),.mk (some 66) (.bin .eql (kt 65) (.const (.int .u32 8))) (some (63,true)),ko 67 (.pick (kt 63) (kt 66) (.const (.bool false))),ko 0 (.move (kt 67))] [0]) .ret)))))),[(0,none)]⟩
def Quu:AFun:=⟨(.seq (kr [ko 5 (.box (kt 0)),ko 6 (.box (kt 1)),ko 7 (.box (kt 2)),ko 10 (.alloc Gj)] [3,4,5,6,7,10]) (.seq (kr [ko 12 (.load (some 64) (kt 5)),ko 13 (.call 9 [(kt 12)] true),ko 14 (.load (some 32) (kt 6)),ko 15 (.call 10 [(kt 14)] true),ko 16 (.move (kt 3)),ko 17 (.build Gj [(0,(64,(kt 13))),(64,(32,(kt 15))),(128,(1,(kt 16)))]),ko 11 (.alloc Gj),kq (.store 194 (kt 11) (kt 17))] [3,4,5,7,10,11]) (.seq (.seq (kr [ko 18 (.load (some 32) (kt 7)),ko 19 (.build (Qa 32 (.int .u8 0)) []),ko 20 (.eqv (some (Qa 32 true)) true (kt 18) (kt 19))] [3,4,5,7,10,11,20]) (.cond (kt 20) (kr [ko 21 (.load (some 32) (kt 7)),ko 22 (.call 10 [(kt 21)] true),ko 23 (.move (kt 4)),ko 24 (.fieldAddr 96 (kt 11)),kq (.store 32 (kt 24) (kt 22)),ko 25 (.fieldAddr 129 (kt 11)),kq (.store 1 (kt 25) (kt 23))] [3,5,10,11]) .skip)) (.seq (.region [ko 26 (.fieldAddr 0 (kt 5)),ko 27 (.load (some 32) (kt 26)),ko 28 (.fieldAddr 0 (kt 11)),ko 29 (.fieldAddr 32 (kt 28)),ko 30 (.load (some 32) (kt 29)),ko 31 (.fieldAddr 64 (kt 11)),ko 32 (.load (some 32) (kt 31)),ko 33 (.move (kt 3)),ko 34 (.call 17 [(kt 30),(kt 32),(kt 33)] false),ko 35 (.call 16 [(kt 27),(kt 34)] false),ko 36 (.fieldAddr 130 (kt 11)),kq (.store 64 (kt 36) (kt 35))] (some [10,11]) [(1,8)]) (.seq (kr [ko 37 (.load (some 194) (kt 11)),kq (.store 194 (kt 10) (kt 37))] [10]) .ret))))),[(10,(some (some 194)))]⟩
def Qut:AFun:=⟨(.seq (kr [ko 3 (.box (kt 0)),ko 4 (.box (kt 1)),ko 5 (.box (kt 2)),ko 6 (.alloc (Qa 64 (.int .u8 0))),ko 7 (.move (ki 0))] [3,4,5,6]) (.seq (.seq (kr [ko 12 (.load (some 194) (kt 5)),ko 13 (.call 11 [(kt 12)] true),ko 8 (.move (kt 13))] [3,4,5,6,8]) (.seq (kr [ko 14 (.move (kt 8)),ko 15 (.bin .neq (kt 14) (ki 0))] [3,4,5,6,8,15]) (.cond (kt 15) (.seq (kr [ko 16 (.build (Qa 64 (.int .u8 0)) []),ko 17 (.move (kt 8)),kq (.store 64 (kt 6) (kt 16)),ko 7 (.move (kt 17))] [6,7]) .ret) .skip))) (.seq (kr [ko 18 (.fieldAddr 32 (kt 3)),ko 19 (.load (some 32) (kt 18)),ko 20 (.fieldAddr 64 (kt 5)),ko 21 (.load (some 32) (kt 20)),ko 22 (.build (Qa 64 (.int .u8 0)) [(0,(32,(kt 19))),(32,(32,(kt 21)))]),ko 23 (.load (some 32) (kt 4)),ko 24 (.fieldAddr 0 (kt 5)),ko 25 (.fieldAddr 32 (kt 24)),ko 26 (.load (some 32) (kt 25)),ko 27 (.build (Qa 64 (.int .u8 0)) [(0,(32,(kt 23))),(32,(32,(kt 26)))]),ko 28 (.load (some 32) (kt 4)),ko 29 (.fieldAddr 64 (kt 5)),ko 30 (.load (some 32) (kt 29)),ko 31 (.build (Qa 64 (.int .u8 0)) [(0,(32,(kt 28))),(32,(32,(kt 30)))]),ko 32 (.buildSlice (Qa 192 (.int .u8 0)) 3 [(0,(64,(kt 22))),(64,(64,(kt 27))),(128,(64,(kt 31)))]),ko 9 (.move (kt 32))] [3,4,5,6,9]) (.seq (.seq (kr [ko 33 (.fieldAddr 96 (kt 5)),ko 34 (.load (some 32) (kt 33)),ko 35 (.build (Qa 32 (.int .u8 0)) []),ko 36 (.eqv (some (Qa 32 true)) true (kt 34) (kt 35))] [3,4,5,6,9,36]) (.cond (kt 36) (kr [ko 37 (.move (kt 9)),ko 38 (.load (some 32) (kt 4)),ko 39 (.fieldAddr 96 (kt 5)),ko 40 (.load (some 32) (kt 39)),ko 41 (.build (Qa 64 (.int .u8 0)) [(0,(32,(kt 38))),(32,(32,(kt 40)))]),ko 42 (.buildSlice (Qa 64 (.int .u8 0)) 1 [(0,(64,(kt 41)))]),ko 43 (.append 64 64 (kt 37) (kt 42)),ko 9 (.move (kt 43))] [3,5,6,9]) .skip)) (.seq (kr [ko 45 (.move (kt 9)),ko 46 (.call 18 [(kt 45)] false),ko 44 (.move (kt 46)),ko 47 (.extract (kt 44) 0),ko 48 (.extract (kt 44) 1),ko 10 (.alloc (Qa 32 (.int .u8 0))),kq (.store 32 (kt 10) (kt 47)),ko 11 (.move (kt 48))] [3,5,6,10,11]) (.seq (.seq (kr [ko 49 (.move (kt 11)),ko 50 (.bin .neq (kt 49) (ki 0))] [3,5,6,10,11,50]) (.cond (kt 50) (.seq (kr [ko 51 (.build (Qa 64 (.int .u8 0)) []),ko 52 (.move (kt 11)),kq (.store 64 (kt 6) (kt 51)),ko 7 (.move (kt 52))] [6,7]) .ret) .skip)) (.seq (kr [ko 53 (.load (some 32) (kt 10)),ko 54 (.load (some 64) (kt 3)),ko 55 (.call 9 [(kt 54)] true),ko 56 (.fieldAddr 0 (kt 5)),ko 57 (.load (some 64) (kt 56)),ko 58 (.call 19 [(kt 55),(kt 57)] true),ko 59 (.build (Qa 64 (.int .u8 0)) [(0,(32,(kt 53))),(32,(32,(kt 58)))]),kq (.store 64 (kt 6) (kt 59)),ko 7 (.move (ki 0))] [6,7]) .ret))))))),[(6,(some (some 64))),(7,none)]⟩
def Qus:AFun:=⟨(.seq (kr [ko 5 (.box (kt 0)),ko 6 (.box (kt 1)),ko 7 (.box (kt 2)),ko 8 (.box (kt 3)),ko 9 (.box (kt 4)),ko 10 (.alloc (Qa 64 (.int .u8 0))),ko 11 (.move (ki 0))] [5,6,7,8,9,10]) (.seq (kr [ko 15 (.load (some 32) (kt 6)),ko 16 (.fieldAddr 32 (kt 8)),ko 17 (.load (some 32) (kt 16)),ko 18 (.build (Qa 64 (.int .u8 0)) [(0,(32,(kt 15))),(32,(32,(kt 17)))]),ko 19 (.fieldAddr 32 (kt 5)),ko 20 (.load (some 32) (kt 19)),ko 21 (.load (some 32) (kt 9)),ko 22 (.build (Qa 64 (.int .u8 0)) [(0,(32,(kt 20))),(32,(32,(kt 21)))]),ko 23 (.load (some 32) (kt 6)),ko 24 (.load (some 32) (kt 9)),ko 25 (.build (Qa 64 (.int .u8 0)) [(0,(32,(kt 23))),(32,(32,(kt 24)))]),ko 26 (.buildSlice (Qa 192 (.int .u8 0)) 3 [(0,(64,(kt 18))),(64,(64,(kt 22))),(128,(64,(kt 25)))]),ko 12 (.move (kt 26))] [5,7,8,9,10,12]) (.seq (.seq (kr [ko 27 (.load (some 32) (kt 7)),ko 28 (.build (Qa 32 (.int .u8 0)) []),ko 29 (.eqv (some (Qa 32 true)) true (kt 27) (kt 28))] [5,7,8,9,10,12,29]) (.cond (kt 29) (kr [ko 30 (.move (kt 12)),ko 31 (.load (some 32) (kt 7)),ko 32 (.load (some 32) (kt 9)),ko 33 (.build (Qa 64 (.int .u8 0)) [(0,(32,(kt 31))),(32,(32,(kt 32)))]),ko 34 (.buildSlice (Qa 64 (.int .u8 0)) 1 [(0,(64,(kt 33)))]),ko 35 (.append 64 64 (kt 30) (kt 34)),ko 12 (.move (kt 35))] [5,8,10,12]) .skip)) (.seq (kr [ko 37 (.move (kt 12)),ko 38 (.call 18 [(kt 37)] false),ko 36 (.move (kt 38)),ko 39 (.extract (kt 36) 0),ko 40 (.extract (kt 36) 1),ko 13 (.alloc (Qa 32 (.int .u8 0))),kq (.store 32 (kt 13) (kt 39)),ko 14 (.move (kt 40))] [5,8,10,13,14]) (.seq (.seq (kr [ko 41 (.move (kt 14)),ko 42 (.bin .neq (kt 41) (ki 0))] [5,8,10,13,14,42]) (.cond (kt 42) (.seq (kr [ko 43 (.build (Qa 64 (.int .u8 0)) []),ko 44 (.move (kt 14)),kq (.store 64 (kt 10) (kt 43)),ko 11 (.move (kt 44))] [10,11]) .ret) .skip)) (.seq (kr [ko 45 (.load (some 32) (kt 13)),ko 46 (.load (some 64) (kt 8)),ko 47 (.load (some 64) (kt 5)),ko 48 (.call 9 [(kt 47)] true),ko 49 (.call 19 [(kt 46),(kt 48)] true),ko 50 (.build (Qa 64 (.int .u8 0)) [(0,(32,(kt 45))),(32,(32,(kt 49)))]),kq (.store 64 (kt 10) (kt 50)),ko 11 (.move (ki 0))] [10,11]) .ret)))))),[(10,(some (some 64))),(11,none)]⟩
def Q3n:AFun:=⟨(.seq (kr [ko 1 (.box (kt 0)),ko 2 (.alloc (Qa 64 (.int .u8 0)))] [1,2]) (.seq (kr [ko 3 (.fieldAddr 0 (kt 1)),ko 4 (.load (some 32) (kt 3)),ko 5 (.call 20 [(kt 4)] true),ko 6 (.fieldAddr 32 (kt 1)),ko 7 (.load (some 32) (kt 6)),ko 8 (.call 10 [(kt 7)] true),ko 9 (.build (Qa 64 (.int .u8 0)) [(0,(32,(kt 5))),(32,(32,(kt 8)))]),kq (.store 64 (kt 2) (kt 9))] [2]) .ret)),[(2,(some (some 64)))]⟩
def Q3m:AFun:=⟨(.seq (kr [ko 1 (.box (kt 0)),ko 2 (.alloc (Qa 32 (.int .u8 0)))] [1,2]) (.seq (kr [ko 3 (.load (some 32) (kt 1)),ko 4 (.build (Qa 32 (.int .u8 0)) [(0,(1,(.const (.int .u8 9))))]),ko 5 (.call 21 [(kt 3),(kt 4)] true),kq (.store 32 (kt 2) (kt 5))] [2]) .ret)),[(2,(some (some 32)))]⟩
def Q3l:AFun:=⟨(.seq (kr [ko 1 (.box (kt 0)),ko 2 (.move (ki 0))] [1]) (.seq (.region [ko 3 (.fieldAddr 0 (kt 1)),ko 4 (.fieldAddr 0 (kt 3)),ko 5 (.load (some 32) (kt 4)),ko 6 (.fieldAddr 130 (kt 1)),ko 7 (.load (some 64) (kt 6)),ko 8 (.fieldAddr 0 (kt 1)),ko 9 (.fieldAddr 32 (kt 8)),ko 10 (.load (some 32) (kt 9)),ko 11 (.fieldAddr 64 (kt 1)),ko 12 (.load (some 32) (kt 11)),ko 13 (.fieldAddr 128 (kt 1)),ko 14 (.load none (kt 13)),ko 15 (.call 17 [(kt 10),(kt 12),(kt 14)] false),ko 16 (.call 22 [(kt 5),(kt 7),(kt 15)] false),ko 2 (.move (kt 16))] (some [2]) [(2,12),(4,12)]) .ret)),[(2,none)]⟩
def Q3k:AFun:=⟨(.seq (kr [ko 3 (.box (kt 0)),ko 4 (.box (kt 1)),ko 6 (.move (.const (.slice none 0 0)))] [2,3,4]) (.seq (kr [ko 7 (.buildSlice (Qa 12 (.int .u8 0)) 12 [(0,(1,(.const (.int .u8 115)))),(1,(1,(.const (.int .u8 105)))),(2,(1,(.const (.int .u8 103)))),(3,(1,(.const (.int .u8 110)))),(4,(1,(.const (.int .u8 101)))),(5,(1,(.const (.int .u8 116)))),(6,(1,(.const (.int .u8 32)))),(7,(1,(.const (.int .u8 111)))),(8,(1,(.const (.int .u8 102)))),(9,(1,(.const (.int .u8 102)))),(10,(1,(.const (.int .u8 101)))),(11,(1,(.const (.int .u8 114))))]),ko 8 (.convSl (kt 7)),ko 9 (.sliceArr 32 1 (kt 3) none none none),ko 10 (.sliceArr 32 1 (kt 4) none none none),ko 11 (.move (kt 2)),ko 12 (.bin .shr (kt 11) (.const (.int .u64 24))),ko 13 (.conv .u8 (kt 12)),ko 14 (.move (kt 2)),ko 15 (.bin .shr (kt 14) (.const (.int .u64 16))),ko 16 (.conv .u8 (kt 15)),ko 17 (.move (kt 2)),ko 18 (.bin .shr (kt 17) (.const (.int .u64 8))),ko 19 (.conv .u8 (kt 18)),ko 20 (.move (kt 2)),ko 21 (.conv .u8 (kt 20)),ko 22 (.buildSlice [(.int .u8 0),(.int .u8 0),(.int .u8 0),(.int .u8 0)] 4 [(0,(1,(kt 13))),(1,(1,(kt 16))),(2,(1,(kt 19))),(3,(1,(kt 21)))]),ko 23 (.buildSlice [(.slice none 0 0),(.slice none 0 0),(.slice none 0 0),(.slice none 0 0)] 4 [(0,(1,(kt 8))),(1,(1,(kt 9))),(2,(1,(kt 10))),(3,(1,(kt 22)))]),ko 6 (.move (kt 23))] [6]) .ret)),[(6,none)]⟩
def Qee:ACode:=(.seq (kr [ko 25 (.bin .lss (kt 24) (kt 23))] [2,4,22,23,24,25]) (.seq (.cond (kt 25) .skip (.exit 2)) (.seq (.block 3 (.seq (kr [ko 26 (.indexSl 64 (kt 22) (kt 24)),ko 27 (.load (some 64) (kt 26)),ko 7 (.alloc (Qa 64 (.int .u8 0))),kq (.store 64 (kt 7) (kt 27))] [2,4,7,22,23,24]) (.seq (kr [ko 29 (.fieldAddr 0 (kt 7)),ko 30 (.load (some 32) (kt 29)),ko 31 (.fieldAddr 32 (kt 7)),ko 32 (.load (some 32) (kt 31)),ko 33 (.call 32 [(kt 30),(kt 32)] true),ko 28 (.move (kt 33)),ko 34 (.extract (kt 28) 0),ko 35 (.extract (kt 28) 1),ko 8 (.alloc (Qa 32 (.int .u8 0))),kq (.store 32 (kt 8) (kt 34)),ko 9 (.move (kt 35))] [2,4,8,9,22,23,24]) (.seq (.seq (kr [ko 36 (.move (kt 9)),ko 37 (.bin .neq (kt 36) (ki 0))] [2,4,8,9,22,23,24,37]) (.cond (kt 37) (.seq (kr [ko 38 (.build (Qa 32 (.int .u8 0)) []),ko 39 (.move (kt 9)),kq (.store 32 (kt 2) (kt 38)),ko 3 (.move (kt 39))] [2,3]) .ret) .skip)) (kr [ko 40 (.move (kt 4)),ko 41 (.sliceArr 32 1 (kt 8) none none none),ko 42 (.append 1 1 (kt 40) (kt 41)),ko 4 (.move (kt 42))] [2,4,22,23,24]))))) (kr [ko 43 (.bin .add (kt 24) (ki 1)),ko 24 (.move (kt 43))] [2,4,22,23,24]))))
def Qed:ACode:=(.seq (kr [ko 16 (.bin .lss (kt 15) (kt 14))] [0,2,4,14,15,16]) (.seq (.cond (kt 16) .skip (.exit 0)) (.seq (.block 1 (.seq (kr [ko 17 (.move (kt 15)),ko 5 (.move (kt 17))] [0,2,4,5,14,15]) (kr [ko 18 (.move (kt 4)),ko 19 (.move (kt 5)),ko 20 (.indexSl 1 (kt 18) (kt 19)),kq (.store 1 (kt 20) (.const (.int .u8 255)))] [0,2,4,14,15]))) (kr [ko 21 (.bin .add (kt 15) (ki 1)),ko 15 (.move (kt 21))] [0,2,4,14,15]))))
def Q3j:AFun:=⟨(.seq (kr [ko 2 (.alloc (Qa 32 (.int .u8 0))),ko 3 (.move (ki 0))] [0,2]) (.seq (kr [ko 12 (.makeSlice [(.int .u8 0)] 1 (ki 32) (ki 32)),ko 4 (.move (kt 12))] [0,2,4]) (.seq (.seq (kr [ko 13 (.move (kt 4)),ko 14 (.len false (kt 13)),ko 15 (.move (ki 0))] [0,2,4,14,15]) (.block 0 (.loop Qed))) (.seq (.seq (kr [ko 22 (.move (kt 0)),ko 23 (.len false (kt 22)),ko 24 (.move (ki 0))] [2,4,22,23,24]) (.block 2 (.loop Qee))) (.seq (kr [ko 45 (.move (kt 4)),ko 46 (.call 33 [(.const (.slice none 0 0)),(kt 45),(.const (.string (ByteArray.mk #[115,105,103,110,101,116,32,97,103,114,101,101]))),(ki 1)] false),ko 44 (.move (kt 46)),ko 47 (.extract (kt 44) 0),ko 48 (.extract (kt 44) 1),ko 10 (.move (kt 47)),ko 11 (.move (kt 48))] [2,10,11]) (.seq (.seq (kr [ko 49 (.move (kt 11)),ko 50 (.bin .neq (kt 49) (ki 0))] [2,10,11,50]) (.cond (kt 50) (.seq (kr [ko 51 (.build (Qa 32 (.int .u8 0)) []),ko 52 (.move (kt 11)),kq (.store 32 (kt 2) (kt 51)),ko 3 (.move (kt 52))] [2,3]) .ret) .skip)) (.seq (kr [ko 53 (.move (kt 10)),ko 54 (.indexSl 32 (kt 53) (ki 0)),ko 55 (.load (some 32) (kt 54)),kq (.store 32 (kt 2) (kt 55)),ko 3 (.move (ki 0))] [2,3]) .ret))))))),[(2,(some (some 32))),(3,none)]⟩
def Q3i:AFun:=⟨(.seq (kr [ko 2 (.box (kt 0)),ko 3 (.box (kt 1)),ko 4 (.alloc (Qa 32 (.int .u8 0)))] [2,3,4]) (.seq (kr [ko 5 (.buildSlice (Qa 12 (.int .u8 0)) 12 [(0,(1,(.const (.int .u8 115)))),(1,(1,(.const (.int .u8 105)))),(2,(1,(.const (.int .u8 103)))),(3,(1,(.const (.int .u8 110)))),(4,(1,(.const (.int .u8 101)))),(5,(1,(.const (.int .u8 116)))),(6,(1,(.const (.int .u8 32)))),(7,(1,(.const (.int .u8 98)))),(8,(1,(.const (.int .u8 111)))),(9,(1,(.const (.int .u8 117)))),(10,(1,(.const (.int .u8 110)))),(11,(1,(.const (.int .u8 100))))]),ko 6 (.convSl (kt 5)),ko 7 (.fieldAddr 0 (kt 2)),ko 8 (.sliceArr 32 1 (kt 7) none none none),ko 9 (.fieldAddr 32 (kt 2)),ko 10 (.sliceArr 32 1 (kt 9) none none none),ko 11 (.fieldAddr 0 (kt 3)),ko 12 (.sliceArr 32 1 (kt 11) none none none),ko 13 (.fieldAddr 32 (kt 3)),ko 14 (.sliceArr 32 1 (kt 13) none none none),ko 15 (.buildSlice (Qa 5 (.slice none 0 0)) 5 [(0,(1,(kt 6))),(1,(1,(kt 8))),(2,(1,(kt 10))),(3,(1,(kt 12))),(4,(1,(kt 14)))]),ko 16 (.call 34 [(kt 15)] false),kq (.store 32 (kt 4) (kt 16))] [4]) .ret)),[(4,(some (some 32)))]⟩
def Qcf:ACode:=(.seq (.seq (kr [ko 19 (.move (kt 8)),ko 20 (.bin .geq (kt 19) (ki 0))] [2,4,5,6,7,8,20]) (.cond (kt 20) .skip (.exit 0))) (.seq (.block 1 (.seq (kr [ko 23 (.move (kt 8)),ko 24 (.bin .quo (kt 23) (ki 8)),ko 25 (.indexAddr 32 1 (kt 2) (kt 24)),ko 26 (.load none (kt 25)),ko 27 (.move (kt 8)),ko 28 (.bin .rem (kt 27) (ki 8)),ko 29 (.bin .shr (kt 26) (kt 28)),ko 30 (.bin .and (kt 29) (.const (.int .u8 1))),ko 31 (.bin .eql (kt 30) (.const (.int .u8 1))),ko 9 (.move (kt 31))] [2,4,5,6,7,8,9]) (.seq (kr [ko 33 (.move (kt 9)),ko 34 (.load (some 10) (kt 6)),ko 35 (.load (some 10) (kt 7)),ko 36 (.call 38 [(kt 33),(kt 34),(kt 35)] true),ko 32 (.move (kt 36)),ko 37 (.extract (kt 32) 0),ko 38 (.extract (kt 32) 1),kq (.store 10 (kt 6) (kt 37)),kq (.store 10 (kt 7) (kt 38))] [2,4,5,6,7,8,9]) (.seq (kr [ko 40 (.load (some 10) (kt 6)),ko 41 (.load (some 10) (kt 7)),ko 42 (.load (some 5) (kt 5)),ko 43 (.call 39 [(kt 40),(kt 41),(kt 42)] true),ko 39 (.move (kt 43)),ko 44 (.extract (kt 39) 0),ko 45 (.extract (kt 39) 1),kq (.store 10 (kt 6) (kt 44)),kq (.store 10 (kt 7) (kt 45))] [2,4,5,6,7,8,9]) (kr [ko 47 (.move (kt 9)),ko 48 (.load (some 10) (kt 6)),ko 49 (.load (some 10) (kt 7)),ko 50 (.call 38 [(kt 47),(kt 48),(kt 49)] true),ko 46 (.move (kt 50)),ko 51 (.extract (kt 46) 0),ko 52 (.extract (kt 46) 1),kq (.store 10 (kt 6) (kt 51)),kq (.store 10 (kt 7) (kt 52))] [2,4,5,6,7,8]))))) (kr [ko 21 (.move (kt 8)),ko 22 (.bin .sub (kt 21) (ki 1)),ko 8 (.move (kt 22))] [2,4,5,6,7,8])))
def Q3h:AFun:=⟨(.seq (kr [ko 2 (.box (kt 0)),ko 3 (.box (kt 1)),ko 4 (.alloc (Qa 32 (.int .u8 0)))] [2,3,4]) (.seq (kr [ko 10 (.load (some 32) (kt 2)),ko 11 (.call 35 [(kt 10)] true),kq (.store 32 (kt 2) (kt 11))] [2,3,4]) (.seq (kr [ko 12 (.load (some 32) (kt 3)),ko 13 (.call 36 [(kt 12)] true),ko 5 (.alloc (Qa 5 (.int .u64 0))),kq (.store 5 (kt 5) (kt 13))] [2,4,5]) (.seq (.region [ko 14 (.call 37 [(.const (.int .u32 1))] true),ko 15 (.build (Qa 10 (.int .u64 0)) [(0,(5,(kt 14)))]),ko 16 (.load (some 5) (kt 5)),ko 17 (.call 37 [(.const (.int .u32 1))] true),ko 18 (.build (Qa 10 (.int .u64 0)) [(0,(5,(kt 16))),(5,(5,(kt 17)))]),ko 6 (.alloc (Qa 10 (.int .u64 0))),ko 7 (.alloc (Qa 10 (.int .u64 0))),kq (.store 10 (kt 6) (kt 15)),kq (.store 10 (kt 7) (kt 18))] (some [2,4,5,6,7]) [(2,7)]) (.seq (.seq (kr [ko 8 (.move (ki 254))] [2,4,5,6,7,8]) (.block 0 (.loop Qcf))) (.seq (kr [ko 53 (.fieldAddr 0 (kt 6)),ko 54 (.load (some 5) (kt 53)),ko 55 (.fieldAddr 5 (kt 6)),ko 56 (.load (some 5) (kt 55)),ko 57 (.call 41 [(kt 56)] true),ko 58 (.call 40 [(kt 54),(kt 57)] true),ko 59 (.call 42 [(kt 58)] true),kq (.store 32 (kt 4) (kt 59))] [4]) .ret)))))),[(4,(some (some 32)))]⟩
def Qur:AFun:=⟨(.seq (kr [ko 2 (.box (kt 0)),ko 3 (.box (kt 1)),ko 4 (.alloc (Qa 32 (.int .u8 0))),ko 5 (.move (ki 0))] [2,3,4]) (.seq (kr [ko 7 (.load (some 32) (kt 2)),ko 8 (.load (some 32) (kt 3)),ko 9 (.call 21 [(kt 7),(kt 8)] true),ko 6 (.alloc (Qa 32 (.int .u8 0))),kq (.store 32 (kt 6) (kt 9))] [4,6]) (.seq (.seq (kr [ko 10 (.load (some 32) (kt 6)),ko 11 (.build (Qa 32 (.int .u8 0)) []),ko 12 (.eqv (some (Qa 32 true)) false (kt 10) (kt 11))] [4,6,12]) (.cond (kt 12) (.seq (kr [ko 13 (.build (Qa 32 (.int .u8 0)) []),kq (.store 32 (kt 4) (kt 13)),ko 5 (.move (ki 50))] [4,5]) .ret) .skip)) (.seq (kr [ko 14 (.load (some 32) (kt 6)),kq (.store 32 (kt 4) (kt 14)),ko 5 (.move (ki 0))] [4,5]) .ret)))),[(4,(some (some 32))),(5,none)]⟩
def Qec:ACode:=(.seq (.seq (kr [ko 35 (.move (kt 10)),ko 36 (.len false (kt 35)),ko 37 (.bin .gtr (kt 36) (ki 0))] [10,12,37]) (.cond (kt 37) .skip (.exit 0))) (.seq (.block 1 (kr [ko 40 (.move (kt 12)),ko 41 (.move (kt 10)),ko 42 (.sliceSl 1 (kt 41) none (some (ki 32)) none),ko 43 (.s2ap 32 (kt 42)),ko 44 (.load (some 32) (kt 43)),ko 45 (.buildSlice (Qa 32 (.int .u8 0)) 1 [(0,(32,(kt 44)))]),ko 46 (.append 32 32 (kt 40) (kt 45)),ko 12 (.move (kt 46))] [10,12])) (kr [ko 38 (.move (kt 10)),ko 39 (.sliceSl 1 (kt 38) (some (ki 32)) none none),ko 10 (.move (kt 39))] [10,12])))
def Q3g:AFun:=⟨(.seq (kr [ko 8 (.move (.const (.slice none 0 0))),ko 9 (.move (ki 0))] [0,1,2,3]) (.seq (.seq (kr [ko 13 (.move (kt 3)),ko 14 (.bin .lss (kt 13) (ki 0)),ko 15 (.move (kt 14)),.mk (some 16) (.move (kt 3)) (some (15,false)),.mk (some 17) (.bin .gtr (kt 16) (ki 255)) (some (15,false)),ko 18 (.pick (kt 15) (.const (.bool true)) (kt 17))] [0,1,2,3,18]) (.cond (kt 18) (.seq (kr [ko 8 (.move (.const (.slice none 0 0))),ko 9 (.move (ki 1))] [8,9]) .ret) .skip)) (.seq (kr [ko 20 (.move (kt 0)),ko 21 (.move (kt 1)),ko 22 (.buildSlice [(.slice none 0 0)] 1 [(0,(1,(kt 21)))]),ko 23 (.call 63 [(kt 20),(kt 22)] false),ko 24 (.move (kt 3)),ko 25 (.bin .mul (kt 24) (ki 32)),ko 26 (.move (kt 2)),ko 27 (.s2b (kt 26)),ko 28 (.buildSlice [(.slice none 0 0)] 1 [(0,(1,(kt 27)))]),ko 29 (.call 62 [(kt 23),(kt 25),(kt 28)] false),ko 19 (.move (kt 29)),ko 30 (.extract (kt 19) 0),ko 31 (.extract (kt 19) 1),ko 10 (.move (kt 30)),ko 11 (.move (kt 31))] [10,11]) (.seq (.seq (kr [ko 32 (.move (kt 11)),ko 33 (.bin .neq (kt 32) (ki 0))] [10,11,33]) (.cond (kt 33) (.seq (kr [ko 34 (.move (kt 11)),ko 8 (.move (.const (.slice none 0 0))),ko 9 (.move (kt 34))] [8,9]) .ret) .skip)) (.seq (kr [ko 12 (.move (.const (.slice none 0 0)))] [10,12]) (.seq (.block 0 (.loop Qec)) (.seq (kr [ko 47 (.move (kt 12)),ko 8 (.move (kt 47)),ko 9 (.move (ki 0))] [8,9]) .ret))))))),[(8,none),(9,none)]⟩
def Q3f:AFun:=⟨(.seq (kr [ko 2 (.alloc (Qa 32 (.int .u8 0)))] [0,2]) (.seq (kr [ko 4 (.call 64 [] false),ko 3 (.move (kt 4))] [0,2,3]) (.seq (kr [ko 5 (.move (kt 3)),ko 6 (.move (kt 0)),ko 7 (.call 65 [(kt 5),(kt 6)] false)] [2,3]) (.seq (kr [ko 8 (.move (kt 3)),ko 9 (.call 66 [(kt 8)] false),kq (.store 32 (kt 2) (kt 9))] [2]) .ret)))),[(2,(some (some 32)))]⟩
def Q3e:AFun:=⟨(.seq (kr [ko 4 (.box (kt 1)),ko 5 (.box (kt 2)),ko 6 (.alloc (Qa 10 (.int .u64 0))),ko 7 (.alloc (Qa 10 (.int .u64 0)))] [0,4,5,6,7]) (.seq (kr [ko 9 (.move (kt 0)),ko 10 (.fieldAddr 0 (kt 4)),ko 11 (.load (some 5) (kt 10)),ko 12 (.fieldAddr 0 (kt 5)),ko 13 (.load (some 5) (kt 12)),ko 14 (.call 67 [(kt 9),(kt 11),(kt 13)] true),ko 8 (.move (kt 14)),ko 15 (.extract (kt 8) 0),ko 16 (.extract (kt 8) 1),ko 17 (.fieldAddr 0 (kt 4)),kq (.store 5 (kt 17) (kt 15)),ko 18 (.fieldAddr 0 (kt 5)),kq (.store 5 (kt 18) (kt 16))] [0,4,5,6,7]) (.seq (kr [ko 20 (.move (kt 0)),ko 21 (.fieldAddr 5 (kt 4)),ko 22 (.load (some 5) (kt 21)),ko 23 (.fieldAddr 5 (kt 5)),ko 24 (.load (some 5) (kt 23)),ko 25 (.call 67 [(kt 20),(kt 22),(kt 24)] true),ko 19 (.move (kt 25)),ko 26 (.extract (kt 19) 0),ko 27 (.extract (kt 19) 1),ko 28 (.fieldAddr 5 (kt 4)),kq (.store 5 (kt 28) (kt 26)),ko 29 (.fieldAddr 5 (kt 5)),kq (.store 5 (kt 29) (kt 27))] [4,5,6,7]) (.seq (.region [ko 30 (.load (some 10) (kt 4)),ko 31 (.load (some 10) (kt 5)),kq (.store 10 (kt 6) (kt 30)),kq (.store 10 (kt 7) (kt 31))] (some [6,7]) [(1,2)]) .ret)))),[(6,(some (some 10))),(7,(some (some 10)))]⟩
def Q3d:AFun:=⟨(.seq (kr [ko 3 (.box (kt 0)),ko 4 (.box (kt 1)),ko 5 (.box (kt 2)),ko 6 (.alloc (Qa 10 (.int .u64 0))),ko 7 (.alloc (Qa 10 (.int .u64 0)))] [3,4,5,6,7]) (.seq (.region [ko 17 (.fieldAddr 0 (kt 3)),ko 18 (.load (some 5) (kt 17)),ko 19 (.fieldAddr 5 (kt 3)),ko 20 (.load (some 5) (kt 19)),ko 21 (.buildSlice (Qa 10 (.int .u64 0)) 2 [(0,(5,(kt 18))),(5,(5,(kt 20)))]),ko 22 (.call 68 [(kt 21)] false),ko 23 (.fieldAddr 0 (kt 3)),ko 24 (.load (some 5) (kt 23)),ko 25 (.fieldAddr 5 (kt 3)),ko 26 (.load (some 5) (kt 25)),ko 27 (.call 69 [(kt 24),(kt 26)] true),ko 8 (.alloc (Qa 5 (.int .u64 0))),ko 9 (.alloc (Qa 5 (.int .u64 0))),kq (.store 5 (kt 8) (kt 22)),kq (.store 5 (kt 9) (kt 27))] (some [4,5,6,7,8,9]) [(5,7),(5,9)]) (.seq (.region [ko 28 (.fieldAddr 0 (kt 4)),ko 29 (.load (some 5) (kt 28)),ko 30 (.fieldAddr 5 (kt 4)),ko 31 (.load (some 5) (kt 30)),ko 32 (.call 69 [(kt 29),(kt 31)] true),ko 33 (.load (some 5) (kt 8)),ko 34 (.call 40 [(kt 32),(kt 33)] true),ko 35 (.fieldAddr 0 (kt 4)),ko 36 (.load (some 5) (kt 35)),ko 37 (.fieldAddr 5 (kt 4)),ko 38 (.load (some 5) (kt 37)),ko 39 (.buildSlice (Qa 10 (.int .u64 0)) 2 [(0,(5,(kt 36))),(5,(5,(kt 38)))]),ko 40 (.call 68 [(kt 39)] false),ko 41 (.load (some 5) (kt 9)),ko 42 (.call 40 [(kt 40),(kt 41)] true),ko 10 (.alloc (Qa 5 (.int .u64 0))),ko 11 (.alloc (Qa 5 (.int .u64 0))),kq (.store 5 (kt 10) (kt 34)),kq (.store 5 (kt 11) (kt 42))] (some [5,6,7,8,9,10,11]) [(12,13)]) (.seq (kr [ko 43 (.load (some 5) (kt 8)),ko 44 (.load (some 5) (kt 8)),ko 45 (.call 40 [(kt 43),(kt 44)] true),ko 46 (.load (some 5) (kt 9)),ko 47 (.load (some 5) (kt 9)),ko 48 (.call 40 [(kt 46),(kt 47)] true),ko 12 (.alloc (Qa 5 (.int .u64 0))),ko 13 (.alloc (Qa 5 (.int .u64 0))),kq (.store 5 (kt 12) (kt 45)),kq (.store 5 (kt 13) (kt 48))] [5,6,7,10,11,12,13]) (.seq (kr [ko 49 (.load (some 5) (kt 12)),ko 50 (.load (some 5) (kt 13)),ko 51 (.call 69 [(kt 49),(kt 50)] true),ko 14 (.alloc (Qa 5 (.int .u64 0))),kq (.store 5 (kt 14) (kt 51))] [5,6,7,10,11,12,13,14]) (.seq (.region [ko 52 (.load (some 5) (kt 10)),ko 53 (.load (some 5) (kt 11)),ko 54 (.buildSlice (Qa 10 (.int .u64 0)) 2 [(0,(5,(kt 52))),(5,(5,(kt 53)))]),ko 55 (.call 68 [(kt 54)] false),ko 56 (.load (some 5) (kt 10)),ko 57 (.load (some 5) (kt 11)),ko 58 (.call 69 [(kt 56),(kt 57)] true),ko 15 (.alloc (Qa 5 (.int .u64 0))),ko 16 (.alloc (Qa 5 (.int .u64 0))),kq (.store 5 (kt 15) (kt 55)),kq (.store 5 (kt 16) (kt 58))] (some [5,6,7,12,13,14,15,16]) [(3,4),(3,5)]) (.seq (.region [ko 59 (.load (some 5) (kt 12)),ko 60 (.load (some 5) (kt 13)),ko 61 (.call 40 [(kt 59),(kt 60)] true),ko 62 (.load (some 5) (kt 14)),ko 63 (.load (some 5) (kt 12)),ko 64 (.call 37 [(.const (.int .u32 121665))] true),ko 65 (.load (some 5) (kt 14)),ko 66 (.call 40 [(kt 64),(kt 65)] true),ko 67 (.buildSlice (Qa 10 (.int .u64 0)) 2 [(0,(5,(kt 63))),(5,(5,(kt 66)))]),ko 68 (.call 68 [(kt 67)] false),ko 69 (.call 40 [(kt 62),(kt 68)] true),ko 70 (.build (Qa 10 (.int .u64 0)) [(0,(5,(kt 61))),(5,(5,(kt 69)))]),ko 71 (.load (some 5) (kt 15)),ko 72 (.load (some 5) (kt 15)),ko 73 (.call 40 [(kt 71),(kt 72)] true),ko 74 (.load (some 5) (kt 5)),ko 75 (.load (some 5) (kt 16)),ko 76 (.load (some 5) (kt 16)),ko 77 (.buildSlice (Qa 15 (.int .u64 0)) 3 [(0,(5,(kt 74))),(5,(5,(kt 75))),(10,(5,(kt 76)))]),ko 78 (.call 70 [(kt 77)] false),ko 79 (.build (Qa 10 (.int .u64 0)) [(0,(5,(kt 73))),(5,(5,(kt 78)))]),kq (.store 10 (kt 6) (kt 70)),kq (.store 10 (kt 7) (kt 79))] (some [6,7]) [(3,9),(9,12),(9,13),(9,15),(9,16),(9,17)]) .ret))))))),[(6,(some (some 10))),(7,(some (some 10)))]⟩
def Qeb:ACode:=(.seq (.seq (kr [ko 19 (.move (kt 8)),ko 20 (.len false (kt 19)),ko 21 (.move (kt 1)),ko 22 (.bin .lss (kt 20) (kt 21))] [1,2,3,8,9,10,22]) (.cond (kt 22) .skip (.exit 0))) (.seq (.block 1 (.seq (kr [ko 25 (.sliceArr 32 1 (kt 3) none none none),ko 26 (.call 90 [(kt 25)] false),ko 11 (.move (kt 26))] [1,2,3,8,9,10,11]) (.seq (kr [ko 27 (.move (kt 11)),ko 28 (.nilCheck (kt 27)),ko 29 (.fieldAddr 0 (kt 28)),ko 30 (.load none (kt 29)),ko 31 (.move (kt 9)),ko 32 (.buildSlice [(.slice none 0 0)] 1 [(0,(1,(kt 31)))]),ko 33 (.call 65 [(kt 30),(kt 32)] false)] [1,2,3,8,10,11]) (.seq (kr [ko 34 (.move (kt 11)),ko 35 (.nilCheck (kt 34)),ko 36 (.fieldAddr 0 (kt 35)),ko 37 (.load none (kt 36)),ko 38 (.move (kt 2)),ko 39 (.call 65 [(kt 37),(kt 38)] false)] [1,2,3,8,10,11]) (.seq (kr [ko 40 (.move (kt 11)),ko 41 (.nilCheck (kt 40)),ko 42 (.fieldAddr 0 (kt 41)),ko 43 (.load none (kt 42)),ko 44 (.move (kt 10)),ko 45 (.buildSlice [(.int .u8 0)] 1 [(0,(1,(kt 44)))]),ko 46 (.buildSlice [(.slice none 0 0)] 1 [(0,(1,(kt 45)))]),ko 47 (.call 65 [(kt 43),(kt 46)] false)] [1,2,3,8,10,11]) (.seq (kr [ko 48 (.move (kt 11)),ko 49 (.call 91 [(kt 48)] false),ko 12 (.alloc (Qa 32 (.int .u8 0))),kq (.store 32 (kt 12) (kt 49))] [1,2,3,8,10,12]) (.seq (kr [ko 50 (.sliceArr 32 1 (kt 12) none none none),ko 9 (.move (kt 50))] [1,2,3,8,9,10]) (kr [ko 51 (.move (kt 8)),ko 52 (.move (kt 9)),ko 53 (.append 1 1 (kt 51) (kt 52)),ko 8 (.move (kt 53))] [1,2,3,8,9,10])))))))) (kr [ko 23 (.move (kt 10)),ko 24 (.bin .add (kt 23) (.const (.int .u8 1))),ko 10 (.move (kt 24))] [1,2,3,8,9,10])))
def Q3c:AFun:=⟨(.seq (kr [ko 3 (.box (kt 0)),ko 6 (.move (.const (.slice none 0 0))),ko 7 (.move (ki 0))] [1,2,3]) (.seq (.seq (kr [ko 13 (.move (kt 1)),ko 14 (.bin .lss (kt 13) (ki 0)),ko 15 (.move (kt 14)),.mk (some 16) (.move (kt 1)) (some (15,false)),.mk (some 17) (.bin .gtr (kt 16) (ki 8160)) (some (15,false)),ko 18 (.pick (kt 15) (.const (.bool true)) (kt 17))] [1,2,3,18]) (.cond (kt 18) (.seq (kr [ko 6 (.move (.const (.slice none 0 0))),ko 7 (.move (ki 1))] [6,7]) .ret) .skip)) (.seq (kr [ko 8 (.move (.const (.slice none 0 0))),ko 9 (.move (.const (.slice none 0 0)))] [1,2,3,8,9]) (.seq (.seq (kr [ko 10 (.move (.const (.int .u8 1)))] [1,2,3,8,9,10]) (.block 0 (.loop Qeb))) (.seq (kr [ko 54 (.move (kt 8)),ko 55 (.move (kt 1)),ko 56 (.move (kt 1)),ko 57 (.sliceSl 1 (kt 54) none (some (kt 55)) (some (kt 56))),ko 6 (.move (kt 57)),ko 7 (.move (ki 0))] [6,7]) .ret))))),[(6,none),(7,none)]⟩
def Q3b:AFun:=⟨(.seq (kr [ko 4 (.alloc (Qa 32 (.int .u8 0)))] [0,1,4]) (.seq (kr [ko 5 (.move (kt 0)),ko 6 (.move (kt 1)),ko 7 (.call 92 [(kt 5),(kt 6)] false),kq (.store 32 (kt 4) (kt 7))] [4]) .ret)),[(4,(some (some 32)))]⟩
def Q3a:AFun:=⟨(.seq (kr [ko 0 (.move (.const (.pointer none)))] []) (.seq (kr [ko 1 (.build (Qa 8 (.int .u32 0)) [(0,(1,(.const (.int .u32 1779033703)))),(1,(1,(.const (.int .u32 3144134277)))),(2,(1,(.const (.int .u32 1013904242)))),(3,(1,(.const (.int .u32 2773480762)))),(4,(1,(.const (.int .u32 1359893119)))),(5,(1,(.const (.int .u32 2600822924)))),(6,(1,(.const (.int .u32 528734635)))),(7,(1,(.const (.int .u32 1541459225))))]),ko 2 (.build [(.slice none 0 0),(.int .u64 0),(.int .u32 0),(.int .u32 0),(.int .u32 0),(.int .u32 0),(.int .u32 0),(.int .u32 0),(.int .u32 0),(.int .u32 0)] [(2,(8,(kt 1)))]),ko 3 (.box (kt 2)),ko 0 (.move (kt 3))] [0]) .ret)),[(0,none)]⟩
def Qea:ACode:=(.seq (kr [ko 9 (.bin .lss (kt 8) (kt 7))] [0,6,7,8,9]) (.seq (.cond (kt 9) .skip (.exit 0)) (.seq (.block 1 (.seq (kr [ko 10 (.indexSl 1 (kt 6) (kt 8)),ko 11 (.load none (kt 10)),ko 5 (.move (kt 11))] [0,5,6,7,8]) (kr [ko 12 (.move (kt 0)),ko 13 (.nilCheck (kt 12)),ko 14 (.fieldAddr 0 (kt 13)),ko 15 (.move (kt 5)),ko 16 (.move (kt 0)),ko 17 (.mkFunc (.func 94) [(kt 16)] []),ko 18 (.call 93 [(kt 14),(ki 64),(kt 15),(kt 17)] false)] [0,6,7,8]))) (kr [ko 19 (.bin .add (kt 8) (ki 1)),ko 8 (.move (kt 19))] [0,6,7,8]))))
def Q29:AFun:=⟨(.seq (kr [ko 6 (.move (kt 1)),ko 7 (.len false (kt 6)),ko 8 (.move (ki 0))] [0,6,7,8]) (.block 0 (.loop Qea))),[]⟩
def Qd9:ACode:=(.seq (kr [ko 33 (.bin .lss (kt 32) (ki 32))] [2,3,4,32,33]) (.seq (.cond (kt 33) .skip (.exit 0)) (.seq (.block 1 (.seq (kr [ko 34 (.move (kt 32)),ko 5 (.move (kt 34))] [2,3,4,5,32]) (kr [ko 35 (.move (kt 5)),ko 36 (.move (kt 3)),ko 37 (.move (kt 5)),ko 38 (.bin .quo (kt 37) (ki 4)),ko 39 (.nilCheck (kt 36)),ko 40 (.fieldAddr 2 (kt 39)),ko 41 (.indexAddr 8 1 (kt 40) (kt 38)),ko 42 (.load none (kt 41)),ko 43 (.move (kt 5)),ko 44 (.bin .rem (kt 43) (ki 4)),ko 45 (.bin .mul (ki 8) (kt 44)),ko 46 (.bin .sub (ki 24) (kt 45)),ko 47 (.bin .shr (kt 42) (kt 46)),ko 48 (.conv .u8 (kt 47)),ko 49 (.indexAddr 32 1 (kt 4) (kt 35)),kq (.store 1 (kt 49) (kt 48))] [2,3,4,32]))) (kr [ko 50 (.bin .add (kt 32) (ki 1)),ko 32 (.move (kt 50))] [2,3,4,32]))))
def Q28:AFun:=⟨(.seq (kr [ko 2 (.alloc (Qa 32 (.int .u8 0)))] [0,2]) (.seq (.region [ko 6 (.buildSlice [] 0 []),ko 7 (.move (kt 0)),ko 8 (.nilCheck (kt 7)),ko 9 (.fieldAddr 0 (kt 8)),ko 10 (.fieldAddr 0 (kt 9)),ko 11 (.load none (kt 10)),ko 12 (.append 1 1 (kt 6) (kt 11)),ko 13 (.move (kt 0)),ko 14 (.nilCheck (kt 13)),ko 15 (.fieldAddr 0 (kt 14)),ko 16 (.fieldAddr 1 (kt 15)),ko 17 (.load none (kt 16)),ko 18 (.build [(.slice none 0 0),(.int .u64 0)] [(0,(1,(kt 12))),(1,(1,(kt 17)))]),ko 19 (.move (kt 0)),ko 20 (.nilCheck (kt 19)),ko 21 (.fieldAddr 2 (kt 20)),ko 22 (.load (some 8) (kt 21)),ko 23 (.build [(.slice none 0 0),(.int .u64 0),(.int .u32 0),(.int .u32 0),(.int .u32 0),(.int .u32 0),(.int .u32 0),(.int .u32 0),(.int .u32 0),(.int .u32 0)] [(0,(2,(kt 18))),(2,(8,(kt 22)))]),ko 24 (.box (kt 23)),ko 3 (.move (kt 24))] (some [0,2,3]) [(6,11),(6,16)]) (.seq (kr [ko 25 (.move (kt 3)),ko 26 (.move (kt 0)),ko 27 (.nilCheck (kt 26)),ko 28 (.fieldAddr 0 (kt 27)),ko 29 (.call 95 [(kt 28),(ki 64),(ki 8)] false),ko 30 (.buildSlice [(.slice none 0 0)] 1 [(0,(1,(kt 29)))]),ko 31 (.call 65 [(kt 25),(kt 30)] false)] [2,3]) (.seq (kr [ko 4 (.alloc (Qa 32 (.int .u8 0)))] [2,3,4]) (.seq (.seq (kr [ko 32 (.move (ki 0))] [2,3,4,32]) (.block 0 (.loop Qd9))) (.seq (kr [ko 51 (.load (some 32) (kt 4)),kq (.store 32 (kt 2) (kt 51))] [2]) .ret)))))),[(2,(some (some 32)))]⟩
def Qd8:ACode:=(.seq (kr [ko 15 (.bin .lss (kt 14) (ki 5))] [4,5,6,7,8,14,15]) (.seq (.cond (kt 15) .skip (.exit 0)) (.seq (.block 1 (.seq (kr [ko 16 (.move (kt 14)),ko 9 (.move (kt 16))] [4,5,6,7,8,9,14]) (.seq (kr [ko 17 (.move (kt 8)),ko 18 (.move (kt 9)),ko 19 (.fieldAddr 0 (kt 4)),ko 20 (.indexAddr 5 1 (kt 19) (kt 18)),ko 21 (.load none (kt 20)),ko 22 (.move (kt 9)),ko 23 (.fieldAddr 0 (kt 5)),ko 24 (.indexAddr 5 1 (kt 23) (kt 22)),ko 25 (.load none (kt 24)),ko 26 (.bin .xor (kt 21) (kt 25)),ko 27 (.bin .and (kt 17) (kt 26)),ko 10 (.move (kt 27))] [4,5,6,7,8,9,10,14]) (.seq (kr [ko 28 (.move (kt 9)),ko 29 (.fieldAddr 0 (kt 4)),ko 30 (.indexAddr 5 1 (kt 29) (kt 28)),ko 31 (.load none (kt 30)),ko 32 (.move (kt 10)),ko 33 (.bin .xor (kt 31) (kt 32)),ko 34 (.fieldAddr 0 (kt 4)),ko 35 (.indexAddr 5 1 (kt 34) (kt 28)),kq (.store 1 (kt 35) (kt 33))] [4,5,6,7,8,9,10,14]) (kr [ko 36 (.move (kt 9)),ko 37 (.fieldAddr 0 (kt 5)),ko 38 (.indexAddr 5 1 (kt 37) (kt 36)),ko 39 (.load none (kt 38)),ko 40 (.move (kt 10)),ko 41 (.bin .xor (kt 39) (kt 40)),ko 42 (.fieldAddr 0 (kt 5)),ko 43 (.indexAddr 5 1 (kt 42) (kt 36)),kq (.store 1 (kt 43) (kt 41))] [4,5,6,7,8,14]))))) (kr [ko 44 (.bin .add (kt 14) (ki 1)),ko 14 (.move (kt 44))] [4,5,6,7,8,14]))))
def Qzb:AFun:=⟨(.seq (kr [ko 4 (.box (kt 1)),ko 5 (.box (kt 2)),ko 6 (.alloc (Qa 5 (.int .u64 0))),ko 7 (.alloc (Qa 5 (.int .u64 0)))] [0,4,5,6,7]) (.seq (kr [ko 8 (.move (.const (.int .u64 0)))] [0,4,5,6,7,8]) (.seq (.seq (kr [ko 11 (.move (kt 0))] [4,5,6,7,8,11]) (.cond (kt 11) (kr [ko 12 (.move (kt 8)),ko 13 (.bin .sub (kt 12) (.const (.int .u64 1))),ko 8 (.move (kt 13))] [4,5,6,7,8]) .skip)) (.seq (.seq (kr [ko 14 (.move (ki 0))] [4,5,6,7,8,14]) (.block 0 (.loop Qd8))) (.seq (.region [ko 45 (.load (some 5) (kt 4)),ko 46 (.load (some 5) (kt 5)),kq (.store 5 (kt 6) (kt 45)),kq (.store 5 (kt 7) (kt 46))] (some [6,7]) [(1,2)]) .ret))))),[(6,(some (some 5))),(7,(some (some 5)))]⟩
def Qd7:ACode:=(.seq (kr [ko 23 (.bin .lss (kt 22) (ki 64))] [3,4,21,22,23]) (.seq (.cond (kt 23) .skip (.exit 0)) (.seq (.block 1 (.seq (kr [ko 24 (.move (kt 22)),ko 25 (.index none 64 1 (kt 21) (kt 22)),ko 6 (.move (kt 24)),ko 7 (.move (kt 25))] [3,4,6,7,21,22]) (kr [ko 26 (.move (kt 6)),ko 27 (.move (kt 4)),ko 28 (.move (kt 6)),ko 29 (.move (kt 7)),ko 30 (.bin .xor (kt 29) (.const (.int .u8 54))),ko 31 (.move (kt 7)),ko 32 (.bin .xor (kt 31) (.const (.int .u8 92))),ko 33 (.indexAddr 64 1 (kt 3) (kt 26)),kq (.store 1 (kt 33) (kt 30)),ko 34 (.nilCheck (kt 27)),ko 35 (.fieldAddr 1 (kt 34)),ko 36 (.indexAddr 64 1 (kt 35) (kt 28)),kq (.store 1 (kt 36) (kt 32))] [3,4,21,22]))) (kr [ko 37 (.bin .add (kt 22) (ki 1)),ko 22 (.move (kt 37))] [3,4,21,22]))))
def Q27:AFun:=⟨(.seq (kr [ko 2 (.move (.const (.pointer none)))] [0]) (.seq (kr [ko 3 (.alloc (Qa 64 (.int .u8 0)))] [0,3]) (.seq (kr [ko 8 (.call 64 [] false),ko 9 (.build zMac [(0,(1,(kt 8)))]),ko 10 (.box (kt 9)),ko 4 (.move (kt 10))] [0,3,4]) (.seq (.seq (kr [ko 11 (.move (kt 0)),ko 12 (.len false (kt 11)),ko 13 (.bin .gtr (kt 12) (ki 64))] [0,3,4,13]) (.cond (kt 13) (.seq (kr [ko 14 (.move (kt 0)),ko 15 (.buildSlice [(.slice none 0 0)] 1 [(0,(1,(kt 14)))]),ko 16 (.call 34 [(kt 15)] false),ko 5 (.alloc (Qa 32 (.int .u8 0))),kq (.store 32 (kt 5) (kt 16))] [3,4,5]) (kr [ko 17 (.sliceArr 32 1 (kt 5) none none none),ko 0 (.move (kt 17))] [0,3,4])) .skip)) (.seq (kr [ko 18 (.sliceArr 64 1 (kt 3) none none none),ko 19 (.move (kt 0)),ko 20 (.copy 1 (kt 18) (kt 19))] [3,4]) (.seq (.seq (kr [ko 21 (.load (some 64) (kt 3)),ko 22 (.move (ki 0))] [3,4,21,22]) (.block 0 (.loop Qd7))) (.seq (kr [ko 38 (.move (kt 4)),ko 39 (.nilCheck (kt 38)),ko 40 (.fieldAddr 0 (kt 39)),ko 41 (.load none (kt 40)),ko 42 (.sliceArr 64 1 (kt 3) none none none),ko 43 (.buildSlice [(.slice none 0 0)] 1 [(0,(1,(kt 42)))]),ko 44 (.call 65 [(kt 41),(kt 43)] false)] [4]) (.seq (kr [ko 45 (.move (kt 4)),ko 2 (.move (kt 45))] [2]) .ret)))))))),[(2,none)]⟩
def Q26:AFun:=⟨(.seq (kr [ko 2 (.alloc (Qa 32 (.int .u8 0)))] [0,2]) (.seq (kr [ko 4 (.move (kt 0)),ko 5 (.nilCheck (kt 4)),ko 6 (.fieldAddr 0 (kt 5)),ko 7 (.load none (kt 6)),ko 8 (.call 66 [(kt 7)] false),ko 3 (.alloc (Qa 32 (.int .u8 0))),kq (.store 32 (kt 3) (kt 8))] [0,2,3]) (.seq (kr [ko 9 (.move (kt 0)),ko 10 (.nilCheck (kt 9)),ko 11 (.fieldAddr 1 (kt 10)),ko 12 (.sliceArr 64 1 (kt 11) none none none),ko 13 (.sliceArr 32 1 (kt 3) none none none),ko 14 (.buildSlice [(.slice none 0 0),(.slice none 0 0)] 2 [(0,(1,(kt 12))),(1,(1,(kt 13)))]),ko 15 (.call 34 [(kt 14)] false),kq (.store 32 (kt 2) (kt 15))] [2]) .ret))),[(2,(some (some 32)))]⟩
def Q25:AFun:=⟨(.seq (kr [ko 4 (.alloc (Qa 32 (.int .u8 0)))] [0,1,4]) (.seq (kr [ko 6 (.move (kt 0)),ko 7 (.call 90 [(kt 6)] false),ko 5 (.move (kt 7))] [1,4,5]) (.seq (kr [ko 8 (.move (kt 5)),ko 9 (.nilCheck (kt 8)),ko 10 (.fieldAddr 0 (kt 9)),ko 11 (.load none (kt 10)),ko 12 (.move (kt 1)),ko 13 (.call 65 [(kt 11),(kt 12)] false)] [4,5]) (.seq (kr [ko 14 (.move (kt 5)),ko 15 (.call 91 [(kt 14)] false),kq (.store 32 (kt 4) (kt 15))] [4]) .ret)))),[(4,(some (some 32)))]⟩
def Qd6:ACode:=(.seq (kr [ko 216 (.bin .lss (kt 215) (ki 8))] [0,214,215,216]) (.seq (.cond (kt 216) .skip (.exit 4)) (.seq (.block 5 (.seq (kr [ko 217 (.move (kt 215)),ko 218 (.index none 8 1 (kt 214) (kt 215)),ko 20 (.move (kt 217)),ko 21 (.move (kt 218))] [0,20,21,214,215]) (kr [ko 219 (.move (kt 0)),ko 220 (.move (kt 20)),ko 221 (.nilCheck (kt 219)),ko 222 (.fieldAddr 2 (kt 221)),ko 223 (.indexAddr 8 1 (kt 222) (kt 220)),ko 224 (.load none (kt 223)),ko 225 (.move (kt 21)),ko 226 (.bin .add (kt 224) (kt 225)),ko 227 (.nilCheck (kt 219)),ko 228 (.fieldAddr 2 (kt 227)),ko 229 (.indexAddr 8 1 (kt 228) (kt 220)),kq (.store 1 (kt 229) (kt 226))] [0,214,215]))) (kr [ko 230 (.bin .add (kt 215) (ki 1)),ko 215 (.move (kt 230))] [0,214,215]))))
def Qce:ACode:=(.seq (kr [ko 142 (.bin .lss (kt 141) (ki 64))] [0,4,8,9,10,11,12,13,14,15,16,141,142]) (.seq (.cond (kt 142) .skip (.exit 2)) (.seq (.block 3 (.seq (kr [ko 143 (.move (kt 141)),ko 17 (.move (kt 143))] [0,4,8,9,10,11,12,13,14,15,16,17,141]) (.seq (kr [ko 144 (.move (kt 16)),ko 145 (.move (kt 13)),ko 146 (.call 100 [(kt 145),(ki 26)] true),ko 147 (.move (kt 13)),ko 148 (.call 100 [(kt 147),(ki 21)] true),ko 149 (.bin .xor (kt 146) (kt 148)),ko 150 (.move (kt 13)),ko 151 (.call 100 [(kt 150),(ki 7)] true),ko 152 (.bin .xor (kt 149) (kt 151)),ko 153 (.bin .add (kt 144) (kt 152)),ko 154 (.move (kt 13)),ko 155 (.move (kt 14)),ko 156 (.bin .and (kt 154) (kt 155)),ko 157 (.move (kt 13)),ko 158 (.un .xor (kt 157)),ko 159 (.move (kt 15)),ko 160 (.bin .and (kt 158) (kt 159)),ko 161 (.bin .xor (kt 156) (kt 160)),ko 162 (.bin .add (kt 153) (kt 161)),ko 163 (.move (kt 17)),ko 164 (.indexAddr 80 1 (kt 8) (kt 163)),ko 165 (.load none (kt 164)),ko 166 (.bin .shr (kt 165) (.const (.int .u64 32))),ko 167 (.conv .u32 (kt 166)),ko 168 (.bin .add (kt 162) (kt 167)),ko 169 (.move (kt 17)),ko 170 (.indexAddr 64 1 (kt 4) (kt 169)),ko 171 (.load none (kt 170)),ko 172 (.bin .add (kt 168) (kt 171)),ko 18 (.move (kt 172))] [0,4,8,9,10,11,12,13,14,15,18,141]) (.seq (kr [ko 173 (.move (kt 9)),ko 174 (.call 100 [(kt 173),(ki 30)] true),ko 175 (.move (kt 9)),ko 176 (.call 100 [(kt 175),(ki 19)] true),ko 177 (.bin .xor (kt 174) (kt 176)),ko 178 (.move (kt 9)),ko 179 (.call 100 [(kt 178),(ki 10)] true),ko 180 (.bin .xor (kt 177) (kt 179)),ko 181 (.move (kt 9)),ko 182 (.move (kt 10)),ko 183 (.bin .and (kt 181) (kt 182)),ko 184 (.move (kt 9)),ko 185 (.move (kt 11)),ko 186 (.bin .and (kt 184) (kt 185)),ko 187 (.bin .xor (kt 183) (kt 186)),ko 188 (.move (kt 10)),ko 189 (.move (kt 11)),ko 190 (.bin .and (kt 188) (kt 189)),ko 191 (.bin .xor (kt 187) (kt 190)),ko 192 (.bin .add (kt 180) (kt 191)),ko 19 (.move (kt 192))] [0,4,8,9,10,11,12,13,14,15,18,19,141]) (kr [ko 193 (.move (kt 18)),ko 194 (.move (kt 19)),ko 195 (.bin .add (kt 193) (kt 194)),ko 196 (.move (kt 9)),ko 197 (.move (kt 10)),ko 198 (.move (kt 11)),ko 199 (.move (kt 12)),ko 200 (.move (kt 18)),ko 201 (.bin .add (kt 199) (kt 200)),ko 202 (.move (kt 13)),ko 203 (.move (kt 14)),ko 204 (.move (kt 15)),ko 9 (.move (kt 195)),ko 10 (.move (kt 196)),ko 11 (.move (kt 197)),ko 12 (.move (kt 198)),ko 13 (.move (kt 201)),ko 14 (.move (kt 202)),ko 15 (.move (kt 203)),ko 16 (.move (kt 204))] [0,4,8,9,10,11,12,13,14,15,16,141]))))) (kr [ko 205 (.bin .add (kt 141) (ki 1)),ko 141 (.move (kt 205))] [0,4,8,9,10,11,12,13,14,15,16,141]))))
def Rw:ACode:=(.seq (kr [ko 23 (.bin .lss (kt 22) (ki 64))] [0,1,4,22,23]) (.seq (.cond (kt 23) .skip (.exit 0)) (.seq (.block 1 (.seq (kr [ko 24 (.move (kt 22)),ko 5 (.move (kt 24))] [0,1,4,5,22]) (.seq (.seq (kr [ko 25 (.move (kt 5)),ko 26 (.bin .lss (kt 25) (ki 16))] [0,1,4,5,22,26]) (.cond (kt 26) (.seq (kr [ko 27 (.move (kt 5)),ko 28 (.move (kt 1)),ko 29 (.move (kt 5)),ko 30 (.bin .mul (ki 4) (kt 29)),ko 31 (.indexSl 1 (kt 28) (kt 30)),ko 32 (.load none (kt 31)),ko 33 (.conv .u32 (kt 32)),ko 34 (.bin .shl (kt 33) (.const (.int .u64 24))),ko 35 (.move (kt 1)),ko 36 (.move (kt 5)),ko 37 (.bin .mul (ki 4) (kt 36)),ko 38 (.bin .add (kt 37) (ki 1)),ko 39 (.indexSl 1 (kt 35) (kt 38)),ko 40 (.load none (kt 39)),ko 41 (.conv .u32 (kt 40)),ko 42 (.bin .shl (kt 41) (.const (.int .u64 16))),ko 43 (.bin .or (kt 34) (kt 42)),ko 44 (.move (kt 1)),ko 45 (.move (kt 5)),ko 46 (.bin .mul (ki 4) (kt 45)),ko 47 (.bin .add (kt 46) (ki 2)),ko 48 (.indexSl 1 (kt 44) (kt 47)),ko 49 (.load none (kt 48)),ko 50 (.conv .u32 (kt 49)),ko 51 (.bin .shl (kt 50) (.const (.int .u64 8))),ko 52 (.bin .or (kt 43) (kt 51)),ko 53 (.move (kt 1)),ko 54 (.move (kt 5)),ko 55 (.bin .mul (ki 4) (kt 54)),ko 56 (.bin .add (kt 55) (ki 3)),ko 57 (.indexSl 1 (kt 53) (kt 56)),ko 58 (.load none (kt 57)),ko 59 (.conv .u32 (kt 58)),ko 60 (.bin .or (kt 52) (kt 59)),ko 61 (.indexAddr 64 1 (kt 4) (kt 27)),kq (.store 1 (kt 61) (kt 60))] [0,1,4,22]) (.exit 1)) .skip)) (.seq (kr [ko 62 (.move (kt 5)),ko 63 (.bin .sub (kt 62) (ki 15)),ko 64 (.indexAddr 64 1 (kt 4) (kt 63)),ko 65 (.load none (kt 64)),ko 66 (.move (kt 5)),ko 67 (.bin .sub (kt 66) (ki 2)),ko 68 (.indexAddr 64 1 (kt 4) (kt 67)),ko 69 (.load none (kt 68)),ko 6 (.move (kt 65)),ko 7 (.move (kt 69))] [0,1,4,5,6,7,22]) (kr [ko 70 (.move (kt 5)),ko 71 (.move (kt 5)),ko 72 (.bin .sub (kt 71) (ki 16)),ko 73 (.indexAddr 64 1 (kt 4) (kt 72)),ko 74 (.load none (kt 73)),ko 75 (.move (kt 5)),ko 76 (.bin .sub (kt 75) (ki 7)),ko 77 (.indexAddr 64 1 (kt 4) (kt 76)),ko 78 (.load none (kt 77)),ko 79 (.bin .add (kt 74) (kt 78)),ko 80 (.move (kt 6)),ko 81 (.call 100 [(kt 80),(ki 25)] true),ko 82 (.move (kt 6)),ko 83 (.call 100 [(kt 82),(ki 14)] true),ko 84 (.bin .xor (kt 81) (kt 83)),ko 85 (.move (kt 6)),ko 86 (.bin .shr (kt 85) (.const (.int .u64 3))),ko 87 (.bin .xor (kt 84) (kt 86)),ko 88 (.bin .add (kt 79) (kt 87)),ko 89 (.move (kt 7)),ko 90 (.call 100 [(kt 89),(ki 15)] true),ko 91 (.move (kt 7)),ko 92 (.call 100 [(kt 91),(ki 13)] true),ko 93 (.bin .xor (kt 90) (kt 92)),ko 94 (.move (kt 7)),ko 95 (.bin .shr (kt 94) (.const (.int .u64 10))),ko 96 (.bin .xor (kt 93) (kt 95)),ko 97 (.bin .add (kt 88) (kt 96)),ko 98 (.indexAddr 64 1 (kt 4) (kt 70)),kq (.store 1 (kt 98) (kt 97))] [0,1,4,22]))))) (kr [ko 99 (.bin .add (kt 22) (ki 1)),ko 22 (.move (kt 99))] [0,1,4,22]))))
def Q24:AFun:=⟨(.seq (kr [ko 4 (.alloc (Qa 64 (.int .u32 0)))] [0,1,4]) (.seq (.seq (kr [ko 22 (.move (ki 0))] [0,1,4,22]) (.block 0 (.loop Rw))) (.seq (kr [ko 100 (.call 101 [] true),ko 8 (.alloc (Qa 80 (.int .u64 0))),kq (.store 80 (kt 8) (kt 100))] [0,4,8]) (.seq (kr [ko 101 (.move (kt 0)),ko 102 (.nilCheck (kt 101)),ko 103 (.fieldAddr 2 (kt 102)),ko 104 (.indexAddr 8 1 (kt 103) (ki 0)),ko 105 (.load none (kt 104)),ko 106 (.move (kt 0)),ko 107 (.nilCheck (kt 106)),ko 108 (.fieldAddr 2 (kt 107)),ko 109 (.indexAddr 8 1 (kt 108) (ki 1)),ko 110 (.load none (kt 109)),ko 111 (.move (kt 0)),ko 112 (.nilCheck (kt 111)),ko 113 (.fieldAddr 2 (kt 112)),ko 114 (.indexAddr 8 1 (kt 113) (ki 2)),ko 115 (.load none (kt 114)),ko 116 (.move (kt 0)),ko 117 (.nilCheck (kt 116)),ko 118 (.fieldAddr 2 (kt 117)),ko 119 (.indexAddr 8 1 (kt 118) (ki 3)),ko 120 (.load none (kt 119)),ko 121 (.move (kt 0)),ko 122 (.nilCheck (kt 121)),ko 123 (.fieldAddr 2 (kt 122)),ko 124 (.indexAddr 8 1 (kt 123) (ki 4)),ko 125 (.load none (kt 124)),ko 126 (.move (kt 0)),ko 127 (.nilCheck (kt 126)),ko 128 (.fieldAddr 2 (kt 127)),ko 129 (.indexAddr 8 1 (kt 128) (ki 5)),ko 130 (.load none (kt 129)),ko 131 (.move (kt 0)),ko 132 (.nilCheck (kt 131)),ko 133 (.fieldAddr 2 (kt 132)),ko 134 (.indexAddr 8 1 (kt 133) (ki 6)),ko 135 (.load none (kt 134)),ko 136 (.move (kt 0)),ko 137 (.nilCheck (kt 136)),ko 138 (.fieldAddr 2 (kt 137)),ko 139 (.indexAddr 8 1 (kt 138) (ki 7)),ko 140 (.load none (kt 139)),ko 9 (.move (kt 105)),ko 10 (.move (kt 110)),ko 11 (.move (kt 115)),ko 12 (.move (kt 120)),ko 13 (.move (kt 125)),ko 14 (.move (kt 130)),ko 15 (.move (kt 135)),ko 16 (.move (kt 140))] [0,4,8,9,10,11,12,13,14,15,16]) (.seq (.seq (kr [ko 141 (.move (ki 0))] [0,4,8,9,10,11,12,13,14,15,16,141]) (.block 2 (.loop Qce))) (.seq (kr [ko 206 (.move (kt 9)),ko 207 (.move (kt 10)),ko 208 (.move (kt 11)),ko 209 (.move (kt 12)),ko 210 (.move (kt 13)),ko 211 (.move (kt 14)),ko 212 (.move (kt 15)),ko 213 (.move (kt 16)),ko 214 (.build (Qa 8 (.int .u32 0)) [(0,(1,(kt 206))),(1,(1,(kt 207))),(2,(1,(kt 208))),(3,(1,(kt 209))),(4,(1,(kt 210))),(5,(1,(kt 211))),(6,(1,(kt 212))),(7,(1,(kt 213)))]),ko 215 (.move (ki 0))] [0,214,215]) (.block 4 (.loop Qd6)))))))),[]⟩
def Q23:AFun:=⟨(.seq (kr [ko 4 (.move (.const (.int .u32 0)))] [0,1]) (.seq (kr [ko 6 (.move (kt 1)),ko 7 (.conv .u64 (kt 6)),ko 8 (.bin .and (kt 7) (.const (.int .u64 31))),ko 5 (.move (kt 8))] [0,5]) (.seq (kr [ko 9 (.move (kt 0)),ko 10 (.move (kt 5)),ko 11 (.bin .shl (kt 9) (kt 10)),ko 12 (.move (kt 0)),ko 13 (.move (kt 5)),ko 14 (.bin .sub (.const (.int .u64 32)) (kt 13)),ko 15 (.bin .shr (kt 12) (kt 14)),ko 16 (.bin .or (kt 11) (kt 15)),ko 4 (.move (kt 16))] [4]) .ret))),[(4,none)]⟩
def fnS:Nat → Option AFun
 | 35 => some a16
 | 56 => some a17
 | 31 => some a19
 | 45 => some a21
 | 27 => some a25
 | 28 => some a26
 | 46 => some a27
 | 82 => some a28
 | 29 => some a29
 | 51 => some a30
 | 43 => some a31
 | 47 => some a34
 | 44 => some a39
 | 57 => some a40
 | 60 => some a41
 | 61 => some a42
 | 58 => some a44
 | 59 => some a45
 | 83 => some a46
 | 84 => some a47
 | 36 => some a49
 | 37 => some a50
 | 40 => some a51
 | 52 => some a52
 | 53 => some a53
 | 54 => some a54
 | 98 => some a55
 | 41 => some a56
 | 42 => some a57
 | 55 => some a58
 | 78 => some a59
 | 79 => some a60
 | 69 => some a61
 | 68 => some a62
 | 80 => some a63
 | 81 => some a64
 | 89 => some a75
 | 88 => some a76
 | 71 => some a77
 | 72 => some a78
 | 73 => some a79
 | 74 => some a80
 | 75 => some a81
 | 70 => some a82
 | 76 => some a83
 | 77 => some a84
 | 96 => some a91
 | 16 => some Q30
 | 22 => some Qej
 | 20 => some Q3z
 | 26 => some Q3y
 | 30 => some Q3x
 | 50 => some Q3w
 | 85 => some Q3v
 | 86 => some Q3u
 | 87 => some Q3t
 | 93 => some Quw
 | 99 => some Q3s
 | 95 => some Quv
 | 102 => some Q3r
 | 101 => some Q3q
 | 3 => some Q3p
 | 5 => some Q3o
 | 6 => some Quu
 | 7 => some Qut
 | 8 => some Qus
 | 9 => some Q3n
 | 10 => some Q3m
 | 11 => some Q3l
 | 17 => some Q3k
 | 18 => some Q3j
 | 19 => some Q3i
 | 21 => some Q3h
 | 32 => some Qur
 | 33 => some Q3g
 | 34 => some Q3f
 | 38 => some Q3e
 | 39 => some Q3d
 | 62 => some Q3c
 | 63 => some Q3b
 | 64 => some Q3a
 | 65 => some Q29
 | 66 => some Q28
 | 67 => some Qzb
 | 90 => some Q27
 | 91 => some Q26
 | 92 => some Q25
 | 94 => some Q24
 | 100 => some Q23
 | _ => none
end Go.Ev.Ytpgphpkjlpkcbaa
set_option linter.unusedSimpArgs false
set_option linter.unusedVariables false
namespace Go.Ev.Ytpgphpkjlpkcbaa
open Go Go.Ev
def Q12 (f:Nat) (args:List Value):Option Value :=
 match f,args with
 | 97,[.int .u64 x,.int .u64 y,.int .u64 c] => if c.toNat ≤ 1 then some (.tuple #[.int .u64 ((x.toNat + y.toNat + c.toNat) % 18446744073709551616:Nat),.int .u64 ((x.toNat + y.toNat + c.toNat) / 18446744073709551616:Nat)]) else none
 | _,_ => none
def T:Tab:=⟨fnS,Q12⟩
attribute [local congr] Dy
set_option maxRecDepth 100000
def Qcn (x y c:Nat):Nat:=if x < y + c then 1 else 0
def Qcm (x y c:Nat):Nat:=if x < y + c then x + 4294967296 - (y + c) else x - (y + c)
theorem Qhc {x y c:Nat} (hx:x < 4294967296) (hy:y < 4294967296) (hc:c ≤ 1) :
  Vx T 89 [.int .u32 x,.int .u32 y,.int .u32 c] [] = some (.tuple #[.int .u32 (Qcm x y c:Nat),.int .u32 (Qcn x y c:Nat)],[],[]):=by
 have e1:IntKind.u32.wrap (IntKind.u32.wrap ((x:Int) - y) - c) = ((x:Int) - y - c) % 4294967296:=by rw [wrap_u32,wrap_u32]; omega
 have e2:=Qy0 hx hy hc
 have e3:(31:Int).toNat = 31:=rfl
 have e4:min 31 IntKind.u32.bits = 31:=rfl
 have e5:((x:Int) - y - c) % 4294967296 = (Qcm x y c:Nat):=by unfold Qcm; split <;> omega
 have e6:(if x < y + c then 1 else 0:Int) = (Qcn x y c:Nat):=by unfold Qcn; split <;> rfl
 rw [Jg (fn:=a75) rfl]
 simp only [a75,Jh,Kc,Kk,Ky,Jy,Kl,Ju,Kz,Kd,K7,guardOf,Zn,opd,Wh,Vu,Va,Env.get,Env.put,Yh,Ql,Q6,Zb,Jj,Vv,Ka,J5,St.after,Env.keep,if_true,if_false,ite_true,ite_false,Wa,Ya,unV,V7,Vb,packed,reduceCtorEq,Zy,Zz,Zp,Qi,Qd,Qh,Zm,Zr,Zw,beq_self_eq_true,Xm,Jv,Kg,Kf,Xx,Kv,X8,Xk,Kw,Ku,Xz,Vg,Ki,J3,Ks,Kx,X5,X0,Jp,Xw,Z5,Je,Jd,J1,Jn,Jz,Jm,Jc,J2,J0,Xd,Jo,Ke,Xf,Kh,Kt,Xe,Kj,Jw,Ob.fresh,Wi,Wt,Ws,Z0,and_self,true_and,and_true,Z4,X6,Vn,Yl,Vh,J4,Vy,J8,Xb,false_and,decide_true,decide_false,Ji,Qp,Qn,Qo,Qe,Qm,Qg,Y3,Xc,Yi,Xp,Xh,Xi,Zk,Zl,Bj,Bi,Bh,Bg,Zf,Kb,Jr,Xy,Xo,Vd,Jx,show (if IntKind.u32.signed = true then (-1:Int) else IntKind.u32.max) = IntKind.u32.max from rfl,e1,e3,e4,show ¬ ((31:Int) < 0) by decide,Zw]
 rw [e2,e6,e5]
def Qo0 (x y c:Nat):Nat:=(x + y + c) / 4294967296
def Qoz (x y c:Nat):Nat:=(x + y + c) % 4294967296
theorem Qo1 {x y c:Nat} (hx:x < 4294967296) (hy:y < 4294967296) (hc:c ≤ 1) :
  Vx T 88 [.int .u32 x,.int .u32 y,.int .u32 c] [] = some (.tuple #[.int .u32 (Qoz x y c:Nat),.int .u32 (Qo0 x y c:Nat)],[],[]):=by
 have e1:IntKind.u64.wrap (IntKind.u64.wrap (IntKind.u64.wrap (x:Int) + IntKind.u64.wrap (y:Int)) + IntKind.u64.wrap (c:Int)) = ((x + y + c:Nat):Int):=by simp only [Ta]; omega
 have e3:(32:Int).toNat = 32:=rfl
 have e4:min 32 IntKind.u64.bits = 32:=rfl
 have e5:IntKind.u32.wrap ((x + y + c:Nat):Int) = (Qoz x y c:Nat):=by rw [wrap_u32]; unfold Qoz; omega
 have e6:IntKind.u32.wrap (Qat ((x + y + c:Nat):Int) (2 ^ 32)) = (Qo0 x y c:Nat):=by
  rw [wrap_u32,Wb _ (by decide)]; unfold Qo0; omega
 rw [Jg (fn:=a76) rfl]
 simp only [a76,Jh,Kc,Kk,Ky,Jy,Kl,Ju,Kz,Kd,K7,guardOf,Zn,opd,Wh,Vu,Va,Env.get,Env.put,Yh,Ql,Q6,Zb,Jj,Vv,Ka,J5,St.after,Env.keep,if_true,if_false,ite_true,ite_false,Wa,Ya,unV,V7,Vb,packed,reduceCtorEq,Zy,Zz,Zp,Qi,Qd,Qh,Zm,Zr,Zw,beq_self_eq_true,Xm,Jv,Kg,Kf,Xx,Kv,X8,Xk,Kw,Ku,Xz,Vg,Ki,J3,Ks,Kx,X5,X0,Jp,Xw,Z5,Je,Jd,J1,Jn,Jz,Jm,Jc,J2,J0,Xd,Jo,Ke,Xf,Kh,Kt,Xe,Kj,Jw,Ob.fresh,Wi,Wt,Ws,Z0,and_self,true_and,and_true,Z4,X6,Vn,Yl,Vh,J4,Vy,J8,Xb,false_and,decide_true,decide_false,Ji,Qp,Qn,Qo,Qe,Qm,Qg,Y3,Xc,Yi,Xp,Xh,Xi,Zk,Zl,Bj,Bi,Bh,Bg,Zf,Kb,Jr,Xy,Xo,Vd,Jx,e1,e3,e4,e5,e6,show ¬ ((32:Int) < 0) by decide,Zw]
def orderW:List Nat:=[1559614445,1477600026,2734136534,350157278,0,0,0,268435456]
theorem Qhz (H:List Ob):Vx T 84 [] H = some (.slice (some ⟨H.length,0,none⟩) 8 8,H ++ [Ob.fresh (Xq orderW)],[]):=by
 rw [Jg (fn:=a47) rfl]
 simp only [a47,Jh,Kc,Kk,Ky,Jy,Kl,Ju,Kz,Kd,K7,guardOf,Zn,opd,Wh,Vu,Va,Env.get,Env.put,Yh,Ql,Q6,Zb,Jj,Vv,Ka,J5,St.after,Env.keep,if_true,if_false,ite_true,ite_false,Wa,Ya,unV,V7,Vb,packed,reduceCtorEq,Zy,Zz,Zp,Qi,Qd,Qh,Zm,Zr,Zw,beq_self_eq_true,Xm,Jv,Kg,Kf,Xx,Kv,X8,Xk,Kw,Ku,Xz,Vg,Ki,J3,Ks,Kx,X5,X0,Jp,Xw,Z5,Je,Jd,J1,Jn,Jz,Jm,Jc,J2,J0,Xd,Jo,Ke,Xf,Kh,Kt,Xe,Kj,Jw,Ob.fresh,Wi,Wt,Ws,Z0,and_self,true_and,and_true,Z4,X6,Vn,Yl,Vh,J4,Vy,J8,Xb,false_and,decide_true,decide_false,Ji,Qp,Qn,Qo,Qe,Qm,Qg,Y3,Xc,Yi,Xp,Xh,Xi,Zk,Zl,Bj,Bi,Bh,Bg,Zf,Kb,Jr,Xy,Xo,Vd,Jx]
 rfl
end Go.Ev.Ytpgphpkjlpkcbaa

/- What the law leans on, part 2. -/
import Derived.Test.YtgacigcbglflkaaSS1
import Derived.SizedLaws
import Derived.ChangeArms
set_option linter.unusedSimpArgs false
set_option linter.unusedVariables false
open And renaming intro → Qk
open Array renaming ext_getElem? → Bh, getElem?_eq_some_iff → Up, getElem?_toList → Vz
open Bool renaming and_eq_true → Vh, and_self → J1, and_true → J8, false_and → Qb9, false_eq_true → Zd, not_false → Jb, not_true → J6, true_and → J0
open Int renaming cast_ofNat_Int → Gj, fdiv → Mo, fdiv_eq_ediv_of_nonneg → Yj, le_refl → Xn, natCast_nonneg → Zo, natCast_one → Qlf, natCast_zero → V9, reduceEq → Qp, reduceLE → Qo, reduceLT → Qn, reduceToNat → Qd, toNat_natCast → Zu
open List renaming all_cons → Jm, all_eq_true → Vq, all_nil → Xm, append_assoc → X1, append_nil → Kw, cons_append → Q3, drop_zero → Zc, eq_nil_of_length_eq_zero → Vk, ext_getElem? → Yu, flatten_cons → Ki, getD_eq_getElem?_getD → Jp, getElem?_append_left → Qe, getElem?_append_right → Ze, getElem?_cons_succ → Q9, getElem?_cons_zero → Za, getElem?_drop → Yc, getElem?_eq_getElem → Qq, getElem?_eq_none → Xl, getElem?_eq_some_iff → Qt, getElem?_map → Wj, getElem?_set_ne → Xc, getElem?_set_self → Km, getElem?_take → Kt, getElem?_toArray → Hl, getElem_mem → Tr, length_append → Zn, length_cons → Zg, length_nil → Zp, length_set → X3, length_take → Ks, map_append → Uu, map_cons → Yf, map_map → Qvn, map_set → Qvm, mem_append → Kf, mem_map → Wu, mem_of_getElem? → Zt, mem_of_mem_take → Vd, mem_or_eq_of_mem_set → Re, nil_append → Q2, range → Yi, replicate → Qb, replicate_succ → B2, set_append_right → Hj, set_cons_succ → Mm, set_cons_zero → Qeu, take_add_one → Y6, take_length → U5, take_of_length_le → Zq, take_zero → Zf
open Nat renaming add_assoc → Kk, add_comm → Gt, add_mul → Kr, add_mul_div_right → Hi, add_mul_mod_self_right → Br, add_zero → Z1, and_lt_two_pow → Gh, div_add_mod → Vn, div_div_eq_div_mul → V5, div_eq_of_lt → Wy, div_lt_iff_lt_mul → Qbm, div_one → Uz, eq_zero_or_pos → Yb, le_of_lt → W2, le_refl → Q8, lt_irrefl → Jz, lt_of_lt_of_le → Xo, lt_or_ge → Vr, min_eq_left → Vx, mod_eq_of_lt → Z6, mod_lt → Jn, mod_one → Qyf, mul_add → Rw, mul_assoc → V4, mul_comm → K9, mul_le_mul → Yr, mul_le_mul_left → U4, mul_le_mul_right → Wa, mul_left_comm → Yg, mul_one → Xb, not_lt_zero → Z9, one_mul → Wr, or_lt_two_pow → Qg2, pow_add → Y4, pow_add_one' → Qji, pow_le_pow_right → Kx, pow_mul → Ye, pow_pos → Y9, pow_succ → K8, pow_zero → Wn, reduceAdd → Qj, reduceEqDiff → Qc, reduceLT → Qm, reduceMul → Qi, reduceSub → Qh, sub_self → V8, sub_zero → Xj, two_pow_add_eq_or_of_lt → Bl, zero_add → Zh, zero_le → Qb5, zero_mul → J7
open Option renaming bind_eq_some_iff → Qa, bind_some → Qf, getD_some → Y3, isNone_none → Zj, isSome_none → Zm, isSome_some → Mk, map_eq_some_iff → Zs
open Option.some renaming injEq → Qg
set_option linter.unusedSimpArgs false
set_option linter.unusedVariables false
namespace Go.Ev
section
variable {T:Tab}
def AOp.noCall:AOp → Bool
 | .call .. | .callv .. => false
 | _ => true
theorem X2 {o:AOp} {e:Env} {H:List Ob} (h:o.noCall = true):Vy T o e H = Zb H e o:=by
 rw [Vy.eq_def]
 cases o <;> first | rfl | (simp [AOp.noCall] at h)
theorem Xs {e:Env} {H:List Ob} {x:Operand}:Vy T (.move x) e H = Zb H e (.move x):=X2 rfl
theorem Xr {e:Env} {H:List Ob} {c a b:Operand}:Vy T (.pick c a b) e H = Zb H e (.pick c a b):=X2 rfl
theorem Xi {e:Env} {H:List Ob} {zero:List Value}:Vy T (.alloc zero) e H = Zb H e (.alloc zero):=X2 rfl
theorem X8 {e:Env} {H:List Ob} {x:Operand}:Vy T (.box x) e H = Zb H e (.box x):=X2 rfl
theorem Xt {e:Env} {H:List Ob} {n:Option Nat} {a:Operand}:Vy T (.load n a) e H = Zb H e (.load n a):=X2 rfl
theorem Xd {e:Env} {H:List Ob} {n:Nat} {a v:Operand}:Vy T (.store n a v) e H = Zb H e (.store n a v):=X2 rfl
theorem X9 {e:Env} {H:List Ob} {op:BinOp} {x y:Operand}:Vy T (.bin op x y) e H = Zb H e (.bin op x y):=X2 rfl
theorem X7 {e:Env} {H:List Ob} {ks:Option (List Bool)} {neg:Bool} {x y:Operand}:Vy T (.eqv ks neg x y) e H = Zb H e (.eqv ks neg x y):=X2 rfl
theorem Xe {e:Env} {H:List Ob} {k:Nat} {neg:Bool} {x:Operand}:Vy T (.isNil k neg x) e H = Zb H e (.isNil k neg x):=X2 rfl
theorem Ko {e:Env} {H:List Ob} {op:UnOp} {x:Operand}:Vy T (.un op x) e H = Zb H e (.un op x):=X2 rfl
theorem Xv {e:Env} {H:List Ob} {k:IntKind} {x:Operand}:Vy T (.conv k x) e H = Zb H e (.conv k x):=X2 rfl
theorem Jj {e:Env} {H:List Ob} {x:Operand}:Vy T (.convStr x) e H = Zb H e (.convStr x):=X2 rfl
theorem Qer {e:Env} {H:List Ob} {x:Operand}:Vy T (.convSl x) e H = Zb H e (.convSl x):=X2 rfl
theorem X5 {e:Env} {H:List Ob} {x:Operand}:Vy T (.s2b x) e H = Zb H e (.s2b x):=X2 rfl
theorem Ka {e:Env} {H:List Ob} {x:Operand}:Vy T (.b2s x) e H = Zb H e (.b2s x):=X2 rfl
theorem Xg {e:Env} {H:List Ob} {n:Option Nat} {off:Nat} {x:Operand}:Vy T (.field n off x) e H = Zb H e (.field n off x):=X2 rfl
theorem Xf {e:Env} {H:List Ob} {n:Option Nat} {len es:Nat} {x i:Operand}:Vy T (.index n len es x i) e H = Zb H e (.index n len es x i):=X2 rfl
theorem Z5 {e:Env} {H:List Ob} {x i:Operand}:Vy T (.indexStr x i) e H = Zb H e (.indexStr x i):=X2 rfl
theorem Xh {e:Env} {H:List Ob} {zero:List Value} {parts:List (Nat × Nat × Operand)}:Vy T (.build zero parts) e H = Zb H e (.build zero parts):=X2 rfl
theorem Zr {e:Env} {H:List Ob} {cells:List Value} {len:Nat} {parts:List (Nat × Nat × Operand)}:Vy T (.buildSlice cells len parts) e H = Zb H e (.buildSlice cells len parts):=X2 rfl
theorem Zx {e:Env} {H:List Ob} {off:Nat} {x:Operand}:Vy T (.fieldAddr off x) e H = Zb H e (.fieldAddr off x):=X2 rfl
theorem Zw {e:Env} {H:List Ob} {len es:Nat} {x i:Operand}:Vy T (.indexAddr len es x i) e H = Zb H e (.indexAddr len es x i):=X2 rfl
theorem Jh {e:Env} {H:List Ob} {es:Nat} {x i:Operand}:Vy T (.indexSl es x i) e H = Zb H e (.indexSl es x i):=X2 rfl
theorem Z3 {e:Env} {H:List Ob} {n es:Nat} {x:Operand} {lo hi mx:Option Operand}:Vy T (.sliceArr n es x lo hi mx) e H = Zb H e (.sliceArr n es x lo hi mx):=X2 rfl
theorem Jf {e:Env} {H:List Ob} {es:Nat} {x:Operand} {lo hi mx:Option Operand}:Vy T (.sliceSl es x lo hi mx) e H = Zb H e (.sliceSl es x lo hi mx):=X2 rfl
theorem Z2 {e:Env} {H:List Ob} {x:Operand} {lo hi:Option Operand}:Vy T (.sliceStr x lo hi) e H = Zb H e (.sliceStr x lo hi):=X2 rfl
theorem Zv {e:Env} {H:List Ob} {zero:List Value} {bytes:Nat} {l c:Operand}:Vy T (.makeSlice zero bytes l c) e H = Zb H e (.makeSlice zero bytes l c):=X2 rfl
theorem Ji {e:Env} {H:List Ob} {x:Operand} {i:Nat}:Vy T (.extract x i) e H = Zb H e (.extract x i):=X2 rfl
theorem Jg {e:Env} {H:List Ob} {t:TypeId} {x:Operand}:Vy T (.mkIface t x) e H = Zb H e (.mkIface t x):=X2 rfl
theorem Jw {e:Env} {H:List Ob} {fn:Fn} {first captured:List Operand}:Vy T (.mkFunc fn first captured) e H = Zb H e (.mkFunc fn first captured):=X2 rfl
theorem Z4 {e:Env} {H:List Ob} {x:Operand}:Vy T (.nilCheck x) e H = Zb H e (.nilCheck x):=X2 rfl
theorem Xq {e:Env} {H:List Ob} {n:Nat} {x:Operand}:Vy T (.s2ap n x) e H = Zb H e (.s2ap n x):=X2 rfl
theorem Jy {e:Env} {H:List Ob} {es bytes:Nat} {s x:Operand}:Vy T (.append es bytes s x) e H = Zb H e (.append es bytes s x):=X2 rfl
theorem Xu {e:Env} {H:List Ob} {es:Nat} {d s:Operand}:Vy T (.copy es d s) e H = Zb H e (.copy es d s):=X2 rfl
theorem X6 {e:Env} {H:List Ob} {str:Bool} {x:Operand}:Vy T (.len str x) e H = Zb H e (.len str x):=X2 rfl
theorem Jx {e:Env} {H:List Ob} {max:Bool} {x y:Operand}:Vy T (.minmax max x y) e H = Zb H e (.minmax max x y):=X2 rfl
theorem Xw {e:Env} {H:List Ob} {f:FuncId} {xs:List Operand}:Vy T (.call f xs false) e H = (Yo e xs).bind fun args => (Vl T f args H).bind fun r => some (r.1,r.2.1,none,r.2.2):=by
 rw [Vy.eq_def]; dsimp only; cases Yo e xs <;> rfl
theorem Jk {e:Env} {H:List Ob} {f:FuncId} {xs:List Operand}:Vy T (.call f xs true) e H = (Yo e xs).bind fun args => if args.all rf then (Vl T f args []).bind fun r => if rf r.1 then some (r.1,H,some [],[]) else none else none:=by
 rw [Vy.eq_def]; dsimp only; cases Yo e xs <;> rfl
theorem Xp {base:Nat} {s:St}:Xa T base .skip s = some (.normal,s):=by rw [Xa.eq_def]
theorem Xx {base id:Nat} {s:St}:Xa T base (.exit id) s = some (.exit id,s):=by rw [Xa.eq_def]
theorem Kc {base:Nat} {s:St}:Xa T base .ret s = some (.ret,s):=by rw [Xa.eq_def]
theorem Jq {base:Nat} {ops:List AOper} {keep:Option (List Nat)} {pairs:List (Nat × Nat)} {s:St}:Xa T base (.region ops keep pairs) s =
  (evOps T base ops s []).bind fun r => if Va r.2 pairs then some (.normal,r.1.after keep) else none:=by rw [Xa.eq_def]; rfl
theorem Kb {base:Nat} {a b:ACode} {s:St}:Xa T base (.seq a b) s = (Xa T base a s).bind fun r => match r.1 with
  | .normal => Xa T base b r.2
  | x => some (x,r.2):=by rw [Xa.eq_def]; rfl
theorem Xy {base:Nat} {c:Operand} {a b:ACode} {s:St}:Xa T base (.cond c a b) s = match opd s.env c with
  | some (.bool true) => Xa T base a s
  | some (.bool false) => Xa T base b s
  | _ => none:=by rw [Xa.eq_def]; rfl
theorem Z7 {base id:Nat} {b:ACode} {s:St}:Xa T base (.block id b) s = (Xa T base b s).bind fun r => match r.1 with
  | .exit i => if i = id then some (.normal,r.2) else some (.exit i,r.2)
  | x => some (x,r.2):=by rw [Xa.eq_def]; rfl
theorem Y8 {base:Nat} {b:ACode} {s:St}:Xa T base (.loop b) s = (Xa T base b s).bind fun r => match r.1 with
  | .normal => Xa T base (.loop b) r.2
  | x => some (x,r.2):=by rw [Xa.eq_def]; rfl
theorem Kj {base:Nat} {s:St} {recs:List Rec}:evOps T base [] s recs = some (s,recs):=by rw [evOps.eq_def]
theorem Xz {base:Nat} {o:AOper} {r:List AOper} {s:St} {recs:List Rec}:evOps T base (o :: r) s recs = match guardOf s.env o.guard with
   | some true => (Vy T o.op s.env s.h).bind fun x => evOps T base r ⟨s.env.put o.dst x.1,x.2.1,Xk base s.log x.2.2.2⟩ (recs ++ [(x.2.2.1,x.2.2.2)])
   | some false => evOps T base r ⟨s.env.put o.dst undef,s.h,s.log⟩ (recs ++ [(some [],[])])
   | none => none:=by rw [evOps.eq_def]; rfl
end
theorem Gf {α β:Type} {x y:Option α} (f:α → Option β) (h:x = y):x.bind f = y.bind f:=by rw [h]
abbrev FunE:=Nat → List Value → List Ob → Option (Value × List Ob × List Nat)
section
variable {T:Tab} {F:FunE}
theorem J3 {f:Nat} {args:List Value} {H:List Ob} {fn:AFun} (hfn:T.fn f = some fn):Vl T f args H = (Xa T H.length fn.body ⟨J2 0 args,H,[]⟩).bind fun xs => match xs.1 with
   | .exit _ => none
   | _ => (Kg xs.2.env xs.2.h fn.results).bind fun vs => some (packed vs,xs.2.h,xs.2.log):=by
 rw [Vl.eq_def,hfn]; rfl
end
end Go.Ev
set_option linter.unusedSimpArgs false
set_option linter.unusedVariables false
namespace Go.Ev
theorem wrap_u32 (x:Int):IntKind.u32.wrap x = x % 4294967296:=rfl
theorem Mp (x:Int):IntKind.u64.wrap x = x % 18446744073709551616:=rfl
theorem wrap_u8 (x:Int):IntKind.u8.wrap x = x % 256:=rfl
theorem Qof (x:Int):IntKind.u16.wrap x = x % 65536:=rfl
theorem Ya {x:Int} (h : -9223372036854775808 ≤ x) (k:x < 9223372036854775808):IntKind.i64.wrap x = x:=by
 simp [IntKind.wrap,IntKind.signed,IntKind.bits]
 omega
theorem Y0 {k:IntKind} (hk:k.signed = false) {n:Nat} (h:n < 2 ^ k.bits):k.wrap (n:Int) = n:=by
 simp only [IntKind.wrap,hk,Qb9,if_false,Zd]
 rw [Int.emod_eq_of_lt (Zo _)]
 exact_mod_cast h
theorem Qba {w a:Nat}:BitVec.ofInt w (a:Int) = BitVec.ofNat w a:=by simp
theorem Dv {k:IntKind} (hk:k.signed = false) {a b:Nat} (ha:a < 2 ^ k.bits) (hb:b < 2 ^ k.bits):Vj .and k a b = ((a &&& b:Nat):Int):=by
 simp only [Vj,Qba]
 rw [BitVec.toNat_and,BitVec.toNat_ofNat,BitVec.toNat_ofNat,Z6 ha,Z6 hb,Y0 hk (Gh _ hb)]
theorem B0 {k:IntKind} (hk:k.signed = false) {a b:Nat} (ha:a < 2 ^ k.bits) (hb:b < 2 ^ k.bits):Vj .or k a b = ((a ||| b:Nat):Int):=by
 simp only [Vj,Qba]
 rw [BitVec.toNat_or,BitVec.toNat_ofNat,BitVec.toNat_ofNat,Z6 ha,Z6 hb,Y0 hk (Qg2 ha hb)]
theorem Qro {k:IntKind} (hk:k.signed = false) {a b:Nat} (ha:a < 2 ^ k.bits) (hb:b < 2 ^ k.bits):Vj .xor k a b = ((a ^^^ b:Nat):Int):=by
 simp only [Vj,Qba]
 rw [BitVec.toNat_xor,BitVec.toNat_ofNat,BitVec.toNat_ofNat,Z6 ha,Z6 hb,Y0 hk (Nat.xor_lt_two_pow ha hb)]
theorem Qk6 (op:BinOp) (a b:Int):(Vj .and .u32 a b = ((BitVec.ofInt 32 a &&& BitVec.ofInt 32 b).toNat:Int)) ∧ (Vj .or .u32 a b = ((BitVec.ofInt 32 a ||| BitVec.ofInt 32 b).toNat:Int)) ∧ (Vj .xor .u32 a b = ((BitVec.ofInt 32 a ^^^ BitVec.ofInt 32 b).toNat:Int)) :=
 ⟨Y0 (k := .u32) rfl (BitVec.isLt _),Y0 (k := .u32) rfl (BitVec.isLt _),Y0 (k := .u32) rfl (BitVec.isLt _)⟩
theorem Qel (v:BitVec 32):BitVec.ofInt 32 (v.toNat:Int) = v:=by simp
theorem top32 (v:BitVec 32):((v.toNat:Int).fdiv (2 ^ 31)) = if v.msb then 1 else 0:=by
 have h:=v.isLt
 rw [BitVec.msb_eq_decide]
 have e:((v.toNat:Int).fdiv (2 ^ 31)) = ((v.toNat / 2147483648:Nat):Int):=by
  rw [Yj _ (by decide)]; rfl
 rw [e]
 by_cases hv:2 ^ (32 - 1) ≤ v.toNat
 ·simp only [hv,decide_true,if_true]; omega
 ·simp only [hv,decide_false,Zd,if_false]; omega
theorem Qik (x:Int):(BitVec.ofInt 32 x).msb = decide (2147483648 ≤ x % 4294967296):=by
 rw [BitVec.msb_eq_decide,BitVec.toNat_ofInt]
 by_cases h:2147483648 ≤ x % 4294967296
 ·simp only [h,decide_true,decide_eq_true_eq]; omega
 ·simp only [h,decide_false,decide_eq_false_iff_not]; omega
theorem Qrm {x y c:Nat} (hx:x < 4294967296) (hy:y < 4294967296) (hc:c ≤ 1) :
  (Vj .or .u32 (Vj .and .u32 (Vj .xor .u32 IntKind.u32.max x) y) (Vj .and .u32 (Vj .xor .u32 IntKind.u32.max (Vj .xor .u32 x y)) (((x:Int) - y - c) % 4294967296))).fdiv (2 ^ 31) = if x < y + c then 1 else 0:=by
 have hm:BitVec.ofInt 32 IntKind.u32.max = BitVec.allOnes 32:=by decide
 simp only [(Qk6 .and _ _).1,(Qk6 .and _ _).2.1,(Qk6 .and _ _).2.2,Qel,top32,hm]
 simp only [BitVec.msb_or,BitVec.msb_and,BitVec.msb_xor,Qik,BitVec.msb_allOnes (by decide:0 < 32)]
 by_cases a:(2147483648:Int) ≤ (x:Int) % 4294967296 <;> by_cases b:(2147483648:Int) ≤ (y:Int) % 4294967296 <;> by_cases d:(2147483648:Int) ≤ ((x:Int) - y - c) % 4294967296 % 4294967296 <;> simp [a,b,d] <;> omega
end Go.Ev
set_option linter.unusedSimpArgs false
set_option linter.unusedVariables false
namespace Go.Ev
section
variable {T:Tab}
theorem Qim {base:Nat} {body:ACode} (I:Nat → St) {r:AExit × St} (hr:r.1 ≠ .normal):∀ (n i:Nat),(∀ j,i ≤ j → j < i + n → Xa T base body (I j) = some (.normal,I (j + 1))) → Xa T base body (I (i + n)) = some r →
  Xa T base (.loop body) (I i) = some r
 | 0,i,_,hl => by
  rw [Y8,show i = i + 0 from rfl,hl]
  obtain ⟨x,s⟩:=r
  cases x with
  | normal => exact absurd rfl hr
  | exit id => rfl
  | ret => rfl
 | n + 1,i,hs,hl => by
  rw [Y8,hs i (Q8 _) (by omega)]
  exact Qim I hr n (i + 1) (fun j h1 h2 => hs j (by omega) (by omega)) (by rw [show i + 1 + n = i + (n + 1) by omega]; exact hl)
theorem Bc {base id:Nat} {body:ACode} (I:Nat → St) {s':St} (n:Nat) (hs:∀ j,j < n → Xa T base body (I j) = some (.normal,I (j + 1))) (hl:Xa T base body (I n) = some (.exit id,s')) :
  Xa T base (.block id (.loop body)) (I 0) = some (.normal,s'):=by
 rw [Z7,Qim (r:=(.exit id,s')) I (by simp) n 0 (fun j _ h => hs j (by omega)) (by simpa using hl)]
 simp
end
section
variable {T:Tab}
theorem Qin {base:Nat} {body:ACode} {I:Nat → St → Prop} {x:AExit} (hx:x ≠ .normal) {Q:St → Prop} (n:Nat) (hs:∀ j s,j < n → I j s → ∃ s',Xa T base body s = some (.normal,s') ∧ I (j + 1) s') (hl:∀ s,I n s → ∃ s',Xa T base body s = some (x,s') ∧ Q s') :
  ∀ (k i:Nat),i + k = n → ∀ s,I i s → ∃ s',Xa T base (.loop body) s = some (x,s') ∧ Q s'
 | 0,i,hi,s,h => by
  obtain ⟨s',h1,h2⟩:=hl s (by rw [← hi]; exact h)
  refine ⟨s',?_,h2⟩
  rw [Y8,h1]
  cases x with
  | normal => exact absurd rfl hx
  | exit id => rfl
  | ret => rfl
 | k + 1,i,hi,s,h => by
  obtain ⟨s1,h1,h2⟩:=hs i s (by omega) h
  obtain ⟨s',h3,h4⟩:=Qin hx n hs hl k (i + 1) (by omega) s1 h2
  exact ⟨s',by rw [Y8,h1]; exact h3,h4⟩
theorem Yn {base id:Nat} {body:ACode} (I:Nat → St → Prop) {Q:St → Prop} (n:Nat) {s:St} (h0:I 0 s) (hs:∀ j s,j < n → I j s → ∃ s',Xa T base body s = some (.normal,s') ∧ I (j + 1) s') (hl:∀ s,I n s → ∃ s',Xa T base body s = some (.exit id,s') ∧ Q s') :
  ∃ s',Xa T base (.block id (.loop body)) s = some (.normal,s') ∧ Q s':=by
 obtain ⟨s',h1,h2⟩:=Qin (T:=T) (x := .exit id) (by simp) n hs hl n 0 (by omega) s h0
 exact ⟨s',by rw [Z7,h1]; simp,h2⟩
end
theorem V0 {H:List Ob} {id:Nat} {o:Ob} (h:H[id]? = some o) (hl:o.live = true):liveAt H id = some o:=by simp [liveAt,h,hl]
def Row (k:IntKind) (H:List Ob) (id off:Nat) (xs:List Nat):Prop:=∃ o,liveAt H id = some o ∧ ∀ i x,xs[i]? = some x → o.cells[off + i]? = some (.int k (x:Nat))
theorem Uv {H l:List Ob} {id:Nat} {o:Ob} (h:liveAt H id = some o):liveAt (H ++ l) id = some o:=by
 simp only [liveAt,Qa] at h ⊢
 obtain ⟨o',h1,h2⟩:=h
 refine ⟨o',?_,h2⟩
 rw [Qe (Qt.1 h1).1]
 exact h1
theorem Row.app {k:IntKind} {H l:List Ob} {id off:Nat} {xs:List Nat} (h:Row k H id off xs):Row k (H ++ l) id off xs:=by
 obtain ⟨o,h1,h2⟩:=h
 exact ⟨o,Uv h1,h2⟩
theorem Row.load {k:IntKind} {H:List Ob} {id off i x:Nat} {xs:List Nat} {e:Env} {a:Operand} (h:Row k H id off xs) (hi:xs[i]? = some x) (ha:opd e a = some (.pointer (some ⟨id,off + i,none⟩))) :
  Zb H e (.load none a) = some (.int k (x:Nat),H,some [id],[]):=by
 obtain ⟨o,h1,h2⟩:=h
 simp [Zb,ha,h1,Vv,h2 i x hi]
theorem Ym {H r:List Ob} {cs:List Value} {o e:Bool} {n:Nat}:liveAt (H ++ ⟨cs,true,o,e,n⟩ :: r) H.length = some ⟨cs,true,o,e,n⟩:=by simp [liveAt]
theorem Yy {H r:List Ob} {a:Ob} {cs:List Value} {o e:Bool} {n:Nat}:liveAt (H ++ a :: ⟨cs,true,o,e,n⟩ :: r) (H.length + 1) = some ⟨cs,true,o,e,n⟩:=by simp [liveAt]
theorem Yx {H r:List Ob} {a b:Ob} {cs:List Value} {o e:Bool} {n:Nat}:liveAt (H ++ a :: b :: ⟨cs,true,o,e,n⟩ :: r) (H.length + 2) = some ⟨cs,true,o,e,n⟩:=by simp [liveAt]
def J9 (l:List Nat):List Value:=l.map fun n => .int .u32 (n:Nat)
def u8s (l:List Nat):List Value:=l.map fun n => .int .u8 (n:Nat)
theorem W6 (l:List Nat):(J9 l).length = l.length:=by simp [J9]
theorem Ky (l:List Nat):(u8s l).length = l.length:=by simp [u8s]
theorem Bu (l:List Nat) (i n:Nat):(J9 l).set i (.int .u32 (n:Nat)) = J9 (l.set i n):=by simp [J9,Qvm]
theorem Gp (l:List Nat) (i n:Nat):(u8s l).set i (.int .u8 (n:Nat)) = u8s (l.set i n):=by simp [u8s,Qvm]
theorem W7 {l:List Nat} {i x:Nat} (h:l[i]? = some x):(J9 l)[i]? = some (.int .u32 (x:Nat)):=by simp [J9,h]
theorem Ud {l:List Nat} {i x:Nat} (h:l[i]? = some x):(u8s l)[i]? = some (.int .u8 (x:Nat)):=by simp [u8s,h]
theorem Kp (k:IntKind) (n:Int):(Value.int k n).cells.toList = [.int k n]:=rfl
theorem Jl (k:IntKind) (n:Int):(Value.int k n).cells.size = 1:=rfl
theorem Ur {H r:List Ob} {cs:List Value} {e:Bool} {s off:Nat} {v:List Value} (h:off + v.length ≤ cs.length):storeAt (H ++ ⟨cs,true,true,e,s⟩ :: r) ⟨H.length,off,none⟩ v = some (H ++ ⟨splice cs off v,true,true,e,s⟩ :: r):=by
 simp [storeAt,Ym,h]
theorem Qhm {H r:List Ob} {a:Ob} {cs:List Value} {e:Bool} {s off:Nat} {v:List Value} (h:off + v.length ≤ cs.length):storeAt (H ++ a :: ⟨cs,true,true,e,s⟩ :: r) ⟨H.length + 1,off,none⟩ v = some (H ++ a :: ⟨splice cs off v,true,true,e,s⟩ :: r):=by
 simp [storeAt,Yy,h]
theorem Qhl {H r:List Ob} {a b:Ob} {cs:List Value} {e:Bool} {s off:Nat} {v:List Value} (h:off + v.length ≤ cs.length):storeAt (H ++ a :: b :: ⟨cs,true,true,e,s⟩ :: r) ⟨H.length + 2,off,none⟩ v = some (H ++ a :: b :: ⟨splice cs off v,true,true,e,s⟩ :: r):=by
 simp [storeAt,Yx,h]
theorem Kq (b o n:Nat):(⟨b,o,none⟩:Addr).add n = ⟨b,o + n,none⟩:=by
 unfold Addr.add
 split <;> simp_all
theorem Vt {n:Nat} (h:n < 9223372036854775808):IntKind.i64.wrap (n:Int) = n:=Ya (by omega) (by omega)
theorem Jo (cs:List Value) (off:Nat) (x:Value):splice cs off [x] = cs.set off x:=rfl
theorem Kl (l:List Value):(Value.agg l.toArray).cells.toList = l:=rfl
theorem Jc (l:List Value):(Value.agg l.toArray).cells.size = l.length:=rfl
theorem Ub (n:Nat):(n + 1 < n) = False:=by simp
theorem Ua (n:Nat):(n + 2 < n) = False:=by simp
theorem W9 (n:Nat):(n + 3 < n) = False:=by simp
theorem W8 (n:Nat):(n + 4 < n) = False:=by simp
theorem Yd (k:IntKind) (n:Int):rf (.int k n) = true:=rfl
theorem Jv (k j:IntKind) (a b:Int):rf (.tuple #[.int k a,.int j b]) = true:=rfl
theorem Vp (a b:Value):(#[a,b]:Array Value).toList = [a,b]:=rfl
theorem Row.elems {k:IntKind} {H:List Ob} {id off n c:Nat} {xs:List Nat} (h:Row k H id off xs) (hx:0 < xs.length):elemsOf H 1 xs.length (.slice (some ⟨id,off,none⟩) n c) = some (xs.map fun (x:Nat) => Value.int k x):=by
 obtain ⟨o,h1,h2⟩:=h
 have hl:off + xs.length ≤ o.cells.length:=by
  have:=h2 (xs.length - 1) _ (Qq (by omega))
  have:=(Qt.1 this).1
  omega
 simp only [elemsOf,h1,Qf,Zj,Xb,hl,and_self,if_true,Qg]
 apply Yu
 intro i
 rw [Kt]
 by_cases hi:i < xs.length
 ·rw [if_pos hi,Yc,h2 i _ (Qq hi),Wj,Qq hi]; rfl
 ·rw [if_neg hi,Xl (by simp; omega)]
theorem Gy (cs:List Value) (off:Nat) (v:List Value) (h:off + v.length ≤ cs.length):splice cs off v = cs.take off ++ (v ++ cs.drop (off + v.length)):=by
 unfold splice
 split
 ·rename_i x
  simp only [Zg,Zp,Zh] at h
  rw [List.set_eq_take_append_cons_drop,if_pos (by omega)]
  simp
 ·rfl
theorem Qbz {H r:List Ob} {es bytes len cap n:Nat} {cs new:List Value} {x:Value} (hl:lenV x = some n) (hx:elemsOf (H ++ ⟨cs,true,true,true,es⟩ :: r) es n x = some new) (hn:0 < n) (hc:len + n ≤ cap) (hb:(len + n) * bytes ≤ 2 ^ 47) (hb0:0 < bytes) (he:0 < es) (hf:len * es + new.length ≤ cs.length) :
  Yp es bytes (H ++ ⟨cs,true,true,true,es⟩ :: r) (.slice (some ⟨H.length,0,none⟩) len cap) x = some (.slice (some ⟨H.length,0,none⟩) (len + n) cap,H ++ ⟨splice cs (len * es) new,true,true,true,es⟩ :: r,none,[H.length]):=by
 have h1:¬ n = 0:=by omega
 have h2:0 + len * es ≤ cs.length:=by omega
 have h3:(len + n) * bytes ≤ 2 ^ 47 ∧ 0 < bytes ∧ 0 < es:=⟨hb,hb0,he⟩
 have hold:elemsOf (H ++ ⟨cs,true,true,true,es⟩ :: r) es len (.slice (some ⟨H.length,0,none⟩) len cap) = some ((cs.drop 0).take (len * es)):=by
  simp only [elemsOf,Ym,Qf,Zj,h2,and_self,if_true]
 simp only [Yp,hl,hx,Qf,if_neg h1,h3,and_self,not_true_eq_false,if_false,Ym,hold,if_true,hc,Kq,Zh,Ur hf]
end Go.Ev
set_option linter.unusedSimpArgs false
set_option linter.unusedVariables false
namespace Go.Ev
def num (B:Nat):List Nat → Nat
 | [] => 0
 | x :: r => x + B * num B r
def dig (B n v:Nat):List Nat:=(Yi n).map fun i => v / B ^ i % B
theorem Ku (B n v:Nat):(dig B n v).length = n:=by simp [dig]
theorem Bz {B n v i:Nat} (h:i < n):(dig B n v)[i]? = some (v / B ^ i % B):=by simp [dig,h]
theorem Bi {B n v x:Nat} (hB:0 < B) (h:x ∈ dig B n v):x < B:=by
 simp only [dig,Wu] at h
 obtain ⟨i,_,rfl⟩:=h
 exact Jn _ hB
theorem Rp {B n v:Nat} {l:List Nat} (hl:l.length = n) (h:∀ i,i < n → l[i]? = some (v / B ^ i % B)):l = dig B n v:=by
 apply Yu
 intro i
 by_cases hi:i < n
 ·rw [h i hi,Bz hi]
 ·rw [Xl (by omega),Xl (by rw [Ku]; omega)]
theorem num_lt {B:Nat}:∀ {l:List Nat},(∀ x ∈ l,x < B) → num B l < B ^ l.length
 | [],_ => by simp [num]
 | x :: r,h => by
  have h1:x < B:=h x (by simp)
  have h2:=num_lt (l:=r) fun y hy => h y (by simp [hy])
  simp only [num,Zg,K8]
  have h3:B * (num B r + 1) ≤ B * B ^ r.length:=U4 _ h2
  rw [Rw,Xb] at h3
  rw [K9 (B ^ r.length) B]
  omega
theorem G8 (B:Nat):∀ (a b:List Nat),num B (a ++ b) = num B a + B ^ a.length * num B b
 | [],b => by simp [num]
 | x :: r,b => by
  simp only [num,Q3,G8 B r b,Zg,K8,Rw]
  rw [← V4,K9 B (B ^ r.length)]
  omega
theorem Wx {B:Nat} {l:List Nat} {j x:Nat} (h:l[j]? = some x):num B (l.take (j + 1)) = num B (l.take j) + x * B ^ j:=by
 have hj:j < l.length:=(Qt.1 h).1
 rw [Y6,h,G8]
 simp [num,Vx (W2 hj),K9]
theorem Gr {B:Nat} (hB:0 < B):∀ {l:List Nat} {i x:Nat},(∀ x ∈ l,x < B) → l[i]? = some x → num B l / B ^ i % B = x
 | [],i,x,_,h => by simp at h
 | y :: r,0,x,hl,h => by
  simp at h; subst h
  have:=hl y (by simp)
  simp only [num,Wn,Uz,Nat.add_mul_mod_self_left]
  exact Z6 this
 | y :: r,i + 1,x,hl,h => by
  have:=hl y (by simp)
  simp only [num,K8,K9 (B ^ i) B]
  rw [← V5,Nat.add_mul_div_left _ _ hB,Wy this,Zh]
  exact Gr hB (fun z hz => hl z (by simp [hz])) (by simpa using h)
theorem Mc {B:Nat} (hB:0 < B) {l:List Nat} (h:∀ x ∈ l,x < B):dig B l.length (num B l) = l:=by
 symm
 exact Rp rfl fun i hi => by rw [Gr hB h (Qq hi)]; exact Qq hi
theorem Qrd (B n v:Nat):dig B (n + 1) v = v % B :: dig B n (v / B):=by
 simp only [dig,List.range_succ_eq_map,Yf,Qvn,Wn,Uz]
 congr 1
 apply List.map_congr_left
 intro i _
 simp only [Function.comp,Nat.succ_eq_add_one,K8,V5,K9 (B ^ i) B]
theorem Uk {B:Nat} (hB:0 < B):∀ (n v:Nat),num B (dig B n v) = v % B ^ n
 | 0,v => by simp [dig,num,Qyf]
 | n + 1,v => by
  rw [Qrd,num,Uk hB n,K8,K9 (B ^ n) B,Nat.mod_mul]
theorem Hr {B:Nat}:∀ {l:List Nat} {i x:Nat} (y:Nat),l[i]? = some x → num B (l.set i y) + x * B ^ i = num B l + y * B ^ i
 | [],i,x,y,h => by simp at h
 | z :: r,0,x,y,h => by
  simp at h; subst h
  simp only [Qeu,num,Wn]
  omega
 | z :: r,i + 1,x,y,h => by
  have:=Hr (B:=B) (l:=r) (i:=i) y (by simpa using h)
  simp only [Mm,num,K8]
  have e:B * (num B (r.set i y) + x * B ^ i) = B * (num B r + y * B ^ i):=by rw [this]
  rw [Rw,Rw] at e
  rw [show x * (B ^ i * B) = B * (x * B ^ i) by simp only [V4,Yg,K9],show y * (B ^ i * B) = B * (y * B ^ i) by simp only [V4,Yg,K9]]
  omega
theorem D4 {B:Nat} {l:List Nat} {i y:Nat} (h:∀ x ∈ l,x < B) (hy:y < B):∀ x ∈ l.set i y,x < B:=by
 intro x hx
 rcases Re hx with h1 | h1
 ·exact h x h1
 ·rw [h1]; exact hy
theorem Qre {m j x N:Nat} (hj:j / 4 < m) (hN:N < 256 ^ j) (hx:x < 256) :
  (dig 4294967296 m N).set (j / 4) ((dig 4294967296 m N).getD (j / 4) 0 ||| x * 2 ^ (8 * (j % 4))) = dig 4294967296 m (N + x * 256 ^ j):=by
 have e256:(256:Nat) = 2 ^ 8:=rfl
 have eW:(4294967296:Nat) = 2 ^ 32:=rfl
 have hpow:(256:Nat) ^ j = 2 ^ (8 * (j % 4)) * 4294967296 ^ (j / 4):=by
  rw [e256,eW,← Ye,← Ye,← Y4]
  congr 1; omega
 have hWq:0 < 4294967296 ^ (j / 4):=Y9 (by decide)
 have hdiv:N / 4294967296 ^ (j / 4) < 2 ^ (8 * (j % 4)):=by
  rw [Qbm hWq,← hpow]; exact hN
 have h24:(2:Nat) ^ (8 * (j % 4)) ≤ 2 ^ 24:=Kx (by decide) (by omega)
 have hx24:(x + 1) * 2 ^ (8 * (j % 4)) ≤ 256 * 2 ^ 24:=Yr (by omega) h24
 rw [Kr,Wr] at hx24
 have hsum:N / 4294967296 ^ (j / 4) + x * 2 ^ (8 * (j % 4)) < 4294967296:=by show _ < 4294967296; omega
 apply Rp (by rw [X3,Ku])
 intro i hi
 by_cases hq:i = j / 4
 ·subst hq
  rw [Km (by rw [Ku]; exact hi),Jp,Bz hi]
  rw [hpow,← V4,Hi _ _ hWq]
  simp only [Y3]
  rw [Z6 (a:=N / _) (by omega),Z6 hsum,Gt,K9 x,Bl hdiv,Nat.or_comm]
 ·rw [Xc (Ne.symm hq),Bz hi]
  congr 1
  by_cases hlt:i < j / 4
  ·have:4294967296 ^ (j / 4) = 4294967296 * 4294967296 ^ (j / 4 - i - 1) * 4294967296 ^ i:=by
    rw [V4,← Y4,← Qji]; congr 1; omega
   rw [hpow,this]
   rw [show x * (2 ^ (8 * (j % 4)) * (4294967296 * 4294967296 ^ (j / 4 - i - 1) * 4294967296 ^ i)) = (x * 2 ^ (8 * (j % 4)) * 4294967296 ^ (j / 4 - i - 1) * 4294967296) * 4294967296 ^ i by simp only [V4,Yg,K9]]
   rw [Hi _ _ (Y9 (by decide)),Br]
  ·have hle:4294967296 ^ (j / 4 + 1) ≤ 4294967296 ^ i:=Kx (by decide) (by omega)
   have h1:N + x * 256 ^ j < 4294967296 ^ i:=by
    refine Xo ?_ hle
    have:(256:Nat) ^ (j + 1) ≤ 4294967296 ^ (j / 4 + 1):=by
     rw [e256,eW,← Ye,← Ye]; exact Kx (by decide) (by omega)
    refine Xo ?_ this
    rw [K8]
    have:x * 256 ^ j ≤ 255 * 256 ^ j:=Wa _ (by omega)
    omega
   rw [Wy h1,Wy (by omega)]
def ns (k:IntKind) (l:List Nat):List Value:=l.map fun n => .int k (n:Nat)
theorem K3 (k:IntKind) (l:List Nat):(ns k l).length = l.length:=by simp [ns]
theorem Qdb (k:IntKind) (l:List Nat) (i n:Nat):(ns k l).set i (.int k (n:Nat)) = ns k (l.set i n):=by simp [ns,Qvm]
theorem U8 {k:IntKind} {l:List Nat} {i x:Nat} (h:l[i]? = some x):(ns k l)[i]? = some (.int k (x:Nat)):=by simp [ns,h]
theorem Rk (k:IntKind) (a b:List Nat):ns k (a ++ b) = ns k a ++ ns k b:=by simp [ns]
theorem Qfk {H:List Ob} {id:Nat} {o:Ob} (h:liveAt H id = some o):id < H.length:=by
 simp only [liveAt,Qa] at h
 obtain ⟨o',h1,_⟩:=h
 exact (Qt.1 h1).1
theorem T4 {H H':List Ob} {id:Nat} (h:H'[id]? = H[id]?):liveAt H' id = liveAt H id:=by simp only [liveAt,h]
inductive Sl (k:IntKind) (H:List Ob):Value → List Nat → Prop
 | nil:Sl k H (.slice none 0 0) []
 | mk {id off c:Nat} {o:Ob} {l:List Nat}:liveAt H id = some o → off + l.length ≤ o.cells.length → (∀ (i x:Nat),l[i]? = some x → o.cells[off + i]? = some (.int k (x:Nat))) → Sl k H (.slice (some ⟨id,off,none⟩) l.length c) l
theorem Sl.row {k:IntKind} {H:List Ob} {v:Value} {l:List Nat} (h:Sl k H v l) (hl:0 < l.length):∃ id off c,v = .slice (some ⟨id,off,none⟩) l.length c ∧ Row k H id off l:=by
 cases h with
 | nil => simp at hl
 | mk h1 h2 h3 => exact ⟨_,_,_,rfl,_,h1,h3⟩
theorem Sl.congr {k:IntKind} {H H':List Ob} {v:Value} {l:List Nat} (h:Sl k H v l) (hH:∀ id,id < H.length → H'[id]? = H[id]?):Sl k H' v l:=by
 cases h with
 | nil => exact .nil
 | mk h1 h2 h3 => exact .mk (by rw [T4 (hH _ (Qfk h1))]; exact h1) h2 h3
theorem Sl.app {k:IntKind} {H l':List Ob} {v:Value} {l:List Nat} (h:Sl k H v l):Sl k (H ++ l') v l :=
 h.congr fun id hid => Qe hid
theorem Sl.lenV {k:IntKind} {H:List Ob} {v:Value} {l:List Nat} (h:Sl k H v l):lenV v = some l.length:=by
 cases h <;> rfl
theorem Sl.elems {k:IntKind} {H:List Ob} {v:Value} {l:List Nat} (h:Sl k H v l):elemsOf H 1 l.length v = some (ns k l):=by
 cases h with
 | nil => rfl
 | mk h1 h2 h3 =>
  simp only [elemsOf,h1,Qf,Zj,Xb,h2,and_self,if_true,Qg]
  apply Yu
  intro i
  rw [Kt]
  by_cases hi:i < l.length
  ·rw [if_pos hi,Yc,h3 i _ (Qq hi),U8 (Qq hi)]
  ·rw [if_neg hi,Xl (by rw [K3]; omega)]
inductive Grown (k:IntKind) (B:Nat) (H:List Ob):Value → List Nat → Prop
 | nil:Grown k B H (.slice none 0 0) []
 | own {id:Nat} {bs:List Nat}:B ≤ id → 0 < bs.length → H[id]? = some (Ob.grown 1 (ns k bs)) → Grown k B H (.slice (some ⟨id,0,none⟩) bs.length bs.length) bs
 | new {id:Nat} {bs:List Nat}:B ≤ id → 0 < bs.length → H[id]? = some (Ob.fresh (ns k bs)) → Grown k B H (.slice (some ⟨id,0,none⟩) bs.length bs.length) bs
theorem Grown.sl {k:IntKind} {B:Nat} {H:List Ob} {v:Value} {l:List Nat} (h:Grown k B H v l):Sl k H v l:=by
 cases h with
 | nil => exact .nil
 | own h1 h2 h3 => exact .mk (V0 h3 rfl) (by simp [Ob.grown,K3]) (fun i x hx => by rw [Zh]; exact U8 hx)
 | new h1 h2 h3 => exact .mk (V0 h3 rfl) (by simp [Ob.fresh,K3]) (fun i x hx => by rw [Zh]; exact U8 hx)
theorem Grown.app {k:IntKind} {B:Nat} {H l':List Ob} {v:Value} {l:List Nat} (h:Grown k B H v l):Grown k B (H ++ l') v l:=by
 cases h with
 | nil => exact .nil
 | own h1 h2 h3 => exact .own h1 h2 (by rw [Qe (Qt.1 h3).1]; exact h3)
 | new h1 h2 h3 => exact .new h1 h2 (by rw [Qe (Qt.1 h3).1]; exact h3)
theorem Grown.append {k:IntKind} {B bytes:Nat} {H:List Ob} {s x:Value} {bs new:List Nat} (h:Grown k B H s bs) (hB:B ≤ H.length) (hl:Go.Ev.lenV x = some new.length) (he:elemsOf H 1 new.length x = some (ns k new)) (hb:(bs.length + new.length) * bytes ≤ 2 ^ 47) (hb0:0 < bytes) :
  ∃ s' H' M,Yp 1 bytes H s x = some (s',H',none,M) ∧ Grown k B H' s' (bs ++ new) ∧ (∀ i ∈ M,B ≤ i) ∧ H.length ≤ H'.length ∧ ∀ i,i < B → H'[i]? = H[i]? := by
 rcases Yb new.length with hn | hn
 ·have:new = []:=Vk hn
  subst this
  rw [Kw]
  refine ⟨s,H,[],?_,h,by simp,Q8 _,fun _ _ => rfl⟩
  rw [Zp] at hl he
  cases h <;> simp only [Yp,hl,he,Qf,if_true]
 ·cases h with
  | nil =>
   refine ⟨.slice (some ⟨H.length,0,none⟩) new.length new.length,H ++ [Ob.grown 1 (ns k new)],[],?_,?_,by simp,by simp,?_⟩
   ·have h1:¬ new.length = 0:=by omega
    have h2:(0 + new.length) * bytes ≤ 2 ^ 47 ∧ 0 < bytes ∧ 0 < 1:=⟨by simpa using hb,hb0,by decide⟩
    simp only [Yp,hl,he,Qf,if_neg h1,h2,and_self,not_true_eq_false,if_false,if_true]
   ·rw [Q2]
    exact .own hB hn (by simp)
   ·intro i hi
    rw [Qe (by omega)]
  | @own id0 _ h1 h2 h3 =>
   refine ⟨.slice (some ⟨H.length,0,none⟩) (bs.length + new.length) (bs.length + new.length),(H.set id0 Ob.dead) ++ [Ob.grown 1 (ns k (bs ++ new))],[id0],?_,?_,by simpa using h1,by simp,?_⟩
   ·have h4:liveAt H id0 = some (Ob.grown 1 (ns k bs)):=V0 h3 rfl
    have h5:¬ new.length = 0:=by omega
    have h6:(bs.length + new.length) * bytes ≤ 2 ^ 47 ∧ 0 < bytes ∧ 0 < 1:=⟨hb,hb0,by decide⟩
    have h7:¬ (bs.length + new.length ≤ bs.length):=by omega
    have h8:elemsOf H 1 bs.length (.slice (some ⟨id0,0,none⟩) bs.length bs.length) = some (ns k bs):=(Grown.own h1 h2 h3).sl.elems
    simp only [Yp,hl,he,Qf,if_neg h5,h6,and_self,not_true_eq_false,if_false,if_true,h4,h8]
    simp only [Ob.grown,not_true_eq_false,if_false,if_neg h7,Zd,Q8,if_true,← Rk]
   ·have:=Grown.own (k:=k) (B:=B) (H:=(H.set id0 Ob.dead) ++ [Ob.grown 1 (ns k (bs ++ new))]) (id:=H.length) (bs:=bs ++ new) hB (by simp; omega) (by simp)
    rwa [Zn] at this
   ·intro i hi
    rw [Qe (by simp; have:=(Qt.1 h3).1; omega),Xc (by omega)]
  | @new id0 _ h1 h2 h3 =>
   refine ⟨.slice (some ⟨H.length,0,none⟩) (bs.length + new.length) (bs.length + new.length),H ++ [Ob.grown 1 (ns k (bs ++ new))],[],?_,?_,by simp,by simp,?_⟩
   ·have h4:liveAt H id0 = some (Ob.fresh (ns k bs)):=V0 h3 rfl
    have h5:¬ new.length = 0:=by omega
    have h6:(bs.length + new.length) * bytes ≤ 2 ^ 47 ∧ 0 < bytes ∧ 0 < 1:=⟨hb,hb0,by decide⟩
    have h7:¬ (bs.length + new.length ≤ bs.length):=by omega
    have h8:elemsOf H 1 bs.length (.slice (some ⟨id0,0,none⟩) bs.length bs.length) = some (ns k bs):=(Grown.new h1 h2 h3).sl.elems
    simp only [Yp,hl,he,Qf,if_neg h5,h6,and_self,not_true_eq_false,if_false,if_true,h4,h8]
    simp only [Ob.fresh,not_true_eq_false,if_false,if_neg h7,Zd,Q8,if_true,← Rk]
   ·have:=Grown.own (k:=k) (B:=B) (H:=H ++ [Ob.grown 1 (ns k (bs ++ new))]) (id:=H.length) (bs:=bs ++ new) hB (by simp; omega) (by simp)
    rwa [Zn] at this
   ·intro i hi
    rw [Qe (by omega)]
theorem Ma {H H':List Ob} (h1:H.length ≤ H'.length) (h2:∀ i,i < H.length → H'[i]? = H[i]?):∃ l,H' = H ++ l:=by
 refine ⟨H'.drop H.length,?_⟩
 apply Yu
 intro i
 by_cases hi:i < H.length
 ·rw [Qe hi,h2 i hi]
 ·rw [Ze (by omega),Yc]
  congr 1; omega
theorem Y2 {base:Nat}:∀ {log M:List Nat},(∀ i ∈ M,base ≤ i) → Xk base log M = log
 | log,[],_ => rfl
 | log,i :: r,h => by
  have h1:¬ i < base:=by have:=h i (by simp); omega
  simp only [Xk,h1,false_and,if_false]
  exact Y2 fun j hj => h j (by simp [hj])
end Go.Ev
set_option linter.unusedSimpArgs false
set_option linter.unusedVariables false
namespace Go.Ev
def gate {α:Type} (p:Prop) [Decidable p] (x:Option α):Option α:=if p then x else none
theorem Ux {α:Type} {p p':Prop} [Decidable p] [Decidable p'] (x:Option α) (h:∀ _:Unit,p = p'):gate p x = gate p' x:=by
 have h:=h (); subst h; unfold gate; congr
theorem Um {α β:Type} {x y:Option α} (f:α → Option β) (h:∀ _:Unit,x = y):x.bind f = y.bind f:=by rw [h ()]
theorem Uw {α:Type} {c c':Prop} [Decidable c] [Decidable c'] (x y:α) (h:∀ _:Unit,c = c'):(if c then x else y) = (if c' then x else y):=by
 have h:=h (); subst h; congr
theorem T8 {α:Type} (b:Bool) (x:Option α):(if b = true then none else x) = gate (b = false) x:=by cases b <;> rfl
theorem Qfn {α:Type} [Decidable True] {x:Option α}:gate True x = x:=by simp [gate]
def Gn {α:Type} (v:Value) (w:Bool) (x y:Option α):Option α:=match v with
 | .bool c => if c = w then x else y
 | _ => none
def gd (w:Bool) (v:Value):Value:=match v with
 | .tuple _ => .bool (!w)
 | v => v
theorem Qtw {w b:Bool}:gd w (.bool b) = .bool b:=Eq.trans rfl rfl
theorem gd_ut:gd true undef = .bool false:=Eq.trans rfl rfl
theorem gd_uf:gd false undef = .bool true:=Eq.trans rfl rfl
theorem W1 {α:Type} {v v':Value} (w:Bool) (x y:Option α) (h:∀ _:Unit,v = v'):Gn v w x y = Gn v' w x y:=by rw [h ()]
theorem Jr {α:Type} {x y:Option α}:Gn (.bool true) true x y = x:=rfl
theorem Ju {α:Type} {x y:Option α}:Gn (.bool false) false x y = x:=rfl
theorem Js {α:Type} {x y:Option α}:Gn (.bool true) false x y = y:=rfl
theorem Jt {α:Type} {x y:Option α}:Gn (.bool false) true x y = y:=rfl
def Qqk (t:Nat) (v:Option Value) (l:Env):Env:=match v with
 | some v => (t,v) :: l
 | none => l
theorem Z0 {t:Nat} {v:Value} {l:Env}:Qqk t (some v) l = (t,v) :: l:=rfl
theorem Qqj {e:Env}:Env.keep e [] = []:=rfl
theorem Qng {e:Env} {t:Nat} {r:List Nat}:Env.keep e (t :: r) = Qqk t (e.get t) (Env.keep e r):=rfl
theorem Qt3 {T:Tab} {base:Nat} {c:Operand} {a b:ACode} {s:St}:Xa T base (.cond c a b) s = (opd s.env c).bind fun v => Gn v true (Xa T base a s) (Xa T base b s):=by
 rw [Xy]
 cases opd s.env c with
 | none => rfl
 | some v =>
  cases v <;> try rfl
  rename_i c
  cases c <;> rfl
def steps (T:Tab) (b:Nat) (q:Bool):List AOper → St → Option St
 | [],s => some s
 | o :: r,s => match guardOf s.env o.guard with
  | some true => (Vy T o.op s.env s.h).bind fun x => if (q && !x.2.2.2.isEmpty) = true then none else steps T b q r ⟨s.env.put o.dst x.1,x.2.1,Xk b s.log x.2.2.2⟩
  | some false => steps T b q r ⟨s.env.put o.dst undef,s.h,s.log⟩
  | none => none
section
variable {T:Tab} {b:Nat} {q:Bool}
theorem M6:∀ (ops:List AOper) (s:St) (recs:List Rec),(evOps T b ops s recs).map (·.1) = steps T b false ops s
 | [],s,recs => by rw [Kj]; rfl
 | o :: r,s,recs => by
  rw [Xz]
  unfold steps
  cases hg:guardOf s.env o.guard with
  | none => rfl
  | some g =>
   cases g with
   | false => exact M6 r _ _
   | true =>
    cases hx:Vy T o.op s.env s.h with
    | none => simp [hx]
    | some x =>
     simp only [hx,Qf,Qb9,Zd,if_false]
     exact M6 r _ _
theorem Ht:∀ (ops:List AOper) (s:St) (recs:List Rec) (s':St),steps T b true ops s = some s' → (∀ r ∈ recs,r.2 = []) → ∃ recs',evOps T b ops s recs = some (s',recs') ∧ (∀ r ∈ recs',r.2 = []) ∧ recs'.length = recs.length + ops.length
 | [],s,recs,s',h,hr => by
  simp only [steps,Qg] at h
  subst h
  exact ⟨recs,Kj,hr,rfl⟩
 | o :: r,s,recs,s',h,hr => by
  rw [Xz]
  unfold steps at h
  cases hg:guardOf s.env o.guard with
  | none => simp only [hg] at h; cases h
  | some g =>
   simp only [hg] at h
   cases g with
   | false =>
    obtain ⟨recs',h1,h2,h3⟩:=Ht r _ (recs ++ [(some [],[])]) s' h (fun x hx => by
     rcases Kf.1 hx with h | h
     ·exact hr x h
     ·simp at h; subst h; rfl)
    exact ⟨recs',h1,h2,by rw [h3]; simp; omega⟩
   | true =>
    cases hx:Vy T o.op s.env s.h with
    | none => simp [hx] at h
    | some x =>
     simp only [hx,Qf] at h
     split at h
     ·cases h
     ·rename_i hq
      have hq':x.2.2.2 = []:=by simpa using hq
      obtain ⟨recs',h1,h2,h3⟩:=Ht r _ (recs ++ [(x.2.2.1,x.2.2.2)]) s' h (fun y hy => by
       rcases Kf.1 hy with h | h
       ·exact hr y h
       ·simp at h; subst h; exact hq')
      exact ⟨recs',h1,h2,by rw [h3]; simp; omega⟩
theorem Qnj {ops:List AOper} {keep:Option (List Nat)} {s:St}:Xa T b (.region ops keep []) s = (steps T b false ops s).bind fun s' => some (.normal,s'.after keep):=by
 rw [Jq,← M6 ops s []]
 cases evOps T b ops s [] <;> rfl
def Qbr {α:Type} (x y:Option α):Option α:=match x with
 | some v => some v
 | none => y
theorem Zz {α:Type} {v:α} {y:Option α}:Qbr (some v) y = some v:=rfl
theorem Uj {α:Type} {x x':Option α} (y:Option α) (h:∀ _:Unit,x = x'):Qbr x y = Qbr x' y:=by rw [h ()]
def quiet (T:Tab) (b:Nat) (ops:List AOper) (pairs:List (Nat × Nat)) (s:St):Option St :=
 match (pairs.all fun p => decide (p.1 < ops.length) && decide (p.2 < ops.length)) with
 | true => steps T b true ops s
 | false => none
theorem Dc {recs:List Rec} (hr:∀ r ∈ recs,r.2 = []):∀ {pairs:List (Nat × Nat)},(pairs.all fun p => decide (p.1 < recs.length) && decide (p.2 < recs.length)) = true → Va recs pairs = true
 | [],_ => rfl
 | (i,j) :: ps,h => by
  simp only [Jm,Vh,decide_eq_true_eq] at h
  have ih:=Dc hr (pairs:=ps) h.2
  simp only [Va,Jm,Vh] at ih ⊢
  refine ⟨?_,ih⟩
  rw [Qq h.1.1,Qq h.1.2]
  simp only [Qck,hr _ (Tr h.1.1),hr _ (Tr h.1.2),List.isEmpty_nil,Bool.true_or,J1]
def Qqo (T:Tab) (b:Nat) (c:ACode) (s:St):Option (AExit × St):=Xa T b c s
theorem X4 {ops:List AOper} {keep:Option (List Nat)} {p:Nat × Nat} {ps:List (Nat × Nat)} {s:St}:Xa T b (.region ops keep (p :: ps)) s = Qbr ((quiet T b ops (p :: ps) s).bind fun s' => some (.normal,s'.after keep)) (Qqo T b (.region ops keep (p :: ps)) s):=by
 cases hq:quiet T b ops (p :: ps) s with
 | none => rfl
 | some s' =>
  simp only [Qf,Qbr]
  unfold quiet at hq
  split at hq
  ·rename_i hp
   obtain ⟨recs,h1,h2,h3⟩:=Ht ops s [] s' hq (by simp)
   simp only [Zp,Zh] at h3
   rw [Jq,h1]
   simp only [Qf]
   rw [if_pos (Dc h2 (by rw [h3]; exact hp))]
  ·cases hq
theorem Qxw {s:St}:steps T b q [] s = some s:=rfl
theorem Qqw {o:AOp} {d:Option Nat} {t:Nat} {w:Bool} {r:List AOper} {e:Env} {H:List Ob} {l:List Nat}:steps T b q (⟨d,o,some (t,w)⟩ :: r) ⟨e,H,l⟩ = (e.get t).bind fun v => Gn (gd w v) w (steps T b q (⟨d,o,none⟩ :: r) ⟨e,H,l⟩) (steps T b q r ⟨e.put d undef,H,l⟩):=by
 simp only [steps,guardOf]
 cases e.get t with
 | none => rfl
 | some v =>
  cases v <;> try rfl
  all_goals first | (cases w <;> rfl) | (rename_i c; cases c <;> cases w <;> rfl)
theorem Wh {o:AOp} {d:Nat} {r:List AOper} {e:Env} {H:List Ob} {l:List Nat} {v:Option Value} (h:Vy T o e H = Vo H v):steps T b q (⟨some d,o,none⟩ :: r) ⟨e,H,l⟩ = v.bind fun v => steps T b q r ⟨(d,v) :: e,H,l⟩:=by
 simp only [steps,guardOf,h,Vo]
 cases v <;> cases q <;> rfl
theorem Qnn {base id:Nat} {x y:ACode} {s:St}:Xa T base (.block id (.seq x y)) s = (Xa T base (.seq x y) s).bind fun r => match r.1 with
  | .exit i => if i = id then some (.normal,r.2) else some (.exit i,r.2)
  | z => some (z,r.2):=Z7
theorem Qno {base id:Nat} {ops:List AOper} {keep:Option (List Nat)} {pairs:List (Nat × Nat)} {s:St}:Xa T base (.block id (.region ops keep pairs)) s = (Xa T base (.region ops keep pairs) s).bind fun r => match r.1 with
  | .exit i => if i = id then some (.normal,r.2) else some (.exit i,r.2)
  | z => some (z,r.2):=Z7
theorem Qnq {base id:Nat} {c:Operand} {x y:ACode} {s:St}:Xa T base (.block id (.cond c x y)) s = (Xa T base (.cond c x y) s).bind fun r => match r.1 with
  | .exit i => if i = id then some (.normal,r.2) else some (.exit i,r.2)
  | z => some (z,r.2):=Z7
theorem Qnp {base id:Nat} {s:St}:Xa T base (.block id .skip) s = some (.normal,s):=by rw [Z7,Xp]; rfl
theorem Qnr {base id id2:Nat} {x:ACode} {s:St}:Xa T base (.block id (.block id2 x)) s = (Xa T base (.block id2 x) s).bind fun r => match r.1 with
  | .exit i => if i = id then some (.normal,r.2) else some (.exit i,r.2)
  | z => some (z,r.2):=Z7
def Qon:Value → Value → Value → Option Value
 | .bool t,a,b => some (if t then a else b)
 | _,_,_ => none
def vEq (ks:Option (List Bool)) (neg:Bool) (x y:Value):Option Value :=
 (match ks,x,y with
  | some ks,.agg a,.agg b => Yk ks a.toList b.toList
  | none,.bool a,.bool b => some (a == b)
  | _,_,_ => none).bind fun b => some (.bool (if neg then !b else b))
def Qvs (k:IntKind):Value → Option Value
 | .int _ n => some (.int k (k.wrap n))
 | _ => none
def vStr:Value → Option Value
 | .string s => some (.string s)
 | _ => none
def Qoq (n:Option Nat) (off:Nat):Value → Option Value
 | .agg cs => Vv n cs.toList off
 | _ => none
def Qfw (n:Option Nat) (len es:Nat):Value → Value → Option Value
 | .agg cs,.int _ i => if 0 ≤ i ∧ i < len then Vv n cs.toList (i.toNat * es) else none
 | _,_ => none
def Qe1:Value → Value → Option Value
 | .string s,.int _ i => if 0 ≤ i then (s.data.toList[i.toNat]?).bind fun b => some (.int .u8 b.toNat) else none
 | _,_ => none
def Qcr (off:Nat):Value → Option Value
 | .pointer (some a) => some (.pointer (some (a.add off)))
 | _ => none
def Qcq (len es:Nat):Value → Value → Option Value
 | .pointer (some a),.int _ i => if 0 ≤ i ∧ i < len then some (.pointer (some (a.add (i.toNat * es)))) else none
 | _,_ => none
def Qhc (es:Nat):Value → Value → Option Value
 | .slice (some a) len _,.int _ i => if 0 ≤ i ∧ i < len then some (.pointer (some (a.add (i.toNat * es)))) else none
 | _,_ => none
def Qav (n es:Nat) (lo hi mx:Option Value):Value → Option Value
 | .pointer (some a) => (Wi n n lo hi mx).bind fun r => some (.slice (some (a.add (r.1 * es))) (r.2.1 - r.1) (r.2.2 - r.1))
 | _ => none
def vSliceSl (H:List Ob) (es:Nat) (lo hi mx:Option Value):Value → Option Value
 | .slice (some a) len cap => (Wi len cap lo hi mx).bind fun r => (liveAt H a.block).bind fun o =>
    if o.exact ∨ ¬ o.own ∨ es ≤ o.es then some (.slice (some (a.add (r.1 * es))) (r.2.1 - r.1) (r.2.2 - r.1)) else none
 | .slice none 0 0 => (Wi 0 0 lo hi mx).bind fun _ => some (.slice none 0 0)
 | _ => none
def Qez (lo hi:Option Value):Value → Option Value
 | .string s => (Wi s.size s.size lo hi none).bind fun r => some (.string (s.extract r.1 r.2.1))
 | _ => none
def Qhd (i:Nat):Value → Option Value
 | .tuple vs => vs.toList[i]?
 | _ => none
def Qe0:Value → Option Value
 | .pointer (some a) => some (.pointer (some a))
 | _ => none
def Qvq (n:Nat):Value → Option Value
 | .slice (some a) len _ => if n ≤ len ∧ 0 < n then some (.pointer (some a)) else none
 | _ => none
def vLen (str:Bool):Value → Option Value
 | .slice _ n _ => if str then none else some (.int .i64 n)
 | .string s => if str then some (.int .i64 s.size) else none
 | _ => none
def Tt (mx:Bool):Value → Value → Option Value
 | .int k a,.int k' b => if k = k' then some (.int k (if mx then (if b > a then b else a) else (if b < a then b else a))) else none
 | _,_ => none
def Qha (H:List Ob) (n:Option Nat):Value → Option Value
 | .pointer (some a) => (liveAt H a.block).bind fun o => if a.spot.isNone then Vv n o.cells a.off else none
 | _ => none
def Qwe (H:List Ob) (x:Value):Option Value:=match x with
 | .slice _ n _ => (elemsOf H 1 n x).bind fun cs => (Ul cs).bind fun l => some (.string ⟨l.toArray⟩)
 | _ => none
theorem Qtz {x:Operand} {d:Nat} {r:List AOper} {e:Env} {H:List Ob} {l:List Nat}:steps T b q (⟨some d,.move x,none⟩ :: r) ⟨e,H,l⟩ = (opd e x).bind fun v => steps T b q r ⟨(d,v) :: e,H,l⟩:=Wh Xs
theorem Qty {c x y:Operand} {d:Nat} {r:List AOper} {e:Env} {H:List Ob} {l:List Nat}:steps T b q (⟨some d,.pick c x y,none⟩ :: r) ⟨e,H,l⟩ = (opd e c).bind fun c => (opd e x).bind fun x => (opd e y).bind fun y => (Qon c x y).bind fun v => steps T b q r ⟨(d,v) :: e,H,l⟩:=by
 rw [Wh Xr]
 cases opd e c with
 | none => rfl
 | some c =>
  cases opd e x with
  | none => rfl
  | some x =>
   cases opd e y with
   | none => rfl
   | some y => cases c <;> cases q <;> rfl
theorem Qq1 {zero:List Value} {d:Nat} {r:List AOper} {e:Env} {H:List Ob} {l:List Nat}:steps T b q (⟨some d,.alloc zero,none⟩ :: r) ⟨e,H,l⟩ = steps T b q r ⟨(d,.pointer (some ⟨H.length,0,none⟩)) :: e,H ++ [⟨zero,true,true,true,1⟩],l⟩:=by
 simp only [steps,guardOf,Xi,Zb,Qf,Env.put,Xk,Ob.fresh]
 cases q <;> rfl
theorem Qxz {x:Operand} {d:Nat} {r:List AOper} {e:Env} {H:List Ob} {l:List Nat}:steps T b q (⟨some d,.box x,none⟩ :: r) ⟨e,H,l⟩ = (opd e x).bind fun v => gate (Vu v = true) (steps T b q r ⟨(d,.pointer (some ⟨H.length,0,none⟩)) :: e,H ++ [⟨v.cells.toList,true,true,true,1⟩],l⟩):=by
 simp only [steps,guardOf,X8,Zb,Env.put,Xk,Ob.fresh]
 cases opd e x with
 | none => rfl
 | some v => simp only [Qf,gate]; split <;> cases q <;> rfl
theorem Qt0 {n:Option Nat} {x:Operand} {d:Nat} {r:List AOper} {e:Env} {H:List Ob} {l:List Nat}:steps T b q (⟨some d,.load n x,none⟩ :: r) ⟨e,H,l⟩ = (opd e x).bind fun a => (Qha H n a).bind fun v => steps T b q r ⟨(d,v) :: e,H,l⟩:=by
 simp only [steps,guardOf,Xt,Zb,Env.put]
 cases opd e x with
 | none => rfl
 | some v =>
  cases v <;> try rfl
  rename_i p
  cases p with
  | none => rfl
  | some a =>
   simp only [Qf,Qha]
   cases liveAt H a.block with
   | none => rfl
   | some o =>
    simp only [Qf]
    split
    ·cases Vv n o.cells a.off <;> cases q <;> rfl
    ·rfl
def Qjm (H:List Ob) (n:Nat):Value → Value → Option (List Ob)
 | .pointer (some a),v => if v.cells.size = n ∧ Vu v = true then storeAt H a v.cells.toList else none
 | _,_ => none
def Qru:Value → List Nat
 | .pointer (some a) => [a.block]
 | _ => []
theorem Qqt {n:Nat} {a x:Operand} {r:List AOper} {e:Env} {H:List Ob} {l:List Nat}:steps T b q (⟨none,.store n a x,none⟩ :: r) ⟨e,H,l⟩ = (opd e a).bind fun a => (opd e x).bind fun v => (Qjm H n a v).bind fun H' => gate (q = false) (steps T b q r ⟨e,H',Xk b l (Qru a)⟩):=by
 simp only [steps,guardOf,Xd,Zb,Env.put]
 cases opd e a with
 | none => rfl
 | some av =>
  cases opd e x with
  | none => rfl
  | some v =>
   cases av <;> try rfl
   rename_i p
   cases p with
   | none => rfl
   | some a =>
    simp only [Qf,Qjm,Qru]
    split
    ·cases storeAt H a v.cells.toList <;> cases q <;> rfl
    ·rfl
theorem Qx0 {op:BinOp} {x y:Operand} {d:Nat} {r:List AOper} {e:Env} {H:List Ob} {l:List Nat}:steps T b q (⟨some d,.bin op x y,none⟩ :: r) ⟨e,H,l⟩ = (opd e x).bind fun x => (opd e y).bind fun y => (Yh op x y).bind fun v => steps T b q r ⟨(d,v) :: e,H,l⟩:=by
 rw [Wh X9]
 cases opd e x <;> cases opd e y <;> cases q <;> rfl
theorem Qxy {ks:Option (List Bool)} {neg:Bool} {x y:Operand} {d:Nat} {r:List AOper} {e:Env} {H:List Ob} {l:List Nat}:steps T b q (⟨some d,.eqv ks neg x y,none⟩ :: r) ⟨e,H,l⟩ = (opd e x).bind fun x => (opd e y).bind fun y => (vEq ks neg x y).bind fun v => steps T b q r ⟨(d,v) :: e,H,l⟩:=by
 rw [Wh X7]
 cases opd e x <;> cases opd e y <;> cases q <;> rfl
theorem Qqu {k:Nat} {neg:Bool} {x:Operand} {d:Nat} {r:List AOper} {e:Env} {H:List Ob} {l:List Nat}:steps T b q (⟨some d,.isNil k neg x,none⟩ :: r) ⟨e,H,l⟩ = (opd e x).bind fun x => (Gm k x).bind fun c => steps T b q r ⟨(d,.bool (if neg then !c else c)) :: e,H,l⟩:=by
 rw [Wh Xe]
 cases opd e x with
 | none => rfl
 | some v => simp only [Qf]; cases Gm k v <;> cases q <;> rfl
theorem fs_un {op:UnOp} {x:Operand} {d:Nat} {r:List AOper} {e:Env} {H:List Ob} {l:List Nat}:steps T b q (⟨some d,.un op x,none⟩ :: r) ⟨e,H,l⟩ = (opd e x).bind fun x => (unV op x).bind fun v => steps T b q r ⟨(d,v) :: e,H,l⟩:=by
 rw [Wh Ko]
 cases opd e x <;> cases q <;> rfl
theorem Qt2 {k:IntKind} {x:Operand} {d:Nat} {r:List AOper} {e:Env} {H:List Ob} {l:List Nat}:steps T b q (⟨some d,.conv k x,none⟩ :: r) ⟨e,H,l⟩ = (opd e x).bind fun x => (Qvs k x).bind fun v => steps T b q r ⟨(d,v) :: e,H,l⟩:=by
 rw [Wh Xv]
 cases opd e x <;> cases q <;> rfl
def Qca (H:List Ob):Value → Option Value
 | .slice (some a) n c => (liveAt H a.block).bind fun o => if o.own = true ∧ a.spot.isNone = true then some (.slice (some a) n c) else none
 | _ => none
theorem Qnm {x:Operand} {d:Nat} {r:List AOper} {e:Env} {H:List Ob} {l:List Nat}:steps T b q (⟨some d,.convSl x,none⟩ :: r) ⟨e,H,l⟩ = (opd e x).bind fun x => (Qca H x).bind fun v => steps T b q r ⟨(d,v) :: e,H,l⟩:=by
 simp only [steps,guardOf,Qer,Zb,Env.put]
 cases opd e x with
 | none => rfl
 | some v =>
  simp only [Qf]
  cases v with
  | slice a n c =>
   cases a with
   | none => rfl
   | some a =>
    simp only [Qca]
    cases liveAt H a.block with
    | none => rfl
    | some o =>
     simp only [Qf]
     split <;> cases q <;> rfl
  | _ => rfl
theorem Qkz {x:Operand} {d:Nat} {r:List AOper} {e:Env} {H:List Ob} {l:List Nat}:steps T b q (⟨some d,.convStr x,none⟩ :: r) ⟨e,H,l⟩ = (opd e x).bind fun x => (vStr x).bind fun v => steps T b q r ⟨(d,v) :: e,H,l⟩:=by
 rw [Wh Jj]
 cases opd e x <;> cases q <;> rfl
theorem Qqx {n:Option Nat} {off:Nat} {x:Operand} {d:Nat} {r:List AOper} {e:Env} {H:List Ob} {l:List Nat}:steps T b q (⟨some d,.field n off x,none⟩ :: r) ⟨e,H,l⟩ = (opd e x).bind fun x => (Qoq n off x).bind fun v => steps T b q r ⟨(d,v) :: e,H,l⟩:=by
 rw [Wh Xg]
 cases opd e x <;> cases q <;> rfl
theorem Qqv {n:Option Nat} {len es:Nat} {x i:Operand} {d:Nat} {r:List AOper} {e:Env} {H:List Ob} {l:List Nat}:steps T b q (⟨some d,.index n len es x i,none⟩ :: r) ⟨e,H,l⟩ = (opd e x).bind fun x => (opd e i).bind fun i => (Qfw n len es x i).bind fun v => steps T b q r ⟨(d,v) :: e,H,l⟩:=by
 rw [Wh Xf]
 cases opd e x <;> cases opd e i <;> cases q <;> rfl
theorem Qiv {x i:Operand} {d:Nat} {r:List AOper} {e:Env} {H:List Ob} {l:List Nat}:steps T b q (⟨some d,.indexStr x i,none⟩ :: r) ⟨e,H,l⟩ = (opd e x).bind fun x => (opd e i).bind fun i => (Qe1 x i).bind fun v => steps T b q r ⟨(d,v) :: e,H,l⟩:=by
 rw [Wh Z5]
 cases opd e x <;> cases opd e i <;> cases q <;> rfl
theorem Qq0 {zero:List Value} {ps:List (Nat × Nat × Operand)} {d:Nat} {r:List AOper} {e:Env} {H:List Ob} {l:List Nat}:steps T b q (⟨some d,.build zero ps,none⟩ :: r) ⟨e,H,l⟩ = (Kh e ps).bind fun ps => (fillL zero ps).bind fun cs => steps T b q r ⟨(d,.agg cs.toArray) :: e,H,l⟩:=by
 rw [Wh Xh]
 cases Kh e ps with
 | none => rfl
 | some v => simp only [Qf]; cases fillL zero v <;> cases q <;> rfl
theorem Qeq {cells:List Value} {len:Nat} {ps:List (Nat × Nat × Operand)} {d:Nat} {r:List AOper} {e:Env} {H:List Ob} {l:List Nat}:steps T b q (⟨some d,.buildSlice cells len ps,none⟩ :: r) ⟨e,H,l⟩ = (Kh e ps).bind fun ps => (fillL cells ps).bind fun cs => steps T b q r ⟨(d,.slice (some ⟨H.length,0,none⟩) len len) :: e,H ++ [⟨cs,true,true,true,1⟩],l⟩:=by
 simp only [steps,guardOf,Zr,Zb,Env.put,Ob.fresh]
 cases Kh e ps with
 | none => rfl
 | some v => simp only [Qf]; cases fillL cells v <;> cases q <;> rfl
theorem Qgr {off:Nat} {x:Operand} {d:Nat} {r:List AOper} {e:Env} {H:List Ob} {l:List Nat}:steps T b q (⟨some d,.fieldAddr off x,none⟩ :: r) ⟨e,H,l⟩ = (opd e x).bind fun x => (Qcr off x).bind fun v => steps T b q r ⟨(d,v) :: e,H,l⟩:=by
 rw [Wh Zx]
 cases opd e x <;> cases q <;> rfl
theorem Qgq {len es:Nat} {x i:Operand} {d:Nat} {r:List AOper} {e:Env} {H:List Ob} {l:List Nat}:steps T b q (⟨some d,.indexAddr len es x i,none⟩ :: r) ⟨e,H,l⟩ = (opd e x).bind fun x => (opd e i).bind fun i => (Qcq len es x i).bind fun v => steps T b q r ⟨(d,v) :: e,H,l⟩:=by
 rw [Wh Zw]
 cases opd e x <;> cases opd e i <;> cases q <;> rfl
theorem Qkx {es:Nat} {x i:Operand} {d:Nat} {r:List AOper} {e:Env} {H:List Ob} {l:List Nat}:steps T b q (⟨some d,.indexSl es x i,none⟩ :: r) ⟨e,H,l⟩ = (opd e x).bind fun x => (opd e i).bind fun i => (Qhc es x i).bind fun v => steps T b q r ⟨(d,v) :: e,H,l⟩:=by
 rw [Wh Jh]
 cases opd e x <;> cases opd e i <;> cases q <;> rfl
theorem Qit {n es:Nat} {x:Operand} {lo hi mx:Option Operand} {d:Nat} {r:List AOper} {e:Env} {H:List Ob} {l:List Nat}:steps T b q (⟨some d,.sliceArr n es x lo hi mx,none⟩ :: r) ⟨e,H,l⟩ = (opd e x).bind fun x => (Kz e lo).bind fun lo => (Kz e hi).bind fun hi => (Kz e mx).bind fun mx => (Qav n es lo hi mx x).bind fun v => steps T b q r ⟨(d,v) :: e,H,l⟩:=by
 rw [Wh Z3]
 cases opd e x <;> cases Kz e lo <;> cases Kz e hi <;> cases Kz e mx <;> cases q <;> rfl
theorem Qkv {es:Nat} {x:Operand} {lo hi mx:Option Operand} {d:Nat} {r:List AOper} {e:Env} {H:List Ob} {l:List Nat}:steps T b q (⟨some d,.sliceSl es x lo hi mx,none⟩ :: r) ⟨e,H,l⟩ = (opd e x).bind fun x => (Kz e lo).bind fun lo => (Kz e hi).bind fun hi => (Kz e mx).bind fun mx => (vSliceSl H es lo hi mx x).bind fun v => steps T b q r ⟨(d,v) :: e,H,l⟩:=by
 simp only [steps,guardOf,Jf,Zb,Env.put]
 cases opd e x with
 | none => rfl
 | some v =>
  cases Kz e lo with
  | none => rfl
  | some lo =>
   cases Kz e hi with
   | none => rfl
   | some hi =>
    cases Kz e mx with
    | none => rfl
    | some mx =>
     simp only [Qf]
     cases v <;> try rfl
     rename_i base len cap
     cases base with
     | some a =>
      simp only [vSliceSl]
      cases Wi len cap lo hi mx with
      | none => rfl
      | some r =>
       simp only [Qf]
       cases liveAt H a.block with
       | none => rfl
       | some o => simp only [Qf]; split <;> cases q <;> rfl
     | none =>
      cases len <;> cases cap <;> try rfl
      simp only [vSliceSl]
      cases Wi 0 0 lo hi mx <;> cases q <;> rfl
theorem Qis {x:Operand} {lo hi:Option Operand} {d:Nat} {r:List AOper} {e:Env} {H:List Ob} {l:List Nat}:steps T b q (⟨some d,.sliceStr x lo hi,none⟩ :: r) ⟨e,H,l⟩ = (opd e x).bind fun x => (Kz e lo).bind fun lo => (Kz e hi).bind fun hi => (Qez lo hi x).bind fun v => steps T b q r ⟨(d,v) :: e,H,l⟩:=by
 rw [Wh Z2]
 cases opd e x <;> cases Kz e lo <;> cases Kz e hi <;> cases q <;> rfl
def Qoo (zero:List Value) (bytes:Nat) (id:Nat):Value → Value → Option (Value × Ob)
 | .int _ l,.int _ c => if 0 ≤ l ∧ l ≤ c ∧ c * bytes ≤ 2 ^ 47 ∧ 0 < bytes ∧ 0 < zero.length then some (.slice (some ⟨id,0,none⟩) l.toNat c.toNat,⟨(Qb c.toNat zero).flatten,true,true,true,1⟩) else none
 | _,_ => none
theorem Qgp {zero:List Value} {bytes:Nat} {x y:Operand} {d:Nat} {r:List AOper} {e:Env} {H:List Ob} {l:List Nat}:steps T b q (⟨some d,.makeSlice zero bytes x y,none⟩ :: r) ⟨e,H,l⟩ = (opd e x).bind fun x => (opd e y).bind fun y => (Qoo zero bytes H.length x y).bind fun v => steps T b q r ⟨(d,v.1) :: e,H ++ [v.2],l⟩:=by
 simp only [steps,guardOf,Zv,Zb,Env.put]
 cases opd e x with
 | none => rfl
 | some v =>
  cases opd e y with
  | none => rfl
  | some w =>
   simp only [Qf]
   unfold Qoo
   cases v <;> try rfl
   cases w <;> try rfl
   dsimp only
   split <;> cases q <;> rfl
theorem Qky {x:Operand} {i d:Nat} {r:List AOper} {e:Env} {H:List Ob} {l:List Nat}:steps T b q (⟨some d,.extract x i,none⟩ :: r) ⟨e,H,l⟩ = (opd e x).bind fun x => (Qhd i x).bind fun v => steps T b q r ⟨(d,v) :: e,H,l⟩:=by
 rw [Wh Ji]
 cases opd e x <;> cases q <;> rfl
theorem Qkw {t:TypeId} {x:Operand} {d:Nat} {r:List AOper} {e:Env} {H:List Ob} {l:List Nat}:steps T b q (⟨some d,.mkIface t x,none⟩ :: r) ⟨e,H,l⟩ = (opd e x).bind fun x => steps T b q r ⟨(d,.iface t x) :: e,H,l⟩:=by
 rw [Wh Jg]
 cases opd e x <;> cases q <;> rfl
theorem Qnk {fn:Fn} {fs cs:List Operand} {d:Nat} {r:List AOper} {e:Env} {H:List Ob} {l:List Nat}:steps T b q (⟨some d,.mkFunc fn fs cs,none⟩ :: r) ⟨e,H,l⟩ = (Yo e fs).bind fun fs => (Yo e cs).bind fun cs => steps T b q r ⟨(d,.func fn fs.toArray cs.toArray) :: e,H,l⟩:=by
 rw [Wh Jw]
 cases Yo e fs <;> cases Yo e cs <;> cases q <;> rfl
theorem Qiu {x:Operand} {d:Nat} {r:List AOper} {e:Env} {H:List Ob} {l:List Nat}:steps T b q (⟨some d,.nilCheck x,none⟩ :: r) ⟨e,H,l⟩ = (opd e x).bind fun x => (Qe0 x).bind fun v => steps T b q r ⟨(d,v) :: e,H,l⟩:=by
 rw [Wh Z4]
 cases opd e x <;> cases q <;> rfl
theorem Qtx {n:Nat} {x:Operand} {d:Nat} {r:List AOper} {e:Env} {H:List Ob} {l:List Nat}:steps T b q (⟨some d,.s2ap n x,none⟩ :: r) ⟨e,H,l⟩ = (opd e x).bind fun x => (Qvq n x).bind fun v => steps T b q r ⟨(d,v) :: e,H,l⟩:=by
 rw [Wh Xq]
 cases opd e x <;> cases q <;> rfl
theorem Qxx {str:Bool} {x:Operand} {d:Nat} {r:List AOper} {e:Env} {H:List Ob} {l:List Nat}:steps T b q (⟨some d,.len str x,none⟩ :: r) ⟨e,H,l⟩ = (opd e x).bind fun x => (vLen str x).bind fun v => steps T b q r ⟨(d,v) :: e,H,l⟩:=by
 rw [Wh X6]
 cases opd e x <;> cases q <;> rfl
theorem Qnl {mx:Bool} {x y:Operand} {d:Nat} {r:List AOper} {e:Env} {H:List Ob} {l:List Nat}:steps T b q (⟨some d,.minmax mx x y,none⟩ :: r) ⟨e,H,l⟩ = (opd e x).bind fun x => (opd e y).bind fun y => (Tt mx x y).bind fun v => steps T b q r ⟨(d,v) :: e,H,l⟩:=by
 rw [Wh Jx]
 cases opd e x <;> cases opd e y <;> cases q <;> rfl
def Qv9 (id:Nat):Value → Option (Value × Ob)
 | .string s => if s.size ≤ 2 ^ 47 then some (.slice (some ⟨id,0,none⟩) s.size s.size,⟨s.data.toList.map fun b => .int .u8 b.toNat,true,true,false,1⟩) else none
 | _ => none
theorem Qxv {x:Operand} {d:Nat} {r:List AOper} {e:Env} {H:List Ob} {l:List Nat}:steps T b q (⟨some d,.s2b x,none⟩ :: r) ⟨e,H,l⟩ = (opd e x).bind fun x => (Qv9 H.length x).bind fun v => steps T b q r ⟨(d,v.1) :: e,H ++ [v.2],l⟩:=by
 simp only [steps,guardOf,X5,Zb,Env.put,Ob.grown]
 cases opd e x with
 | none => rfl
 | some v =>
  cases v <;> try rfl
  simp only [Qf,Qv9]
  split <;> cases q <;> rfl
theorem Qx1 {x:Operand} {d:Nat} {r:List AOper} {e:Env} {H:List Ob} {l:List Nat}:steps T b q (⟨some d,.b2s x,none⟩ :: r) ⟨e,H,l⟩ = (opd e x).bind fun x => (Qwe H x).bind fun v => steps T b q r ⟨(d,v) :: e,H,l⟩:=by
 simp only [steps,guardOf,Ka,Zb,Env.put]
 cases opd e x with
 | none => rfl
 | some v =>
  cases v <;> try rfl
  rename_i base n cap
  simp only [Qf,Qwe]
  cases elemsOf H 1 n (.slice base n cap) with
  | none => rfl
  | some cs =>
   simp only [Qf]
   cases Ul cs <;> cases q <;> rfl
theorem Qns {es bytes:Nat} {x y:Operand} {d:Nat} {r:List AOper} {e:Env} {H:List Ob} {l:List Nat}:steps T b q (⟨some d,.append es bytes x y,none⟩ :: r) ⟨e,H,l⟩ = (opd e x).bind fun x => (opd e y).bind fun y => (Yp es bytes H x y).bind fun v => gate ((q && !v.2.2.2.isEmpty) = false) (steps T b q r ⟨(d,v.1) :: e,v.2.1,Xk b l v.2.2.2⟩):=by
 simp only [steps,guardOf,T8,Jy,Zb,Env.put]
 cases opd e x <;> cases opd e y <;> cases q <;> rfl
def Qvr (H:List Ob) (es:Nat) (d s:Value):Option (Value × List Ob × List Nat):=match d with
 | .slice base dl _ => (lenV s).bind fun sl => (elemsOf H es (min sl dl) s).bind fun cs => match base with
   | some a => (storeAt H a cs).bind fun H' => some (.int .i64 (min sl dl:Nat),H',[a.block])
   | none => if dl = 0 then some (.int .i64 0,H,[]) else none
 | _ => none
theorem Qt1 {es:Nat} {x y:Operand} {d:Option Nat} {r:List AOper} {e:Env} {H:List Ob} {l:List Nat}:steps T b q (⟨d,.copy es x y,none⟩ :: r) ⟨e,H,l⟩ = (opd e x).bind fun x => (opd e y).bind fun y => (Qvr H es x y).bind fun v => gate ((q && !v.2.2.isEmpty) = false) (steps T b q r ⟨e.put d v.1,v.2.1,Xk b l v.2.2⟩):=by
 simp only [steps,guardOf,T8,Xu,Zb]
 cases opd e x with
 | none => rfl
 | some v =>
  cases opd e y with
  | none => rfl
  | some s =>
   simp only [Qf]
   cases v <;> try rfl
   rename_i base dl cap
   unfold Qvr
   dsimp only
   cases lenV s with
   | none => rfl
   | some sl =>
    simp only [Qf]
    cases elemsOf H es (min sl dl) s with
    | none => rfl
    | some cs =>
     simp only [Qf]
     cases base with
     | none => dsimp only; split <;> cases q <;> rfl
     | some a => dsimp only; cases storeAt H a cs <;> cases q <;> rfl
theorem Wf {f:Nat} {xs:List Operand} {d:Option Nat} {r:List AOper} {e:Env} {H:List Ob} {l:List Nat}:steps T b q (⟨d,.call f xs true,none⟩ :: r) ⟨e,H,l⟩ = (Yo e xs).bind fun args => gate (args.all rf = true) ((Vl T f args []).bind fun v => gate (rf v.1 = true) (steps T b q r ⟨e.put d v.1,H,l⟩)):=by
 simp only [steps,guardOf,Jk]
 cases Yo e xs with
 | none => rfl
 | some args =>
  simp only [Qf]
  cases args.all rf with
  | false => rfl
  | true =>
   simp only [if_true,Qfn]
   cases Vl T f args [] with
   | none => rfl
   | some v =>
    simp only [Qf]
    cases rf v.1 <;> cases q <;> rfl
theorem Qqz {f:Nat} {xs:List Operand} {d:Option Nat} {r:List AOper} {e:Env} {H:List Ob} {l:List Nat}:steps T b q (⟨d,.call f xs false,none⟩ :: r) ⟨e,H,l⟩ = (Yo e xs).bind fun args => (Vl T f args H).bind fun v => gate ((q && !v.2.2.isEmpty) = false) (steps T b q r ⟨e.put d v.1,v.2.1,Xk b l v.2.2⟩):=by
 simp only [steps,guardOf,T8,Xw]
 cases Yo e xs with
 | none => rfl
 | some args =>
  simp only [Zd,if_false,Qf]
  cases Vl T f args H <;> cases q <;> rfl
def callee:Value → List Value → Option (Nat × List Value)
 | .func (.func f) first captured,args => some (f,first.toList ++ args ++ captured.toList)
 | _,_ => none
theorem Qnv {f:Operand} {xs:List Operand} {e:Env} {H:List Ob}:Vy T (.callv f xs) e H = (opd e f).bind fun f => (Yo e xs).bind fun args => (callee f args).bind fun c => (Vl T c.1 c.2 H).bind fun r => some (r.1,r.2.1,none,r.2.2):=by
 rw [Vy.eq_def]
 dsimp only
 cases opd e f with
 | none => rfl
 | some fv =>
  cases Yo e xs with
  | none =>
   cases fv <;> try rfl
   rename_i fn _ _
   cases fn <;> rfl
  | some args =>
   cases fv <;> try rfl
   rename_i fn _ _
   cases fn <;> rfl
theorem Qqy {f:Operand} {xs:List Operand} {d:Option Nat} {r:List AOper} {e:Env} {H:List Ob} {l:List Nat}:steps T b q (⟨d,.callv f xs,none⟩ :: r) ⟨e,H,l⟩ = (opd e f).bind fun f => (Yo e xs).bind fun args => (callee f args).bind fun c => (Vl T c.1 c.2 H).bind fun v => gate ((q && !v.2.2.isEmpty) = false) (steps T b q r ⟨e.put d v.1,v.2.1,Xk b l v.2.2⟩):=by
 simp only [steps,guardOf,T8,Qnv]
 cases opd e f with
 | none => rfl
 | some fv =>
  cases Yo e xs with
  | none => rfl
  | some args =>
   simp only [Qf]
   cases callee fv args with
   | none => rfl
   | some c => simp only [Qf]; cases Vl T c.1 c.2 H <;> cases q <;> rfl
end
theorem hget0 {H l:List Ob}:(H ++ l)[H.length]? = l[0]? := by rw [Ze (Q8 _),V8]
theorem hgetK {H l:List Ob} {k:Nat}:(H ++ l)[H.length + k]? = l[k]? := by rw [Ze (by omega)]; congr 1; omega
theorem Qqp {H l:List Ob} {o:Ob}:(H ++ l).set H.length o = H ++ l.set 0 o:=by rw [Hj _ _ (Q8 _),V8]
theorem hsetK {H l:List Ob} {o:Ob} {k:Nat}:(H ++ l).set (H.length + k) o = H ++ l.set k o:=by rw [Hj _ _ (by omega)]; congr 2; omega
theorem Qf1 {cs v:List Value} (h:v.length = cs.length):splice cs 0 v = v:=by
 rw [Gy _ _ _ (by omega),Zf,Q2,Zh,h,List.drop_length,Kw]
theorem Qju {cs:List Value} {n:Nat} (h:cs.length = n):(cs.drop 0).take n = cs:=by rw [Zc,Zq (by omega)]
theorem B4:∀ {n:Nat} {p q:List Nat},p.length = n → q.length = n → Yk (Qb n true) (u8s p) (u8s q) = some (p == q)
 | 0,[],[],_,_ => rfl
 | n + 1,x :: p,y :: q,hp,hq => by
  have:=B4 (n:=n) (p:=p) (q:=q) (by simpa using hp) (by simpa using hq)
  simp only [u8s,Yf,B2,Yk,Tp,if_true,Qf] at this ⊢
  rw [this]
  simp only [Qf,List.cons_beq_cons]
  congr 2
  by_cases h:x = y
  ·subst h; simp
  ·have:¬ ((x:Int) = y):=by omega
   rw [beq_eq_false_iff_ne.2 h,beq_eq_false_iff_ne.2 this]
theorem Qph (l:List Nat):rf (.agg (u8s l).toArray) = true:=by
 show (u8s l).toArray.toList.all K0 = true
 rw [show (u8s l).toArray.toList = u8s l from rfl]
 simp [u8s,K0]
theorem Qln (b:Bool):rf (.bool b) = true:=rfl
theorem Qrv (l:List Value):l.toArray.toList = l:=rfl
theorem Grown.len {k:IntKind} {B:Nat} {H:List Ob} {s:Value} {bs:List Nat} (h:Grown k B H s bs):vLen false s = some (.int .i64 bs.length):=by cases h <;> rfl
theorem Sl.len {k:IntKind} {H:List Ob} {s:Value} {bs:List Nat} (h:Sl k H s bs):vLen false s = some (.int .i64 bs.length):=by cases h <;> rfl
section
variable {e:Env} {H:List Ob}
theorem Qs2 {t:Nat}:opd e (.tmp t) = e.get t:=Eq.trans rfl rfl
theorem Qmy {v:Value}:opd e (.const v) = some v:=Eq.trans rfl rfl
theorem Qpz {f:FuncId}:opd e (.func f) = some (.func (.func f) #[] #[]):=Eq.trans rfl rfl
theorem Qpy:Yo e [] = some []:=Eq.trans rfl rfl
theorem Qmx {x:Operand} {r:List Operand}:Yo e (x :: r) = (opd e x).bind fun v => (Yo e r).bind fun vs => some (v :: vs):=Eq.trans rfl rfl
theorem Qh6:Kz e none = some none:=Eq.trans rfl rfl
theorem Qh5 {x:Operand}:Kz e (some x) = (opd e x).bind fun v => some (some v):=Eq.trans rfl rfl
theorem Qgd:Kh e [] = some []:=Eq.trans rfl rfl
theorem Qej {o n:Nat} {x:Operand} {r:List (Nat × Nat × Operand)}:Kh e ((o,n,x) :: r) = (opd e x).bind fun v => (Kh e r).bind fun vs => some ((o,n,v) :: vs):=Eq.trans rfl rfl
theorem Qtv {t:Nat} {v:Value} {r:Env}:Env.get ((t,v) :: r) t = some v:=by simp [Env.get]
theorem Qqr {t u:Nat} {v:Value} {r:Env} (h:(t = u) = False):Env.get ((u,v) :: r) t = Env.get r t:=by simp [Env.get,h]
theorem Qr8 {a b:Value}:Qon (.bool true) a b = some a:=Eq.trans rfl rfl
theorem Qr9 {a b:Value}:Qon (.bool false) a b = some b:=Eq.trans rfl rfl
theorem Qsc {ks:List Bool} {a b:Array Value}:vEq (some ks) false (.agg a) (.agg b) = (Yk ks a.toList b.toList).bind fun c => some (.bool c):=Eq.trans rfl rfl
theorem Qhe {ks:List Bool} {a b:Array Value}:vEq (some ks) true (.agg a) (.agg b) = (Yk ks a.toList b.toList).bind fun c => some (.bool !c):=Eq.trans rfl rfl
theorem Qos {a b:Bool}:vEq none false (.bool a) (.bool b) = some (.bool (a == b)):=Eq.trans rfl rfl
theorem Qmc {a b:Bool}:vEq none true (.bool a) (.bool b) = some (.bool !(a == b)):=Eq.trans rfl rfl
theorem Qme {k j:IntKind} {n:Int}:Qvs k (.int j n) = some (.int k (k.wrap n)):=Eq.trans rfl rfl
theorem Qv7 {s:ByteArray}:vStr (.string s) = some (.string s):=Eq.trans rfl rfl
theorem Qjp {n:Option Nat} {off:Nat} {cs:Array Value}:Qoq n off (.agg cs) = Vv n cs.toList off:=Eq.trans rfl rfl
theorem R9 {n:Option Nat} {len es:Nat} {cs:Array Value} {k:IntKind} {i:Int}:Qfw n len es (.agg cs) (.int k i) = gate (0 ≤ i ∧ i < len) (Vv n cs.toList (i.toNat * es)):=Eq.trans rfl rfl
theorem Qhb {s:ByteArray} {k:IntKind} {i:Int}:Qe1 (.string s) (.int k i) = gate (0 ≤ i) ((s.data.toList[i.toNat]?).bind fun b => some (.int .u8 b.toNat)):=Eq.trans rfl rfl
theorem Qfx {off b o:Nat}:Qcr off (.pointer (some ⟨b,o,none⟩)) = some (.pointer (some ⟨b,o + off,none⟩)):=by rw [← Kq]; rfl
theorem Qfv {len es b o:Nat} {k:IntKind} {i:Int}:Qcq len es (.pointer (some ⟨b,o,none⟩)) (.int k i) = gate (0 ≤ i ∧ i < len) (some (.pointer (some ⟨b,o + i.toNat * es,none⟩))):=by rw [← Kq]; rfl
theorem Qjo {es b o len cap:Nat} {k:IntKind} {i:Int}:Qhc es (.slice (some ⟨b,o,none⟩) len cap) (.int k i) = gate (0 ≤ i ∧ i < len) (some (.pointer (some ⟨b,o + i.toNat * es,none⟩))):=by rw [← Kq]; rfl
theorem Qg8 {n es b o:Nat} {lo hi mx:Option Value}:Qav n es lo hi mx (.pointer (some ⟨b,o,none⟩)) = (Wi n n lo hi mx).bind fun r => some (.slice (some ⟨b,o + r.1 * es,none⟩) (r.2.1 - r.1) (r.2.2 - r.1)):=by
 simp only [Qav,Kq]
theorem Qmf {i o n c:Nat}:Qca H (.slice (some ⟨i,o,none⟩) n c) = (liveAt H i).bind fun ob => gate (ob.own = true) (some (.slice (some ⟨i,o,none⟩) n c)):=by
 simp only [Qca,gate,Zj,and_true]
theorem R8 {es b o len cap:Nat} {lo hi mx:Option Value}:vSliceSl H es lo hi mx (.slice (some ⟨b,o,none⟩) len cap) = (Wi len cap lo hi mx).bind fun r => (liveAt H b).bind fun ob => gate (ob.exact ∨ ¬ ob.own ∨ es ≤ ob.es) (some (.slice (some ⟨b,o + r.1 * es,none⟩) (r.2.1 - r.1) (r.2.2 - r.1))):=by
 simp only [vSliceSl,Kq,gate]
theorem Qjn {es:Nat} {lo hi mx:Option Value}:vSliceSl H es lo hi mx (.slice none 0 0) = (Wi 0 0 lo hi mx).bind fun _ => some (.slice none 0 0):=Eq.trans rfl rfl
theorem Qg7 {s:ByteArray} {lo hi:Option Value}:Qez lo hi (.string s) = (Wi s.size s.size lo hi none).bind fun r => some (.string (s.extract r.1 r.2.1)):=Eq.trans rfl rfl
theorem Gx {i:Nat} {vs:Array Value}:Qhd i (.tuple vs) = vs.toList[i]? := Eq.trans rfl rfl
theorem Qg9 {a:Addr}:Qe0 (.pointer (some a)) = some (.pointer (some a)):=Eq.trans rfl rfl
theorem Qr7 {n:Nat} {a:Addr} {len cap:Nat}:Qvq n (.slice (some a) len cap) = gate (n ≤ len ∧ 0 < n) (some (.pointer (some a))):=Eq.trans rfl rfl
theorem Qwc {a:Option Addr} {n c:Nat}:vLen false (.slice a n c) = some (.int .i64 n):=Eq.trans rfl rfl
theorem Qop {s:ByteArray}:vLen true (.string s) = some (.int .i64 s.size):=Eq.trans rfl rfl
theorem Qwa {k:IntKind} {a b:Int}:Tt false (.int k a) (.int k b) = some (.int k (if b < a then b else a)):=by simp [Tt]
theorem Qwb {k:IntKind} {a b:Int}:Tt true (.int k a) (.int k b) = some (.int k (if b > a then b else a)):=by simp [Tt]
theorem Qsb {n:Option Nat} {b o:Nat}:Qha H n (.pointer (some ⟨b,o,none⟩)) = (liveAt H b).bind fun ob => Vv n ob.cells o:=by simp [Qha]
theorem Qom {n b o:Nat} {v:Value}:Qjm H n (.pointer (some ⟨b,o,none⟩)) v = gate (v.cells.size = n ∧ Vu v = true) (storeAt H ⟨b,o,none⟩ v.cells.toList):=Eq.trans rfl rfl
theorem Qu2 {b o:Nat}:Qru (.pointer (some ⟨b,o,none⟩)) = [b]:=rfl
theorem Qwd {a:Option Addr} {n c:Nat}:Qwe H (.slice a n c) = (elemsOf H 1 n (.slice a n c)).bind fun cs => (Ul cs).bind fun l => some (.string ⟨l.toArray⟩):=Eq.trans rfl rfl
theorem Qsa {zero:List Value} {bytes id:Nat} {k j:IntKind} {l c:Int}:Qoo zero bytes id (.int k l) (.int j c) = gate (0 ≤ l ∧ l ≤ c ∧ c * bytes ≤ 2 ^ 47 ∧ 0 < bytes ∧ 0 < zero.length) (some (.slice (some ⟨id,0,none⟩) l.toNat c.toNat,⟨(Qb c.toNat zero).flatten,true,true,true,1⟩)):=Eq.trans rfl rfl
theorem Qv8 {id:Nat} {s:ByteArray}:Qv9 id (.string s) = gate (s.size ≤ 2 ^ 47) (some (.slice (some ⟨id,0,none⟩) s.size s.size,⟨s.data.toList.map fun b => .int .u8 b.toNat,true,true,false,1⟩)):=Eq.trans rfl rfl
theorem Qrj {f:FuncId} {a b:Array Value} {args:List Value}:callee (.func (.func f) a b) args = some (f,a.toList ++ args ++ b.toList):=Eq.trans rfl rfl
theorem Qnd {id:Nat}:liveAt H id = (H[id]?).bind fun o => gate (o.live = true) (some o):=Eq.trans rfl rfl
theorem Qjw {b o:Nat} {v:List Value}:storeAt H ⟨b,o,none⟩ v = (liveAt H b).bind fun ob => gate (ob.own = true ∧ o + v.length ≤ ob.cells.length) (some (H.set b ⟨splice ob.cells o v,ob.live,ob.own,ob.exact,ob.es⟩)):=by simp [storeAt,gate]
theorem Qj6 {cs:List Value} {off:Nat}:Vv none cs off = cs[off]? := Eq.trans rfl rfl
theorem Qj5 {n:Nat} {cs:List Value} {off:Nat}:Vv (some n) cs off = gate (off + n ≤ cs.length) (some (.agg ((cs.drop off).take n).toArray)):=Eq.trans rfl rfl
theorem Tj {y d:Nat}:Gc none y d = some d:=Eq.trans rfl rfl
theorem Qm4 {k:IntKind} {i:Int} {y d:Nat}:Gc (some (.int k i)) y d = gate (0 ≤ i ∧ i ≤ y) (some i.toNat):=Eq.trans rfl rfl
theorem Bq {len cap:Nat} {lo hi:Option Value}:Wi len cap lo hi none = (Gc hi cap len).bind fun h => (Gc lo h 0).bind fun l => some (l,h,cap):=by simp [Wi,Gc]
theorem Qu0 {k:IntKind} {a b:Int}:Yh .add (.int k a) (.int k b) = some (.int k (k.wrap (a + b))):=by simp [Yh,Vi]
theorem Qum {k:IntKind} {a b:Int}:Yh .sub (.int k a) (.int k b) = some (.int k (k.wrap (a - b))):=by simp [Yh,Vi]
theorem Qut {k:IntKind} {a b:Int}:Yh .mul (.int k a) (.int k b) = some (.int k (k.wrap (a * b))):=by simp [Yh,Vi]
theorem Qur {k:IntKind} {a b:Int} (h:(b = 0) = False):Yh .quo (.int k a) (.int k b) = some (.int k (k.wrap (a.tdiv b))):=by simp [Yh,Vi,h]
theorem Quq {k:IntKind} {a b:Int} (h:(b = 0) = False):Yh .rem (.int k a) (.int k b) = some (.int k (a.tmod b)):=by simp [Yh,Vi,h]
theorem Quz {k:IntKind} {a b:Int}:Yh .and (.int k a) (.int k b) = some (.int k (Vj .and k a b)):=by simp [Yh,Vi]
theorem Qyb {k:IntKind} {a b:Int}:Yh .or (.int k a) (.int k b) = some (.int k (Vj .or k a b)):=by simp [Yh,Vi]
theorem Qul {k:IntKind} {a b:Int}:Yh .xor (.int k a) (.int k b) = some (.int k (Vj .xor k a b)):=by simp [Yh,Vi]
theorem Qk7 {k:IntKind} {a b:Int}:Yh .andNot (.int k a) (.int k b) = some (.int k (Vj .andNot k a b)):=by simp [Yh,Vi]
theorem Quy {k:IntKind} {a b:Int}:Yh .eql (.int k a) (.int k b) = some (.bool (a == b)):=by simp [Yh,Vi]
theorem Qus {k:IntKind} {a b:Int}:Yh .neq (.int k a) (.int k b) = some (.bool (a != b)):=by simp [Yh,Vi]
theorem Quu {k:IntKind} {a b:Int}:Yh .lss (.int k a) (.int k b) = some (.bool (decide (a < b))):=by simp [Yh,Vi]
theorem Quv {k:IntKind} {a b:Int}:Yh .leq (.int k a) (.int k b) = some (.bool (decide (a ≤ b))):=by simp [Yh,Vi]
theorem Quw {k:IntKind} {a b:Int}:Yh .gtr (.int k a) (.int k b) = some (.bool (decide (b < a))):=by simp [Yh,Vi]
theorem Qux {k:IntKind} {a b:Int}:Yh .geq (.int k a) (.int k b) = some (.bool (decide (b ≤ a))):=by simp [Yh,Vi]
theorem Quo {k j:IntKind} {a b:Int} (h:(b < 0) = False):Yh .shl (.int k a) (.int j b) = some (.int k (k.wrap (a * 2 ^ (min b.toNat k.bits)))):=by simp [Yh,Ve,h]
theorem Qun {k j:IntKind} {a b:Int} (h:(b < 0) = False):Yh .shr (.int k a) (.int j b) = some (.int k (a.fdiv (2 ^ (min b.toNat k.bits)))):=by simp [Yh,Ve,h]
theorem Qrr {a b:ByteArray}:Yh .add (.string a) (.string b) = gate (a.size + b.size ≤ 2 ^ 47) (some (.string (a ++ b))):=Eq.trans rfl rfl
theorem Qrq {a b:ByteArray}:Yh .eql (.string a) (.string b) = some (.bool (a.toList == b.toList)):=Eq.trans rfl rfl
theorem Qrp {a b:ByteArray}:Yh .neq (.string a) (.string b) = some (.bool !(a.toList == b.toList)):=Eq.trans rfl rfl
theorem Qwg {b:Bool}:unV .not (.bool b) = some (.bool !b):=Eq.trans rfl rfl
theorem Qwh {k:IntKind} {n:Int}:unV .neg (.int k n) = some (.int k (k.wrap (0 - n))):=Eq.trans rfl rfl
theorem Qwf {k:IntKind} {n:Int}:unV .xor (.int k n) = some (.int k (Vj .xor k (if k.signed then -1 else k.max) n)):=Eq.trans rfl rfl
theorem Qlb {l:List Nat} {k:List Nat}:St.after ⟨e,H,l⟩ (some k) = ⟨e.keep k,H,l⟩:=rfl
theorem Qpm {d:Nat} {v:Value}:Env.put e (some d) v = (d,v) :: e:=rfl
theorem Qpn {v:Value}:Env.put e none v = e:=rfl
theorem Qsm:Kg e H [] = some []:=Eq.trans rfl rfl
theorem Qsl {t:Nat} {r:List (Nat × Option (Option Nat))}:Kg e H ((t,none) :: r) = (e.get t).bind fun v => (Kg e H r).bind fun vs => some (v :: vs):=Eq.trans rfl rfl
theorem Qsk {t:Nat} {n:Option Nat} {r:List (Nat × Option (Option Nat))}:Kg e H ((t,some n) :: r) = (e.get t).bind fun p => (Qha H n p).bind fun v => (Kg e H r).bind fun vs => some (v :: vs):=Eq.trans rfl rfl
theorem Qkb {v:Value}:packed [v] = v:=rfl
theorem Qj9 {v w:Value} {r:List Value}:packed (v :: w :: r) = .tuple (v :: w :: r).toArray:=rfl
theorem Qnb {b:Nat} {l:List Nat}:Xk b l [] = l:=rfl
theorem Qqg {b i:Nat} {l r:List Nat} (h:b ≤ i):Xk b l (i :: r) = Xk b l r:=by
 have h1:¬ i < b:=by omega
 simp only [Xk,h1,false_and,if_false]
theorem Qtd {k:IntKind} {n:Int}:Vu (.int k n) = true:=rfl
theorem Qp9 {b:Bool}:Vu (.bool b) = true:=rfl
theorem Qtb {s:ByteArray}:Vu (.string s) = true:=rfl
theorem Qte {a:Array Value}:Vu (.agg a) = true:=rfl
theorem Qtc {a:Option Addr}:Vu (.pointer a) = true:=rfl
theorem Qm2 {a:Option Addr} {n c:Nat}:Vu (.slice a n c) = true:=rfl
theorem Qp8 {f:Fn} {a b:Array Value}:Vu (.func f a b) = true:=rfl
theorem Qid:Vu .nilFunc = true:=rfl
theorem Qm3 {t:TypeId} {v:Value}:Vu (.iface t v) = true:=rfl
theorem Qgh:Vu .nilIface = true:=rfl
theorem Qk3 (b:Bool):(Value.bool b).cells.toList = [.bool b]:=rfl
theorem Qb4 (b:Bool):(Value.bool b).cells.size = 1:=rfl
theorem Qn4 (a:Option Addr):(Value.pointer a).cells.toList = [.pointer a]:=rfl
theorem Qdt (a:Option Addr):(Value.pointer a).cells.size = 1:=rfl
theorem Qi6 (a:Option Addr) (n c:Nat):(Value.slice a n c).cells.toList = [.slice a n c]:=rfl
theorem Qbi (a:Option Addr) (n c:Nat):(Value.slice a n c).cells.size = 1:=rfl
theorem Qn3 (s:ByteArray):(Value.string s).cells.toList = [.string s]:=rfl
theorem Qds (s:ByteArray):(Value.string s).cells.size = 1:=rfl
theorem Qf4 {a b:Value} (h1:D5 a = true) (h2:D5 b = true):rf (.tuple #[a,b]) = true:=by simp [rf,h1,h2]
theorem Qhv {k:IntKind} {n:Int}:D5 (.int k n) = true:=rfl
theorem Qmp {b:Bool}:D5 (.bool b) = true:=rfl
theorem Qhu (l:List Nat):D5 (.agg (u8s l).toArray) = true:=Qph l
theorem Qw5 {s:ByteArray}:rf (.string s) = true:=rfl
theorem Qpi {s:ByteArray}:D5 (.string s) = true:=rfl
end
set_option linter.defProp false
def cF:=Qk (Qk (Qk (Qk (Qk (Qk (Qk (@Xp) (Qk (@Xx) (@Kb))) (Qk (@Qnn) (Qk (@Qno) (@Qnq)))) (Qk (Qk (@Qnp) (Qk (@Qnr) (@Kc))) (Qk (@Qqj) (Qk (@Qng) (@Qt3))))) (Qk (Qk (Qk (@Qnj) (Qk (@Qxw) (@Qqw))) (Qk (@Qtz) (Qk (@Qty) (@Qq1)))) (Qk (Qk (@Qxz) (Qk (@Qt0) (@Qqt))) (Qk (@Qx0) (Qk (@Qxy) (@Qqu)))))) (Qk (Qk (Qk (Qk (@fs_un) (Qk (@Qt2) (@Qkz))) (Qk (@Qnm) (Qk (@Qqx) (@Qqv)))) (Qk (Qk (@Qiv) (Qk (@Qq0) (@Qeq))) (Qk (@Qgr) (Qk (@Qgq) (@Qkx))))) (Qk (Qk (Qk (@Qit) (Qk (@Qkv) (@Qis))) (Qk (@Qgp) (Qk (@Qky) (@Qkw)))) (Qk (Qk (@Qnk) (Qk (@Qiu) (@Qtx))) (Qk (@Qxx) (Qk (@Qnl) (@Qxv))))))) (Qk (Qk (Qk (Qk (Qk (@Qx1) (Qk (@Qns) (@Qt1))) (Qk (@Qqz) (Qk (@Qqy) (@Qs2)))) (Qk (Qk (@Qmy) (Qk (@Qpz) (@Qpy))) (Qk (@Qmx) (Qk (@Qh6) (@Qh5))))) (Qk (Qk (Qk (@Qgd) (Qk (@Qej) (@Qqr))) (Qk (@Qr8) (Qk (@Qr9) (@Qsc)))) (Qk (Qk (@Qhe) (Qk (@Qos) (@Qmc))) (Qk (@Qme) (Qk (@Qv7) (@Qmf)))))) (Qk (Qk (Qk (Qk (@Qjp) (Qk (@R9) (@Qhb))) (Qk (@Qfx) (Qk (@Qfv) (@Qjo)))) (Qk (Qk (@Qg8) (Qk (@R8) (@Qjn))) (Qk (@Qg7) (Qk (@Gx) (@Qg9))))) (Qk (Qk (Qk (@Qr7) (Qk (@Qwc) (@Qop))) (Qk (@Qwa) (Qk (@Qwb) (@Qsb)))) (Qk (Qk (@Qom) (Qk (@Qu2) (@Qwd))) (Qk (@Qsa) (Qk (@Qv8) (@Qrj)))))))) (Qk (Qk (Qk (Qk (Qk (Qk (@Qnd) (Qk (@Qjw) (@Qj6))) (Qk (@Qj5) (Qk (@Tj) (@Qm4)))) (Qk (Qk (@Bq) (Qk (@Qu0) (@Qum))) (Qk (@Qut) (Qk (@Qur) (@Quq))))) (Qk (Qk (Qk (@Quz) (Qk (@Qyb) (@Qul))) (Qk (@Qk7) (Qk (@Quy) (@Qus)))) (Qk (Qk (@Quu) (Qk (@Quv) (@Quw))) (Qk (@Qux) (Qk (@Quo) (@Qun)))))) (Qk (Qk (Qk (Qk (@Qrr) (Qk (@Qrq) (@Qrp))) (Qk (@Qwg) (Qk (@Qwh) (@Qwf)))) (Qk (Qk (@Qlb) (Qk (@Qpm) (@Qpn))) (Qk (@Qsm) (Qk (@Qsl) (@Qsk))))) (Qk (Qk (Qk (@Qkb) (Qk (@Qj9) (@Qnb))) (Qk (@Qqg) (Qk (@Qf4) (@Qhv)))) (Qk (Qk (@Qmp) (Qk (@Qhu) (@Qw5))) (Qk (@Qpi) (Qk (@Qtw) (@gd_ut))))))) (Qk (Qk (Qk (Qk (Qk (@gd_uf) (Qk (@Q2.{0}) (@Q3.{0}))) (Qk (@Xm.{0}) (Qk (@Jm.{0}) (@List.isEmpty_nil.{0})))) (Qk (Qk (@Zd) (Qk (@beq_self_eq_true.{0}) (@bne_self_eq_false.{0}))) (Qk (@J6) (Qk (@Jb) (@Zo))))) (Qk (Qk (Qk (@Jz) (Qk (@false_and) (@Yd))) (Qk (@Qln) (Qk (@Jv) (@Qph)))) (Qk (Qk (@Qrv) (Qk (@Vp) (@J1))) (Qk (@Z9) (Qk (@Xj) (@Qb5)))))) (Qk (Qk (Qk (Qk (@Nat.le_add_right) (Qk (@Kl) (@Jc))) (Qk (@Kp) (Qk (@Jl) (@Qtd)))) (Qk (Qk (@Qp9) (Qk (@Qtb) (@Qte))) (Qk (@Qtc) (Qk (@Qm2) (@Qp8))))) (Qk (Qk (Qk (@Qid) (Qk (@Qm3) (@Qgh))) (Qk (@Qk3) (Qk (@Qb4) (@Qn4)))) (Qk (Qk (@Qdt) (Qk (@Qi6) (@Qbi))) (Qk (@Qn3) (Qk (@Qds) (@eq_self.{1}))))))))
def pF:=Qk (Qk (@Qfn) (@Qtv)) (Qk (@Qf.{0,0}) (Qk (@if_true.{1}) (@if_false.{1})))
def cL:=Qk (Qk (Qk (Qk (Qk (@Ya) (@V9)) (Qk (@Qlf) (Qk (@Gj) (@Zp.{0})))) (Qk (Qk (@Zg.{0}) (@Za.{0})) (Qk (@Q9.{0}) (Qk (@Qeu.{0}) (@Mm.{0}))))) (Qk (Qk (Qk (@Zh) (@Z1)) (Qk (@Xb) (Qk (@J7) (@Zu)))) (Qk (Qk (@Int.toNat_zero) (@Int.lt_irrefl)) (Qk (@Xn) (Qk (@Q8) (@and_self)))))) (Qk (Qk (Qk (Qk (@true_and) (@and_true)) (Qk (@decide_true) (Qk (@decide_false) (@Nat.min_self)))) (Qk (Qk (@ge_iff_le.{0}) (@gt_iff_lt.{0})) (Qk (@Zj.{0}) (Qk (@Zm.{0}) (@Option.isNone_some.{0}))))) (Qk (Qk (Qk (@Mk.{0}) (@J8)) (Qk (@J0) (Qk (@Bool.and_false) (@Qb9)))) (Qk (Qk (@not_true_eq_false) (Qk (@not_false_eq_true) (@or_true))) (Qk (@true_or) (Qk (@false_or) (@or_false))))))
def cJ:=Qk (Qk (Qk (@hget0) (@hgetK)) (Qk (@Qqp) (Qk (@hsetK) (@Jo)))) (Qk (Qk (@Qf1) (@Qju)) (Qk (@List.getElem?_nil.{0}) (Qk (@Zn.{0}) (@X1.{0}))))
end Go.Ev
set_option linter.unusedSimpArgs false
set_option linter.unusedVariables false
namespace Go.Ev
open Go.RowKit Go.WideShapes Go.ChangeShapes
theorem Qke {P:Program} {w:World} {r:Reach} {base:Nat} {t e:TypeId} {v:Value} {n:Nat} {e':TypeId} (ht:P.underlying t = some (.array n e')) (hc:P.cellsOf t = n) (hts:P.cellTypes P.depth t = some (Qb n e)) (he:P.underlying e = some (.int .u8)) (hn:0 < n)
  (h:Value.okWide P w r base t v):∃ l:List Nat,v = .agg (u8s l).toArray ∧ l.length = n ∧ ∀ x ∈ l,x < 256:=by
 simp only [Value.okWide,ht] at h
 obtain ⟨cs,rfl,h1,ts,h2,-,h3⟩:=h
 rw [hc] at h1
 rw [hts] at h2
 cases h2
 have hcell:∀ (i:Nat) (v:Value),cs[i]? = some v → ∃ x:Nat,v = Value.int .u8 (x:Nat) ∧ x < 256:=by
  intro i v hv
  obtain ⟨u,g1,g2⟩:=h3 i v hv
  have hu:u = e:=by
   have:=Zt g1
   exact List.eq_of_mem_replicate this
  subst hu
  simp only [Cell.okWide,Cell.ok,he] at g2
  cases v <;> try (exact g2.elim)
  ·rename_i k x
   obtain ⟨rfl,g3,g4⟩:=g2
   have g3':(0:Int) ≤ x:=g3
   have g4':x ≤ 255:=g4
   exact ⟨x.toNat,by rw [Int.toNat_of_nonneg g3'],by omega⟩
 refine ⟨cs.toList.map fun v => match v with | .int _ n => n.toNat | _ => 0,?_,by simp [h1],?_⟩
 ·congr 1
  apply Bh
  intro i
  simp only [u8s,Qvn,Hl,Wj,Vz]
  cases hv:cs[i]? with
  | none => rfl
  | some v =>
   obtain ⟨x,rfl,hx⟩:=hcell i v hv
   simp
 ·intro x hx
  simp only [Wu] at hx
  obtain ⟨v,hv,rfl⟩:=hx
  obtain ⟨i,hi⟩:=List.mem_iff_getElem?.1 hv
  rw [Vz] at hi
  obtain ⟨x,rfl,hx⟩:=hcell i v hi
  simpa using hx
end Go.Ev
set_option linter.unusedSimpArgs false
set_option linter.unusedVariables false
namespace Go.Ev
open Go.RowKit Go.WideShapes Go.ChangeShapes
section
variable {P:Program} {T:Tab}
theorem Qn6 (hm:P.follows .mixedOrders = true) (hT:TabOk P T) {f:Nat} {args args':List Value} {v:Value} {H H':List Ob} {M:List Nat} (h:Vl T f args H = some (v,H',M)) (hn:T.fn f ≠ none) (hv:rf v = true) {ρ:Pl} {w:World} (hl:LRel ρ args args')
  (hrel:RelF ρ (hp H) w) (hfree:∀ id,H.length ≤ id → ρ id = none) (hown:∀ (i:Nat) (o:Ob),H[i]? = some o → o.own = false) :
  Calls P f args'.toArray w fun e w' => e = .returned v ∧ Below w.heap.size w w':=by
 have h1:=(sound hm hT f args H _ h).1
 have h2:=h1 ρ args' w hl hrel (fun id h _ => hfree id h) { (default:Oper) with dst:=some 0 } { tmps := #[undef],defers:=[] }
  (fun a w' => ∃ v',a.tmps = #[v'] ∧ v' = v ∧ Below w.heap.size w w') (fun _ _ _ => False) fun v' w' ρ' hp => ⟨v',by simp [Act.put],hp.val.of_rf hv,⟨hp.frm.os,hp.frm.tape,hp.frm.output,hp.frm.size,fun k hk => hp.frm.blocks k hk fun id ob pl hc _ _ ho => by rw [hown id ob hc] at ho; cases ho⟩⟩
 obtain ⟨af,haf⟩:=Option.ne_none_iff_exists'.1 hn
 obtain ⟨pf,g1,g2,g3⟩:=hT.fn f af haf
 obtain ⟨code,g4,g5,g6⟩:=M7 g2
 have hcf:(callFunc f args'.toArray).run P w = .ok (.enter f args'.toArray) w:=by
  have g3' : ¬ (pf.name = "runtime.NumGoroutine") := by simpa using g3
  simp [callFunc,g1,g3',g4]
 rw [hcf,Oper.upon_enter] at h2
 refine h2.mono fun e w' he => ?_
 cases e with
 | returned v1 =>
  obtain ⟨v',k1,k2,k3⟩:=he
  have:v1 = v':=by simpa [Act.put] using k1
  exact ⟨by rw [this,k2],k3⟩
 | panicked c => exact he.elim
 | outgrown => obtain ⟨_,_,hx⟩:=he; exact hx.elim
structure Lies8 (w:World) (a:Addr) (len cap:Nat) (l:List Nat):Prop where
 spot:a.spot = none
 at_:∃ cs e fr,w.heap[a.block]? = some (.cells cs e fr) ∧ (cap = 0 ∨ a.off + cap ≤ cs.size) ∧ ∀ (i x:Nat),l[i]? = some x → cs[a.off + i]? = some (.int .u8 (x:Nat))
 le:len ≤ cap
 max:cap ≤ maxLen
 len:l.length = len
 lt:∀ x ∈ l,x < 256
theorem Qol (ρ:Pl) (l:List Nat):VRel ρ (.agg (u8s l).toArray) (.agg (u8s l).toArray) :=
 .agg (LRel.same (by rw [Vq]; intro x hx; simp only [u8s,Wu] at hx; obtain ⟨n,-,rfl⟩:=hx; rfl)) (fun x hx => by simp only [u8s,Wu] at hx; obtain ⟨n,-,rfl⟩:=hx; rfl)
def ob8 (l:List Nat):Ob:=⟨u8s l,true,false,false,1⟩
theorem Qqi {w:World} {a:Addr} {len cap:Nat} {l:List Nat} (h:Lies8 w a len cap l):∃ pl:Place,pl.block = a.block ∧ pl.block < w.heap.size ∧ (∀ ρ,ObjRel ρ w pl (ob8 l)) ∧
  ∀ (ρ:Pl) (id:Nat),ρ id = some pl → VRel ρ (.slice (some ⟨id,0,none⟩) len len) (.slice (some a) len cap):=by
 obtain ⟨cs,e,fr,h1,h2,h3⟩:=h.at_
 have hlt:a.block < w.heap.size:=(Up.1 h1).1
 have hle:=h.le
 have hln:=h.len
 rcases Yb cap with h0 | h0
 ·subst h0
  have hl0:l = []:=Vk (by omega)
  have hlen0:len = 0:=by omega
  subst hl0 hlen0
  refine ⟨⟨a.block,0,cs.size,1,.foreign⟩,rfl,hlt,fun ρ => ⟨rfl,rfl,cs,e,fr,h1,rfl,by simp [ob8,u8s],fun i v hv => by simp [ob8,u8s] at hv,fun ho => by simp [ob8] at ho⟩,fun ρ id hρ => ?_⟩
  exact .slice hρ rfl (.inl h.spot) (.inl rfl) (.inr rfl) (Q8 _) (Q8 _) trivial
 ·have h4:a.off + cap ≤ cs.size:=by
   rcases h2 with h2 | h2
   ·omega
   ·exact h2
  refine ⟨⟨a.block,a.off,cs.size,1,.foreign⟩,rfl,hlt,fun ρ => ⟨rfl,rfl,cs,e,fr,h1,rfl,by simp only [ob8,Ky]; omega,fun i v hv => ?_,fun ho => by simp [ob8] at ho⟩,fun ρ id hρ => ?_⟩
  ·simp only [ob8,u8s,Wj,Zs] at hv
   obtain ⟨x,hx,rfl⟩:=hv
   exact ⟨rfl,_,h3 i x hx,.same rfl⟩
  ·exact .slice hρ rfl (.inl h.spot) (.inl rfl) (.inl rfl) (Q8 _) h.le trivial
end
end Go.Ev
set_option linter.unusedSimpArgs false
set_option linter.unusedVariables false
set_option maxRecDepth 100000
namespace Go.Ev.Ytgacigcbglflkaa
open Go Go.Ev
abbrev kt (n:Nat):Operand := .tmp n
abbrev ki (n:Int):Operand := .const (.int .i64 n)
abbrev ko (n:Nat) (o:AOp):AOper:=AOper.mk (some n) o none
abbrev kq (o:AOp):AOper:=AOper.mk none o none
abbrev kr (l:List AOper) (k:List Nat):ACode := .region l (some k) []
def a16:AFun:=⟨(.seq (kr [ko 1 (.box (kt 0)),ko 2 (.alloc (Qb 32 (.int .u8 0)))] [1,2]) (.seq (kr [ko 3 (.indexAddr 32 1 (kt 1) (ki 0)),ko 4 (.load none (kt 3)),ko 5 (.bin .and (kt 4) (.const (.int .u8 248))),ko 6 (.indexAddr 32 1 (kt 1) (ki 0)),kq (.store 1 (kt 6) (kt 5))] [1,2]) (.seq (kr [ko 7 (.indexAddr 32 1 (kt 1) (ki 31)),ko 8 (.load none (kt 7)),ko 9 (.bin .and (kt 8) (.const (.int .u8 127))),ko 10 (.bin .or (kt 9) (.const (.int .u8 64))),ko 11 (.indexAddr 32 1 (kt 1) (ki 31)),kq (.store 1 (kt 11) (kt 10))] [1,2]) (.seq (kr [ko 12 (.load (some 32) (kt 1)),kq (.store 32 (kt 2) (kt 12))] [2]) .ret)))),[(2,(some (some 32)))]⟩
def Qee:ACode:=(.seq (kr [ko 9 (.bin .lss (kt 8) (kt 7))] [2,3,6,7,8,9]) (.seq (.cond (kt 9) .skip (.exit 0)) (.seq (.block 1 (.seq (kr [ko 10 (.indexSl 1 (kt 6) (kt 8)),ko 11 (.load none (kt 10)),ko 5 (.move (kt 11))] [2,3,5,6,7,8]) (kr [ko 12 (.move (kt 3)),ko 13 (.move (kt 5)),ko 14 (.append 1 1 (kt 12) (kt 13)),ko 3 (.move (kt 14))] [2,3,6,7,8]))) (kr [ko 15 (.bin .add (kt 8) (ki 1)),ko 8 (.move (kt 15))] [2,3,6,7,8]))))
def a17:AFun:=⟨(.seq (kr [ko 2 (.alloc (Qb 32 (.int .u8 0)))] [0,2]) (.seq (kr [ko 3 (.move (.const (.slice none 0 0)))] [0,2,3]) (.seq (.seq (kr [ko 6 (.move (kt 0)),ko 7 (.len false (kt 6)),ko 8 (.move (ki 0))] [2,3,6,7,8]) (.block 0 (.loop Qee))) (.seq (kr [ko 16 (.move (kt 3)),ko 17 (.call 38 [(kt 16)] false),ko 18 (.call 41 [(kt 17)] false),ko 19 (.call 42 [(kt 18)] false),kq (.store 32 (kt 2) (kt 19))] [2]) .ret)))),[(2,(some (some 32)))]⟩
def a19:AFun:=⟨(.seq (kr [ko 3 (.box (kt 0)),ko 4 (.box (kt 1)),ko 5 (.box (kt 2)),ko 6 (.alloc (Qb 32 (.int .u8 0)))] [3,4,5,6]) (.seq (kr [ko 7 (.sliceArr 32 1 (kt 3) none none none),ko 8 (.call 38 [(kt 7)] false),ko 9 (.sliceArr 32 1 (kt 4) none none none),ko 10 (.call 38 [(kt 9)] false),ko 11 (.call 39 [(kt 8),(kt 10)] false),ko 12 (.sliceArr 32 1 (kt 5) none none none),ko 13 (.call 38 [(kt 12)] false),ko 14 (.call 40 [(kt 11),(kt 13)] false),ko 15 (.call 41 [(kt 14)] false),ko 16 (.call 42 [(kt 15)] false),kq (.store 32 (kt 6) (kt 16))] [6]) .ret)),[(6,(some (some 32)))]⟩
def a21:AFun:=⟨(.seq (kr [ko 1 (.box (kt 0)),ko 2 (.move (.const (.bool false)))] [1]) (.seq (kr [ko 3 (.sliceArr 32 1 (kt 1) none none none),ko 4 (.call 38 [(kt 3)] false),ko 5 (.call 51 [] false),ko 6 (.call 50 [(kt 4),(kt 5)] false),ko 2 (.move (kt 6))] [2]) .ret)),[(2,none)]⟩
def Qed:ACode:=(.seq (.seq (kr [ko 6 (.move (kt 4)),ko 7 (.bin .lss (kt 6) (ki 32))] [1,3,4,7]) (.cond (kt 7) .skip (.exit 0))) (.seq (.block 1 (kr [ko 10 (.move (kt 3)),ko 11 (.move (kt 4)),ko 12 (.move (kt 4)),ko 13 (.indexAddr 32 1 (kt 1) (kt 12)),ko 14 (.load none (kt 13)),ko 15 (.conv .i64 (kt 14)),ko 16 (.indexSl 1 (kt 10) (kt 11)),kq (.store 1 (kt 16) (kt 15))] [1,3,4])) (kr [ko 8 (.move (kt 4)),ko 9 (.bin .add (kt 8) (ki 1)),ko 4 (.move (kt 9))] [1,3,4])))
def a22:AFun:=⟨(.seq (kr [ko 1 (.box (kt 0)),ko 2 (.move (.const (.bool false)))] [1]) (.seq (kr [ko 5 (.makeSlice [(.int .i64 0)] 8 (ki 32) (ki 32)),ko 3 (.move (kt 5))] [1,3]) (.seq (.seq (kr [ko 4 (.move (ki 0))] [1,3,4]) (.block 0 (.loop Qed))) (.seq (kr [ko 17 (.move (kt 3)),ko 18 (.call 11 [] false),ko 19 (.call 24 [(kt 17),(kt 18)] false),ko 2 (.move (kt 19))] [2]) .ret)))),[(2,none)]⟩
def Qg1:ACode:=(.seq (.seq (kr [ko 3 (.move (kt 1)),ko 4 (.len false (kt 3)),ko 5 (.bin .lss (kt 4) (ki 31))] [1,5]) (.cond (kt 5) .skip (.exit 0))) (.block 1 (kr [ko 6 (.move (kt 1)),ko 7 (.buildSlice [(.int .i64 0)] 1 [(0,(1,(ki 0)))]),ko 8 (.append 1 8 (kt 6) (kt 7)),ko 1 (.move (kt 8))] [1])))
def a23:AFun:=⟨(.seq (kr [ko 0 (.move (.const (.slice none 0 0)))] []) (.seq (kr [ko 2 (.buildSlice (Qb 16 (.int .i64 0)) 16 [(0,(1,(ki 237))),(1,(1,(ki 211))),(2,(1,(ki 245))),(3,(1,(ki 92))),(4,(1,(ki 26))),(5,(1,(ki 99))),(6,(1,(ki 18))),(7,(1,(ki 88))),(8,(1,(ki 214))),(9,(1,(ki 156))),(10,(1,(ki 247))),(11,(1,(ki 162))),(12,(1,(ki 222))),(13,(1,(ki 249))),(14,(1,(ki 222))),(15,(1,(ki 20)))]),ko 1 (.move (kt 2))] [1]) (.seq (.block 0 (.loop Qg1)) (.seq (kr [ko 9 (.move (kt 1)),ko 10 (.buildSlice [(.int .i64 0)] 1 [(0,(1,(ki 16)))]),ko 11 (.append 1 8 (kt 9) (kt 10)),ko 0 (.move (kt 11))] [0]) .ret)))),[(0,none)]⟩
def a25:AFun:=⟨(.seq (kr [ko 0 (.alloc (Qb 20 (.int .u64 0)))] [0]) (.seq (kr [ko 3 (.build (Qb 32 (.int .u8 0)) [(0,(1,(.const (.int .u8 26)))),(1,(1,(.const (.int .u8 213)))),(2,(1,(.const (.int .u8 37)))),(3,(1,(.const (.int .u8 143)))),(4,(1,(.const (.int .u8 96)))),(5,(1,(.const (.int .u8 45)))),(6,(1,(.const (.int .u8 86)))),(7,(1,(.const (.int .u8 201)))),(8,(1,(.const (.int .u8 178)))),(9,(1,(.const (.int .u8 167)))),(10,(1,(.const (.int .u8 37)))),(11,(1,(.const (.int .u8 149)))),(12,(1,(.const (.int .u8 96)))),(13,(1,(.const (.int .u8 199)))),(14,(1,(.const (.int .u8 44)))),(15,(1,(.const (.int .u8 105)))),(16,(1,(.const (.int .u8 92)))),(17,(1,(.const (.int .u8 220)))),(18,(1,(.const (.int .u8 214)))),(19,(1,(.const (.int .u8 253)))),(20,(1,(.const (.int .u8 49)))),(21,(1,(.const (.int .u8 226)))),(22,(1,(.const (.int .u8 164)))),(23,(1,(.const (.int .u8 192)))),(24,(1,(.const (.int .u8 254)))),(25,(1,(.const (.int .u8 83)))),(26,(1,(.const (.int .u8 110)))),(27,(1,(.const (.int .u8 205)))),(28,(1,(.const (.int .u8 211)))),(29,(1,(.const (.int .u8 54)))),(30,(1,(.const (.int .u8 105)))),(31,(1,(.const (.int .u8 33))))]),ko 4 (.call 27 [(kt 3)] true),ko 1 (.alloc (Qb 5 (.int .u64 0))),kq (.store 5 (kt 1) (kt 4))] [0,1]) (.seq (kr [ko 5 (.build (Qb 32 (.int .u8 0)) [(0,(1,(.const (.int .u8 88)))),(1,(1,(.const (.int .u8 102)))),(2,(1,(.const (.int .u8 102)))),(3,(1,(.const (.int .u8 102)))),(4,(1,(.const (.int .u8 102)))),(5,(1,(.const (.int .u8 102)))),(6,(1,(.const (.int .u8 102)))),(7,(1,(.const (.int .u8 102)))),(8,(1,(.const (.int .u8 102)))),(9,(1,(.const (.int .u8 102)))),(10,(1,(.const (.int .u8 102)))),(11,(1,(.const (.int .u8 102)))),(12,(1,(.const (.int .u8 102)))),(13,(1,(.const (.int .u8 102)))),(14,(1,(.const (.int .u8 102)))),(15,(1,(.const (.int .u8 102)))),(16,(1,(.const (.int .u8 102)))),(17,(1,(.const (.int .u8 102)))),(18,(1,(.const (.int .u8 102)))),(19,(1,(.const (.int .u8 102)))),(20,(1,(.const (.int .u8 102)))),(21,(1,(.const (.int .u8 102)))),(22,(1,(.const (.int .u8 102)))),(23,(1,(.const (.int .u8 102)))),(24,(1,(.const (.int .u8 102)))),(25,(1,(.const (.int .u8 102)))),(26,(1,(.const (.int .u8 102)))),(27,(1,(.const (.int .u8 102)))),(28,(1,(.const (.int .u8 102)))),(29,(1,(.const (.int .u8 102)))),(30,(1,(.const (.int .u8 102)))),(31,(1,(.const (.int .u8 102))))]),ko 6 (.call 27 [(kt 5)] true),ko 2 (.alloc (Qb 5 (.int .u64 0))),kq (.store 5 (kt 2) (kt 6))] [0,1,2]) (.seq (kr [ko 7 (.load (some 5) (kt 1)),ko 8 (.load (some 5) (kt 2)),ko 9 (.call 28 [(.const (.int .u32 1))] true),ko 10 (.load (some 5) (kt 1)),ko 11 (.load (some 5) (kt 2)),ko 12 (.call 29 [(kt 10),(kt 11)] true),ko 13 (.build (Qb 20 (.int .u64 0)) [(0,(5,(kt 7))),(5,(5,(kt 8))),(10,(5,(kt 9))),(15,(5,(kt 12)))]),kq (.store 20 (kt 0) (kt 13))] [0]) .ret)))),[(0,(some (some 20)))]⟩
def Qbl:ACode:=(.seq (.seq (kr [ko 10 (.move (kt 7)),ko 11 (.bin .geq (kt 10) (ki 0))] [2,3,4,5,6,7,11]) (.cond (kt 11) .skip (.exit 0))) (.seq (.block 1 (.seq (kr [ko 14 (.load (some 20) (kt 5)),ko 15 (.call 32 [(kt 14)] true),kq (.store 20 (kt 5) (kt 15))] [2,3,4,5,6,7]) (.seq (kr [ko 16 (.move (kt 7)),ko 17 (.bin .quo (kt 16) (ki 8)),ko 18 (.indexAddr 32 1 (kt 3) (kt 17)),ko 19 (.load none (kt 18)),ko 20 (.move (kt 7)),ko 21 (.bin .rem (kt 20) (ki 8)),ko 22 (.bin .shr (kt 19) (kt 21)),ko 23 (.bin .and (kt 22) (.const (.int .u8 1))),ko 24 (.bin .eql (kt 23) (.const (.int .u8 1)))] [2,3,4,5,6,7,24]) (.cond (kt 24) (kr [ko 25 (.load (some 20) (kt 5)),ko 26 (.load (some 20) (kt 2)),ko 27 (.load (some 5) (kt 6)),ko 28 (.call 33 [(kt 25),(kt 26),(kt 27)] true),kq (.store 20 (kt 5) (kt 28))] [2,3,4,5,6,7]) .skip)))) (kr [ko 12 (.move (kt 7)),ko 13 (.bin .sub (kt 12) (ki 1)),ko 7 (.move (kt 13))] [2,3,4,5,6,7])))
def a26:AFun:=⟨(.seq (kr [ko 2 (.box (kt 0)),ko 3 (.box (kt 1)),ko 4 (.alloc (Qb 20 (.int .u64 0)))] [2,3,4]) (.seq (kr [ko 8 (.call 30 [] true),ko 9 (.call 31 [] true),ko 5 (.alloc (Qb 20 (.int .u64 0))),ko 6 (.alloc (Qb 5 (.int .u64 0))),kq (.store 20 (kt 5) (kt 8)),kq (.store 5 (kt 6) (kt 9))] [2,3,4,5,6]) (.seq (.seq (kr [ko 7 (.move (ki 255))] [2,3,4,5,6,7]) (.block 0 (.loop Qbl))) (.seq (kr [ko 29 (.load (some 20) (kt 5)),kq (.store 20 (kt 4) (kt 29))] [4]) .ret)))),[(4,(some (some 20)))]⟩
def Qec:ACode:=(.seq (kr [ko 12 (.bin .lss (kt 11) (kt 10))] [2,3,4,9,10,11,12]) (.seq (.cond (kt 12) .skip (.exit 0)) (.seq (.block 1 (.seq (kr [ko 13 (.indexSl 20 (kt 9) (kt 11)),ko 14 (.load (some 20) (kt 13)),ko 6 (.alloc (Qb 20 (.int .u64 0))),kq (.store 20 (kt 6) (kt 14))] [2,3,4,6,9,10,11]) (kr [ko 15 (.load (some 20) (kt 3)),ko 16 (.load (some 20) (kt 6)),ko 17 (.load (some 5) (kt 4)),ko 18 (.call 33 [(kt 15),(kt 16),(kt 17)] true),kq (.store 20 (kt 3) (kt 18))] [2,3,4,9,10,11]))) (kr [ko 19 (.bin .add (kt 11) (ki 1)),ko 11 (.move (kt 19))] [2,3,4,9,10,11]))))
def a27:AFun:=⟨(.seq (kr [ko 2 (.alloc (Qb 20 (.int .u64 0)))] [0,2]) (.seq (kr [ko 7 (.call 30 [] true),ko 8 (.call 31 [] true),ko 3 (.alloc (Qb 20 (.int .u64 0))),ko 4 (.alloc (Qb 5 (.int .u64 0))),kq (.store 20 (kt 3) (kt 7)),kq (.store 5 (kt 4) (kt 8))] [0,2,3,4]) (.seq (.seq (kr [ko 9 (.move (kt 0)),ko 10 (.len false (kt 9)),ko 11 (.move (ki 0))] [2,3,4,9,10,11]) (.block 0 (.loop Qec))) (.seq (kr [ko 20 (.load (some 20) (kt 3)),kq (.store 20 (kt 2) (kt 20))] [2]) .ret)))),[(2,(some (some 20)))]⟩
def a28:AFun:=⟨(.seq (kr [ko 2 (.box (kt 0)),ko 3 (.box (kt 1)),ko 4 (.move (.const (.bool false)))] [2,3]) (.seq (kr [ko 5 (.fieldAddr 0 (kt 2)),ko 6 (.load (some 5) (kt 5)),ko 7 (.fieldAddr 10 (kt 3)),ko 8 (.load (some 5) (kt 7)),ko 9 (.call 29 [(kt 6),(kt 8)] true),ko 10 (.fieldAddr 0 (kt 3)),ko 11 (.load (some 5) (kt 10)),ko 12 (.fieldAddr 10 (kt 2)),ko 13 (.load (some 5) (kt 12)),ko 14 (.call 29 [(kt 11),(kt 13)] true),ko 15 (.call 65 [(kt 9),(kt 14)] true),ko 16 (.move (kt 15)),.mk (some 17) (.fieldAddr 5 (kt 2)) (some (16,true)),.mk (some 18) (.load (some 5) (kt 17)) (some (16,true)),.mk (some 19) (.fieldAddr 10 (kt 3)) (some (16,true)),.mk (some 20) (.load (some 5) (kt 19)) (some (16,true)),.mk (some 21) (.call 29 [(kt 18),(kt 20)] true) (some (16,true)),.mk (some 22) (.fieldAddr 5 (kt 3)) (some (16,true)),.mk (some 23) (.load (some 5) (kt 22)) (some (16,true)),.mk (some 24) (.fieldAddr 10 (kt 2)) (some (16,true)),.mk (some 25) (.load (some 5) (kt 24)) (some (16,true)),.mk (some 26) (.call 29 [(kt 23),(kt 25)] true) (some (16,true)),.mk (some 27) (.call 65 [(kt 21),(kt 26)] true) (some (16,true)),ko 28 (.pick (kt 16) (kt 27) (.const (.bool false))),ko 4 (.move (kt 28))] [4]) .ret)),[(4,none)]⟩
def a29:AFun:=⟨(.seq (kr [ko 1 (.box (kt 0)),ko 2 (.alloc (Qb 32 (.int .u8 0)))] [1,2]) (.seq (kr [ko 5 (.fieldAddr 10 (kt 1)),ko 6 (.load (some 5) (kt 5)),ko 7 (.call 34 [(kt 6)] true),ko 3 (.alloc (Qb 5 (.int .u64 0))),kq (.store 5 (kt 3) (kt 7))] [1,2,3]) (.seq (kr [ko 8 (.fieldAddr 5 (kt 1)),ko 9 (.load (some 5) (kt 8)),ko 10 (.load (some 5) (kt 3)),ko 11 (.call 29 [(kt 9),(kt 10)] true),ko 12 (.call 35 [(kt 11)] true),ko 4 (.alloc (Qb 32 (.int .u8 0))),kq (.store 32 (kt 4) (kt 12))] [1,2,3,4]) (.seq (.seq (kr [ko 13 (.fieldAddr 0 (kt 1)),ko 14 (.load (some 5) (kt 13)),ko 15 (.load (some 5) (kt 3)),ko 16 (.call 29 [(kt 14),(kt 15)] true),ko 17 (.call 36 [(kt 16)] true)] [2,4,17]) (.cond (kt 17) (kr [ko 18 (.indexAddr 32 1 (kt 4) (ki 31)),ko 19 (.load none (kt 18)),ko 20 (.bin .or (kt 19) (.const (.int .u8 128))),ko 21 (.indexAddr 32 1 (kt 4) (ki 31)),kq (.store 1 (kt 21) (kt 20))] [2,4]) .skip)) (.seq (kr [ko 22 (.load (some 32) (kt 4)),kq (.store 32 (kt 2) (kt 22))] [2]) .ret))))),[(2,(some (some 32)))]⟩
def a30:AFun:=⟨(.seq (kr [ko 0 (.alloc (Qb 20 (.int .u64 0)))] [0]) (.seq (kr [ko 1 (.call 28 [(.const (.int .u32 1))] true),ko 2 (.call 28 [(.const (.int .u32 1))] true),ko 3 (.build (Qb 20 (.int .u64 0)) [(5,(5,(kt 1))),(10,(5,(kt 2)))]),kq (.store 20 (kt 0) (kt 3))] [0]) .ret)),[(0,(some (some 20)))]⟩
def a31:AFun:=⟨(.seq (kr [ko 1 (.box (kt 0)),ko 2 (.alloc (Qb 20 (.int .u64 0))),ko 3 (.move (ki 0))] [1,2]) (.seq (kr [ko 9 (.indexAddr 32 1 (kt 1) (ki 31)),ko 10 (.load none (kt 9)),ko 11 (.bin .shr (kt 10) (.const (.int .u64 7))),ko 12 (.bin .eql (kt 11) (.const (.int .u8 1))),ko 4 (.move (kt 12))] [1,2,4]) (.seq (kr [ko 13 (.indexAddr 32 1 (kt 1) (ki 31)),ko 14 (.load none (kt 13)),ko 15 (.bin .and (kt 14) (.const (.int .u8 127))),ko 16 (.indexAddr 32 1 (kt 1) (ki 31)),kq (.store 1 (kt 16) (kt 15))] [1,2,4]) (.seq (kr [ko 17 (.load (some 32) (kt 1)),ko 18 (.call 27 [(kt 17)] true),ko 5 (.alloc (Qb 5 (.int .u64 0))),kq (.store 5 (kt 5) (kt 18))] [1,2,4,5]) (.seq (.seq (kr [ko 19 (.load (some 32) (kt 1)),ko 20 (.call 43 [(kt 19)] true),ko 21 (.un .not (kt 20))] [2,4,5,21]) (.cond (kt 21) (.seq (kr [ko 22 (.build (Qb 20 (.int .u64 0)) []),kq (.store 20 (kt 2) (kt 22)),ko 3 (.move (ki 60))] [2,3]) .ret) .skip)) (.seq (kr [ko 23 (.load (some 5) (kt 5)),ko 24 (.load (some 5) (kt 5)),ko 25 (.call 29 [(kt 23),(kt 24)] true),ko 6 (.alloc (Qb 5 (.int .u64 0))),kq (.store 5 (kt 6) (kt 25))] [2,4,5,6]) (.seq (kr [ko 27 (.load (some 5) (kt 6)),ko 28 (.call 28 [(.const (.int .u32 1))] true),ko 29 (.call 45 [(kt 27),(kt 28)] true),ko 30 (.call 31 [] true),ko 31 (.load (some 5) (kt 6)),ko 32 (.call 29 [(kt 30),(kt 31)] true),ko 33 (.call 28 [(.const (.int .u32 1))] true),ko 34 (.buildSlice (Qb 10 (.int .u64 0)) 2 [(0,(5,(kt 32))),(5,(5,(kt 33)))]),ko 35 (.call 46 [(kt 34)] false),ko 36 (.call 44 [(kt 29),(kt 35)] true),ko 26 (.move (kt 36)),ko 37 (.extract (kt 26) 0),ko 38 (.extract (kt 26) 1),ko 7 (.alloc (Qb 5 (.int .u64 0))),kq (.store 5 (kt 7) (kt 37)),ko 8 (.move (kt 38))] [2,4,5,7,8]) (.seq (.seq (kr [ko 39 (.move (kt 8)),ko 40 (.un .not (kt 39)),ko 41 (.move (kt 40)),.mk (some 42) (.move (kt 4)) (some (41,false)),.mk (some 43) (.move (kt 42)) (some (41,false)),.mk (some 44) (.load (some 5) (kt 7)) (some (43,true)),.mk (some 45) (.call 47 [(kt 44)] true) (some (43,true)),.mk (some 46) (.pick (kt 43) (kt 45) (.const (.bool false))) (some (41,false)),ko 47 (.pick (kt 41) (.const (.bool true)) (kt 46))] [2,4,5,7,47]) (.cond (kt 47) (.seq (kr [ko 48 (.build (Qb 20 (.int .u64 0)) []),kq (.store 20 (kt 2) (kt 48)),ko 3 (.move (ki 60))] [2,3]) .ret) .skip)) (.seq (.seq (kr [ko 49 (.move (kt 4))] [2,5,7,49]) (.cond (kt 49) (kr [ko 50 (.load (some 5) (kt 7)),ko 51 (.call 48 [(kt 50)] true),kq (.store 5 (kt 7) (kt 51))] [2,5,7]) .skip)) (.seq (kr [ko 52 (.load (some 5) (kt 7)),ko 53 (.load (some 5) (kt 5)),ko 54 (.call 28 [(.const (.int .u32 1))] true),ko 55 (.load (some 5) (kt 7)),ko 56 (.load (some 5) (kt 5)),ko 57 (.call 29 [(kt 55),(kt 56)] true),ko 58 (.build (Qb 20 (.int .u64 0)) [(0,(5,(kt 52))),(5,(5,(kt 53))),(10,(5,(kt 54))),(15,(5,(kt 57)))]),kq (.store 20 (kt 2) (kt 58)),ko 3 (.move (ki 0))] [2,3]) .ret)))))))))),[(2,(some (some 20))),(3,none)]⟩
def a34:AFun:=⟨(.seq (kr [ko 1 (.box (kt 0)),ko 2 (.alloc (Qb 20 (.int .u64 0)))] [1,2]) (.seq (kr [ko 3 (.fieldAddr 0 (kt 1)),ko 4 (.load (some 5) (kt 3)),ko 5 (.call 48 [(kt 4)] true),ko 6 (.fieldAddr 5 (kt 1)),ko 7 (.load (some 5) (kt 6)),ko 8 (.fieldAddr 10 (kt 1)),ko 9 (.load (some 5) (kt 8)),ko 10 (.fieldAddr 15 (kt 1)),ko 11 (.load (some 5) (kt 10)),ko 12 (.call 48 [(kt 11)] true),ko 13 (.build (Qb 20 (.int .u64 0)) [(0,(5,(kt 5))),(5,(5,(kt 7))),(10,(5,(kt 9))),(15,(5,(kt 12)))]),kq (.store 20 (kt 2) (kt 13))] [2]) .ret)),[(2,(some (some 20)))]⟩
def a39:AFun:=⟨(.seq (kr [ko 1 (.box (kt 0)),ko 2 (.move (.const (.bool false)))] [1]) (.seq (kr [ko 3 (.load (some 20) (kt 1)),ko 4 (.call 32 [(kt 3)] true),ko 5 (.call 32 [(kt 4)] true),ko 6 (.call 32 [(kt 5)] true),ko 7 (.call 30 [] true),ko 8 (.call 49 [(kt 6),(kt 7)] true),ko 2 (.move (kt 8))] [2]) .ret)),[(2,none)]⟩
def Tq:ACode:=(.seq (kr [ko 14 (.bin .lss (kt 13) (kt 12))] [3,11,12,13,14]) (.seq (.cond (kt 14) .skip (.exit 0)) (.seq (.block 1 (.seq (kr [ko 15 (.move (kt 13)),ko 16 (.indexSl 1 (kt 11) (kt 13)),ko 17 (.load none (kt 16)),ko 4 (.move (kt 15)),ko 5 (.move (kt 17))] [3,4,5,11,12,13]) (kr [ko 18 (.move (kt 3)),ko 19 (.move (kt 4)),ko 20 (.bin .quo (kt 19) (ki 4)),ko 21 (.indexSl 1 (kt 18) (kt 20)),ko 22 (.load none (kt 21)),ko 23 (.move (kt 5)),ko 24 (.conv .u32 (kt 23)),ko 25 (.move (kt 4)),ko 26 (.bin .rem (kt 25) (ki 4)),ko 27 (.bin .mul (ki 8) (kt 26)),ko 28 (.bin .shl (kt 24) (kt 27)),ko 29 (.bin .or (kt 22) (kt 28)),ko 30 (.indexSl 1 (kt 18) (kt 20)),kq (.store 1 (kt 30) (kt 29))] [3,11,12,13]))) (kr [ko 31 (.bin .add (kt 13) (ki 1)),ko 13 (.move (kt 31))] [3,11,12,13]))))
def a40:AFun:=⟨(.seq (kr [ko 2 (.move (.const (.slice none 0 0)))] [0]) (.seq (kr [ko 6 (.move (kt 0)),ko 7 (.len false (kt 6)),ko 8 (.bin .add (kt 7) (ki 3)),ko 9 (.bin .quo (kt 8) (ki 4)),ko 10 (.makeSlice [(.int .u32 0)] 4 (kt 9) (kt 9)),ko 3 (.move (kt 10))] [0,3]) (.seq (.seq (kr [ko 11 (.move (kt 0)),ko 12 (.len false (kt 11)),ko 13 (.move (ki 0))] [3,11,12,13]) (.block 0 (.loop Tq))) (.seq (kr [ko 32 (.move (kt 3)),ko 2 (.move (kt 32))] [2]) .ret)))),[(2,none)]⟩
def Hh:ACode:=(.seq (kr [ko 55 (.bin .lss (kt 54) (kt 53))] [0,3,4,5,6,9,53,54,55]) (.seq (.cond (kt 55) .skip (.exit 4)) (.seq (.block 5 (.seq (kr [ko 56 (.move (kt 54)),ko 10 (.move (kt 56))] [0,3,4,5,6,9,10,53,54]) (kr [ko 58 (.move (kt 5)),ko 59 (.move (kt 10)),ko 60 (.move (kt 3)),ko 61 (.move (kt 10)),ko 62 (.indexSl 1 (kt 60) (kt 61)),ko 63 (.load none (kt 62)),ko 64 (.move (kt 4)),ko 65 (.move (kt 10)),ko 66 (.indexSl 1 (kt 64) (kt 65)),ko 67 (.load none (kt 66)),ko 68 (.move (kt 9)),ko 69 (.call 64 [(kt 63),(kt 67),(kt 68)] true),ko 57 (.move (kt 69)),ko 70 (.extract (kt 57) 0),ko 71 (.extract (kt 57) 1),ko 72 (.indexSl 1 (kt 58) (kt 59)),kq (.store 1 (kt 72) (kt 70)),ko 9 (.move (kt 71))] [0,3,4,5,6,9,53,54]))) (kr [ko 73 (.bin .add (kt 54) (ki 1)),ko 54 (.move (kt 73))] [0,3,4,5,6,9,53,54]))))
def Hg:ACode:=(.seq (kr [ko 34 (.bin .lss (kt 33) (kt 32))] [0,3,4,5,6,7,32,33,34]) (.seq (.cond (kt 34) .skip (.exit 2)) (.seq (.block 3 (.seq (kr [ko 35 (.move (kt 33)),ko 8 (.move (kt 35))] [0,3,4,5,6,7,8,32,33]) (kr [ko 36 (.move (kt 3)),ko 37 (.move (kt 8)),ko 38 (.move (kt 3)),ko 39 (.move (kt 8)),ko 40 (.indexSl 1 (kt 38) (kt 39)),ko 41 (.load none (kt 40)),ko 42 (.bin .shl (kt 41) (.const (.int .u64 1))),ko 43 (.move (kt 7)),ko 44 (.bin .or (kt 42) (kt 43)),ko 45 (.move (kt 3)),ko 46 (.move (kt 8)),ko 47 (.indexSl 1 (kt 45) (kt 46)),ko 48 (.load none (kt 47)),ko 49 (.bin .shr (kt 48) (.const (.int .u64 31))),ko 50 (.indexSl 1 (kt 36) (kt 37)),kq (.store 1 (kt 50) (kt 44)),ko 7 (.move (kt 49))] [0,3,4,5,6,7,32,33]))) (kr [ko 51 (.bin .add (kt 33) (ki 1)),ko 33 (.move (kt 51))] [0,3,4,5,6,7,32,33]))))
def Bo:ACode:=(.seq (.seq (kr [ko 18 (.move (kt 6)),ko 19 (.bin .geq (kt 18) (ki 0))] [0,3,4,5,6,19]) (.cond (kt 19) .skip (.exit 0))) (.seq (.block 1 (.seq (kr [ko 22 (.move (kt 0)),ko 23 (.move (kt 6)),ko 24 (.bin .quo (kt 23) (ki 32)),ko 25 (.indexSl 1 (kt 22) (kt 24)),ko 26 (.load none (kt 25)),ko 27 (.move (kt 6)),ko 28 (.bin .rem (kt 27) (ki 32)),ko 29 (.bin .shr (kt 26) (kt 28)),ko 30 (.bin .and (kt 29) (.const (.int .u32 1))),ko 7 (.move (kt 30))] [0,3,4,5,6,7]) (.seq (.seq (kr [ko 31 (.move (kt 3)),ko 32 (.len false (kt 31)),ko 33 (.move (ki 0))] [0,3,4,5,6,7,32,33]) (.block 2 (.loop Hg))) (.seq (kr [ko 9 (.move (.const (.int .u32 0)))] [0,3,4,5,6,9]) (.seq (.seq (kr [ko 52 (.move (kt 3)),ko 53 (.len false (kt 52)),ko 54 (.move (ki 0))] [0,3,4,5,6,9,53,54]) (.block 4 (.loop Hh))) (.seq (kr [ko 74 (.move (kt 9)),ko 75 (.bin .eql (kt 74) (.const (.int .u32 0)))] [0,3,4,5,6,75]) (.cond (kt 75) (kr [ko 76 (.move (kt 5)),ko 77 (.move (kt 3)),ko 3 (.move (kt 76)),ko 5 (.move (kt 77))] [0,3,4,5,6]) .skip))))))) (kr [ko 20 (.move (kt 6)),ko 21 (.bin .sub (kt 20) (ki 1)),ko 6 (.move (kt 21))] [0,3,4,5,6])))
def a41:AFun:=⟨(.seq (kr [ko 2 (.move (.const (.slice none 0 0)))] [0]) (.seq (kr [ko 11 (.makeSlice [(.int .u32 0)] 4 (ki 8) (ki 8)),ko 12 (.call 51 [] false),ko 13 (.makeSlice [(.int .u32 0)] 4 (ki 8) (ki 8)),ko 3 (.move (kt 11)),ko 4 (.move (kt 12)),ko 5 (.move (kt 13))] [0,3,4,5]) (.seq (.seq (kr [ko 14 (.move (kt 0)),ko 15 (.len false (kt 14)),ko 16 (.bin .mul (ki 32) (kt 15)),ko 17 (.bin .sub (kt 16) (ki 1)),ko 6 (.move (kt 17))] [0,3,4,5,6]) (.block 0 (.loop Bo))) (.seq (kr [ko 78 (.move (kt 3)),ko 2 (.move (kt 78))] [2]) .ret)))),[(2,none)]⟩
def Qeb:ACode:=(.seq (kr [ko 6 (.bin .lss (kt 5) (ki 32))] [0,2,3,5,6]) (.seq (.cond (kt 6) .skip (.exit 0)) (.seq (.block 1 (.seq (kr [ko 7 (.move (kt 5)),ko 4 (.move (kt 7))] [0,2,3,4,5]) (kr [ko 8 (.move (kt 4)),ko 9 (.move (kt 0)),ko 10 (.move (kt 4)),ko 11 (.bin .quo (kt 10) (ki 4)),ko 12 (.indexSl 1 (kt 9) (kt 11)),ko 13 (.load none (kt 12)),ko 14 (.move (kt 4)),ko 15 (.bin .rem (kt 14) (ki 4)),ko 16 (.bin .mul (ki 8) (kt 15)),ko 17 (.bin .shr (kt 13) (kt 16)),ko 18 (.conv .u8 (kt 17)),ko 19 (.indexAddr 32 1 (kt 3) (kt 8)),kq (.store 1 (kt 19) (kt 18))] [0,2,3,5]))) (kr [ko 20 (.bin .add (kt 5) (ki 1)),ko 5 (.move (kt 20))] [0,2,3,5]))))
def a42:AFun:=⟨(.seq (kr [ko 2 (.alloc (Qb 32 (.int .u8 0)))] [0,2]) (.seq (kr [ko 3 (.alloc (Qb 32 (.int .u8 0)))] [0,2,3]) (.seq (.seq (kr [ko 5 (.move (ki 0))] [0,2,3,5]) (.block 0 (.loop Qeb))) (.seq (kr [ko 21 (.load (some 32) (kt 3)),kq (.store 32 (kt 2) (kt 21))] [2]) .ret)))),[(2,(some (some 32)))]⟩
def Qea:ACode:=(.seq (kr [ko 27 (.bin .lss (kt 26) (kt 25))] [1,5,6,7,8,17,18,19,24,25,26,27]) (.seq (.cond (kt 27) .skip (.exit 2)) (.seq (.block 3 (.seq (kr [ko 28 (.move (kt 26)),ko 29 (.indexSl 1 (kt 24) (kt 26)),ko 30 (.load none (kt 29)),ko 9 (.move (kt 28)),ko 10 (.move (kt 30))] [1,5,6,7,8,9,10,17,18,19,24,25,26]) (.seq (kr [ko 31 (.move (kt 8)),ko 32 (.move (kt 5)),ko 33 (.move (kt 6)),ko 34 (.move (kt 9)),ko 35 (.bin .add (kt 33) (kt 34)),ko 36 (.indexSl 1 (kt 32) (kt 35)),ko 37 (.load none (kt 36)),ko 38 (.conv .u64 (kt 37)),ko 39 (.move (kt 7)),ko 40 (.conv .u64 (kt 39)),ko 41 (.move (kt 10)),ko 42 (.conv .u64 (kt 41)),ko 43 (.bin .mul (kt 40) (kt 42)),ko 44 (.bin .add (kt 38) (kt 43)),ko 45 (.bin .add (kt 31) (kt 44)),ko 8 (.move (kt 45))] [1,5,6,7,8,9,17,18,19,24,25,26]) (.seq (kr [ko 46 (.move (kt 5)),ko 47 (.move (kt 6)),ko 48 (.move (kt 9)),ko 49 (.bin .add (kt 47) (kt 48)),ko 50 (.move (kt 8)),ko 51 (.conv .u32 (kt 50)),ko 52 (.indexSl 1 (kt 46) (kt 49)),kq (.store 1 (kt 52) (kt 51))] [1,5,6,7,8,17,18,19,24,25,26]) (kr [ko 53 (.move (kt 8)),ko 54 (.bin .shr (kt 53) (.const (.int .u64 32))),ko 8 (.move (kt 54))] [1,5,6,7,8,17,18,19,24,25,26]))))) (kr [ko 55 (.bin .add (kt 26) (ki 1)),ko 26 (.move (kt 55))] [1,5,6,7,8,17,18,19,24,25,26]))))
def Qd9:ACode:=(.seq (kr [ko 20 (.bin .lss (kt 19) (kt 18))] [1,5,17,18,19,20]) (.seq (.cond (kt 20) .skip (.exit 0)) (.seq (.block 1 (.seq (kr [ko 21 (.move (kt 19)),ko 22 (.indexSl 1 (kt 17) (kt 19)),ko 23 (.load none (kt 22)),ko 6 (.move (kt 21)),ko 7 (.move (kt 23))] [1,5,6,7,17,18,19]) (.seq (kr [ko 8 (.move (.const (.int .u64 0)))] [1,5,6,7,8,17,18,19]) (.seq (.seq (kr [ko 24 (.move (kt 1)),ko 25 (.len false (kt 24)),ko 26 (.move (ki 0))] [1,5,6,7,8,17,18,19,24,25,26]) (.block 2 (.loop Qea))) (kr [ko 56 (.move (kt 5)),ko 57 (.move (kt 6)),ko 58 (.move (kt 1)),ko 59 (.len false (kt 58)),ko 60 (.bin .add (kt 57) (kt 59)),ko 61 (.move (kt 8)),ko 62 (.conv .u32 (kt 61)),ko 63 (.indexSl 1 (kt 56) (kt 60)),kq (.store 1 (kt 63) (kt 62))] [1,5,17,18,19]))))) (kr [ko 64 (.bin .add (kt 19) (ki 1)),ko 19 (.move (kt 64))] [1,5,17,18,19]))))
def a44:AFun:=⟨(.seq (kr [ko 4 (.move (.const (.slice none 0 0)))] [0,1]) (.seq (kr [ko 11 (.move (kt 0)),ko 12 (.len false (kt 11)),ko 13 (.move (kt 1)),ko 14 (.len false (kt 13)),ko 15 (.bin .add (kt 12) (kt 14)),ko 16 (.makeSlice [(.int .u32 0)] 4 (kt 15) (kt 15)),ko 5 (.move (kt 16))] [0,1,5]) (.seq (.seq (kr [ko 17 (.move (kt 0)),ko 18 (.len false (kt 17)),ko 19 (.move (ki 0))] [1,5,17,18,19]) (.block 0 (.loop Qd9))) (.seq (kr [ko 65 (.move (kt 5)),ko 4 (.move (kt 65))] [4]) .ret)))),[(4,none)]⟩
def Rc:ACode:=(.seq (kr [ko 21 (.bin .lss (kt 20) (kt 19))] [1,5,6,19,20,21]) (.seq (.cond (kt 21) .skip (.exit 0)) (.seq (.block 1 (.seq (kr [ko 22 (.move (kt 20)),ko 7 (.move (kt 22))] [1,5,6,7,19,20]) (.seq (kr [ko 8 (.move (.const (.int .u32 0)))] [1,5,6,7,8,19,20]) (.seq (.seq (kr [ko 23 (.move (kt 7)),ko 24 (.move (kt 1)),ko 25 (.len false (kt 24)),ko 26 (.bin .lss (kt 23) (kt 25))] [1,5,6,7,8,19,20,26]) (.cond (kt 26) (kr [ko 27 (.move (kt 1)),ko 28 (.move (kt 7)),ko 29 (.indexSl 1 (kt 27) (kt 28)),ko 30 (.load none (kt 29)),ko 8 (.move (kt 30))] [1,5,6,7,8,19,20]) .skip)) (kr [ko 32 (.move (kt 5)),ko 33 (.move (kt 7)),ko 34 (.move (kt 5)),ko 35 (.move (kt 7)),ko 36 (.indexSl 1 (kt 34) (kt 35)),ko 37 (.load none (kt 36)),ko 38 (.move (kt 8)),ko 39 (.move (kt 6)),ko 40 (.call 63 [(kt 37),(kt 38),(kt 39)] true),ko 31 (.move (kt 40)),ko 41 (.extract (kt 31) 0),ko 42 (.extract (kt 31) 1),ko 43 (.indexSl 1 (kt 32) (kt 33)),kq (.store 1 (kt 43) (kt 41)),ko 6 (.move (kt 42))] [1,5,6,19,20]))))) (kr [ko 44 (.bin .add (kt 20) (ki 1)),ko 20 (.move (kt 44))] [1,5,6,19,20]))))
def a45:AFun:=⟨(.seq (kr [ko 4 (.move (.const (.slice none 0 0)))] [0,1]) (.seq (kr [ko 9 (.move (kt 0)),ko 10 (.len false (kt 9)),ko 11 (.bin .add (kt 10) (ki 1)),ko 12 (.makeSlice [(.int .u32 0)] 4 (ki 0) (kt 11)),ko 13 (.move (kt 0)),ko 14 (.append 1 4 (kt 12) (kt 13)),ko 5 (.move (kt 14))] [1,5]) (.seq (kr [ko 15 (.move (kt 5)),ko 16 (.buildSlice [(.int .u32 0)] 1 [(0,(1,(.const (.int .u32 0))))]),ko 17 (.append 1 4 (kt 15) (kt 16)),ko 5 (.move (kt 17))] [1,5]) (.seq (kr [ko 6 (.move (.const (.int .u32 0)))] [1,5,6]) (.seq (.seq (kr [ko 18 (.move (kt 5)),ko 19 (.len false (kt 18)),ko 20 (.move (ki 0))] [1,5,6,19,20]) (.block 0 (.loop Rc))) (.seq (kr [ko 45 (.move (kt 5)),ko 4 (.move (kt 45))] [4]) .ret)))))),[(4,none)]⟩
def Qd8:ACode:=(.seq (kr [ko 10 (.bin .lss (kt 9) (kt 8))] [0,1,5,8,9,10]) (.seq (.cond (kt 10) .skip (.exit 0)) (.seq (.block 1 (.seq (kr [ko 11 (.move (kt 9)),ko 6 (.move (kt 11))] [0,1,5,6,8,9]) (kr [ko 13 (.move (kt 0)),ko 14 (.move (kt 6)),ko 15 (.indexSl 1 (kt 13) (kt 14)),ko 16 (.load none (kt 15)),ko 17 (.move (kt 1)),ko 18 (.move (kt 6)),ko 19 (.indexSl 1 (kt 17) (kt 18)),ko 20 (.load none (kt 19)),ko 21 (.move (kt 5)),ko 22 (.call 64 [(kt 16),(kt 20),(kt 21)] true),ko 12 (.move (kt 22)),ko 23 (.extract (kt 12) 0),ko 24 (.extract (kt 12) 1),ko 5 (.move (kt 24))] [0,1,5,8,9]))) (kr [ko 25 (.bin .add (kt 9) (ki 1)),ko 9 (.move (kt 25))] [0,1,5,8,9]))))
def a46:AFun:=⟨(.seq (kr [ko 4 (.move (.const (.bool false)))] [0,1]) (.seq (kr [ko 5 (.move (.const (.int .u32 0)))] [0,1,5]) (.seq (.seq (kr [ko 7 (.move (kt 0)),ko 8 (.len false (kt 7)),ko 9 (.move (ki 0))] [0,1,5,8,9]) (.block 0 (.loop Qd8))) (.seq (kr [ko 26 (.move (kt 5)),ko 27 (.bin .eql (kt 26) (.const (.int .u32 1))),ko 4 (.move (kt 27))] [4]) .ret)))),[(4,none)]⟩
def a47:AFun:=⟨(.seq (kr [ko 0 (.move (.const (.slice none 0 0)))] []) (.seq (kr [ko 1 (.buildSlice (Qb 8 (.int .u32 0)) 8 [(0,(1,(.const (.int .u32 1559614445)))),(1,(1,(.const (.int .u32 1477600026)))),(2,(1,(.const (.int .u32 2734136534)))),(3,(1,(.const (.int .u32 350157278)))),(4,(1,(.const (.int .u32 0)))),(5,(1,(.const (.int .u32 0)))),(6,(1,(.const (.int .u32 0)))),(7,(1,(.const (.int .u32 268435456))))]),ko 0 (.move (kt 1))] [0]) .ret)),[(0,none)]⟩
def Qd7:ACode:=(.seq (.seq (kr [ko 9 (.move (kt 5)),ko 10 (.bin .geq (kt 9) (ki 0))] [0,1,5,10]) (.cond (kt 10) .skip (.exit 0))) (.seq (.block 1 (.seq (kr [ko 13 (.move (kt 0)),ko 14 (.move (kt 5)),ko 15 (.indexSl 1 (kt 13) (kt 14)),ko 16 (.load none (kt 15)),ko 17 (.move (kt 1)),ko 18 (.move (kt 5)),ko 19 (.indexSl 1 (kt 17) (kt 18)),ko 20 (.load none (kt 19)),ko 21 (.bin .neq (kt 16) (kt 20))] [0,1,5,21]) (.cond (kt 21) (.seq (kr [ko 22 (.move (kt 0)),ko 23 (.move (kt 5)),ko 24 (.indexSl 1 (kt 22) (kt 23)),ko 25 (.load none (kt 24)),ko 26 (.move (kt 1)),ko 27 (.move (kt 5)),ko 28 (.indexSl 1 (kt 26) (kt 27)),ko 29 (.load none (kt 28)),ko 30 (.bin .lss (kt 25) (kt 29)),ko 4 (.move (kt 30))] [4]) .ret) .skip))) (kr [ko 11 (.move (kt 5)),ko 12 (.bin .sub (kt 11) (ki 1)),ko 5 (.move (kt 12))] [0,1,5])))
def a48:AFun:=⟨(.seq (kr [ko 4 (.move (.const (.bool false)))] [0,1]) (.seq (.seq (kr [ko 6 (.move (kt 0)),ko 7 (.len false (kt 6)),ko 8 (.bin .sub (kt 7) (ki 1)),ko 5 (.move (kt 8))] [0,1,5]) (.block 0 (.loop Qd7))) (.seq (kr [ko 4 (.move (.const (.bool false)))] [4]) .ret))),[(4,none)]⟩
def Qd6:ACode:=(.seq (kr [ko 6 (.bin .lss (kt 5) (ki 255))] [1,2,3,5,6]) (.seq (.cond (kt 6) .skip (.exit 0)) (.seq (.block 1 (.seq (kr [ko 7 (.move (kt 5)),ko 4 (.move (kt 7))] [1,2,3,4,5]) (kr [ko 8 (.move (kt 4)),ko 9 (.bin .quo (kt 8) (ki 51)),ko 10 (.fieldAddr 0 (kt 3)),ko 11 (.indexAddr 5 1 (kt 10) (kt 9)),ko 12 (.load none (kt 11)),ko 13 (.move (kt 4)),ko 14 (.bin .quo (kt 13) (ki 8)),ko 15 (.indexAddr 32 1 (kt 1) (kt 14)),ko 16 (.load none (kt 15)),ko 17 (.move (kt 4)),ko 18 (.bin .rem (kt 17) (ki 8)),ko 19 (.bin .shr (kt 16) (kt 18)),ko 20 (.bin .and (kt 19) (.const (.int .u8 1))),ko 21 (.conv .u64 (kt 20)),ko 22 (.move (kt 4)),ko 23 (.bin .rem (kt 22) (ki 51)),ko 24 (.bin .shl (kt 21) (kt 23)),ko 25 (.bin .or (kt 12) (kt 24)),ko 26 (.fieldAddr 0 (kt 3)),ko 27 (.indexAddr 5 1 (kt 26) (kt 9)),kq (.store 1 (kt 27) (kt 25))] [1,2,3,5]))) (kr [ko 28 (.bin .add (kt 5) (ki 1)),ko 5 (.move (kt 28))] [1,2,3,5]))))
def a49:AFun:=⟨(.seq (kr [ko 1 (.box (kt 0)),ko 2 (.alloc (Qb 5 (.int .u64 0)))] [1,2]) (.seq (kr [ko 3 (.alloc (Qb 5 (.int .u64 0)))] [1,2,3]) (.seq (.seq (kr [ko 5 (.move (ki 0))] [1,2,3,5]) (.block 0 (.loop Qd6))) (.seq (kr [ko 29 (.load (some 5) (kt 3)),kq (.store 5 (kt 2) (kt 29))] [2]) .ret)))),[(2,(some (some 5)))]⟩
def a50:AFun:=⟨(.seq (kr [ko 2 (.alloc (Qb 5 (.int .u64 0)))] [0,2]) (.seq (kr [ko 3 (.move (kt 0)),ko 4 (.conv .u64 (kt 3)),ko 5 (.build (Qb 5 (.int .u64 0)) [(0,(1,(kt 4)))]),ko 6 (.build (Qb 5 (.int .u64 0)) [(0,(5,(kt 5)))]),kq (.store 5 (kt 2) (kt 6))] [2]) .ret)),[(2,(some (some 5)))]⟩
def a51:AFun:=⟨(.seq (kr [ko 2 (.box (kt 0)),ko 3 (.box (kt 1)),ko 4 (.alloc (Qb 5 (.int .u64 0)))] [2,3,4]) (.seq (kr [ko 29 (.fieldAddr 0 (kt 2)),ko 30 (.fieldAddr 0 (kt 3)),ko 5 (.move (kt 29)),ko 6 (.move (kt 30))] [4,5,6]) (.seq (kr [ko 31 (.move (kt 5)),ko 32 (.nilCheck (kt 31)),ko 33 (.indexAddr 5 1 (kt 32) (ki 1)),ko 34 (.load none (kt 33)),ko 35 (.bin .mul (.const (.int .u64 19)) (kt 34)),ko 36 (.move (kt 5)),ko 37 (.nilCheck (kt 36)),ko 38 (.indexAddr 5 1 (kt 37) (ki 2)),ko 39 (.load none (kt 38)),ko 40 (.bin .mul (.const (.int .u64 19)) (kt 39)),ko 41 (.move (kt 5)),ko 42 (.nilCheck (kt 41)),ko 43 (.indexAddr 5 1 (kt 42) (ki 3)),ko 44 (.load none (kt 43)),ko 45 (.bin .mul (.const (.int .u64 19)) (kt 44)),ko 46 (.move (kt 5)),ko 47 (.nilCheck (kt 46)),ko 48 (.indexAddr 5 1 (kt 47) (ki 4)),ko 49 (.load none (kt 48)),ko 50 (.bin .mul (.const (.int .u64 19)) (kt 49)),ko 7 (.move (kt 35)),ko 8 (.move (kt 40)),ko 9 (.move (kt 45)),ko 10 (.move (kt 50))] [4,5,6,7,8,9,10]) (.seq (kr [ko 51 (.move (kt 5)),ko 52 (.nilCheck (kt 51)),ko 53 (.indexAddr 5 1 (kt 52) (ki 0)),ko 54 (.load none (kt 53)),ko 55 (.move (kt 6)),ko 56 (.nilCheck (kt 55)),ko 57 (.indexAddr 5 1 (kt 56) (ki 0)),ko 58 (.load none (kt 57)),ko 59 (.call 55 [(kt 54),(kt 58)] true),ko 60 (.move (kt 7)),ko 61 (.move (kt 6)),ko 62 (.nilCheck (kt 61)),ko 63 (.indexAddr 5 1 (kt 62) (ki 4)),ko 64 (.load none (kt 63)),ko 65 (.call 56 [(kt 59),(kt 60),(kt 64)] true),ko 66 (.move (kt 8)),ko 67 (.move (kt 6)),ko 68 (.nilCheck (kt 67)),ko 69 (.indexAddr 5 1 (kt 68) (ki 3)),ko 70 (.load none (kt 69)),ko 71 (.call 56 [(kt 65),(kt 66),(kt 70)] true),ko 72 (.move (kt 9)),ko 73 (.move (kt 6)),ko 74 (.nilCheck (kt 73)),ko 75 (.indexAddr 5 1 (kt 74) (ki 2)),ko 76 (.load none (kt 75)),ko 77 (.call 56 [(kt 71),(kt 72),(kt 76)] true),ko 78 (.move (kt 10)),ko 79 (.move (kt 6)),ko 80 (.nilCheck (kt 79)),ko 81 (.indexAddr 5 1 (kt 80) (ki 1)),ko 82 (.load none (kt 81)),ko 83 (.call 56 [(kt 77),(kt 78),(kt 82)] true),ko 11 (.alloc [(.int .u64 0),(.int .u64 0)]),kq (.store 2 (kt 11) (kt 83))] [4,5,6,8,9,10,11]) (.seq (kr [ko 84 (.move (kt 5)),ko 85 (.nilCheck (kt 84)),ko 86 (.indexAddr 5 1 (kt 85) (ki 0)),ko 87 (.load none (kt 86)),ko 88 (.move (kt 6)),ko 89 (.nilCheck (kt 88)),ko 90 (.indexAddr 5 1 (kt 89) (ki 1)),ko 91 (.load none (kt 90)),ko 92 (.call 55 [(kt 87),(kt 91)] true),ko 93 (.move (kt 5)),ko 94 (.nilCheck (kt 93)),ko 95 (.indexAddr 5 1 (kt 94) (ki 1)),ko 96 (.load none (kt 95)),ko 97 (.move (kt 6)),ko 98 (.nilCheck (kt 97)),ko 99 (.indexAddr 5 1 (kt 98) (ki 0)),ko 100 (.load none (kt 99)),ko 101 (.call 56 [(kt 92),(kt 96),(kt 100)] true),ko 102 (.move (kt 8)),ko 103 (.move (kt 6)),ko 104 (.nilCheck (kt 103)),ko 105 (.indexAddr 5 1 (kt 104) (ki 4)),ko 106 (.load none (kt 105)),ko 107 (.call 56 [(kt 101),(kt 102),(kt 106)] true),ko 108 (.move (kt 9)),ko 109 (.move (kt 6)),ko 110 (.nilCheck (kt 109)),ko 111 (.indexAddr 5 1 (kt 110) (ki 3)),ko 112 (.load none (kt 111)),ko 113 (.call 56 [(kt 107),(kt 108),(kt 112)] true),ko 114 (.move (kt 10)),ko 115 (.move (kt 6)),ko 116 (.nilCheck (kt 115)),ko 117 (.indexAddr 5 1 (kt 116) (ki 2)),ko 118 (.load none (kt 117)),ko 119 (.call 56 [(kt 113),(kt 114),(kt 118)] true),ko 12 (.alloc [(.int .u64 0),(.int .u64 0)]),kq (.store 2 (kt 12) (kt 119))] [4,5,6,9,10,11,12]) (.seq (kr [ko 120 (.move (kt 5)),ko 121 (.nilCheck (kt 120)),ko 122 (.indexAddr 5 1 (kt 121) (ki 0)),ko 123 (.load none (kt 122)),ko 124 (.move (kt 6)),ko 125 (.nilCheck (kt 124)),ko 126 (.indexAddr 5 1 (kt 125) (ki 2)),ko 127 (.load none (kt 126)),ko 128 (.call 55 [(kt 123),(kt 127)] true),ko 129 (.move (kt 5)),ko 130 (.nilCheck (kt 129)),ko 131 (.indexAddr 5 1 (kt 130) (ki 1)),ko 132 (.load none (kt 131)),ko 133 (.move (kt 6)),ko 134 (.nilCheck (kt 133)),ko 135 (.indexAddr 5 1 (kt 134) (ki 1)),ko 136 (.load none (kt 135)),ko 137 (.call 56 [(kt 128),(kt 132),(kt 136)] true),ko 138 (.move (kt 5)),ko 139 (.nilCheck (kt 138)),ko 140 (.indexAddr 5 1 (kt 139) (ki 2)),ko 141 (.load none (kt 140)),ko 142 (.move (kt 6)),ko 143 (.nilCheck (kt 142)),ko 144 (.indexAddr 5 1 (kt 143) (ki 0)),ko 145 (.load none (kt 144)),ko 146 (.call 56 [(kt 137),(kt 141),(kt 145)] true),ko 147 (.move (kt 9)),ko 148 (.move (kt 6)),ko 149 (.nilCheck (kt 148)),ko 150 (.indexAddr 5 1 (kt 149) (ki 4)),ko 151 (.load none (kt 150)),ko 152 (.call 56 [(kt 146),(kt 147),(kt 151)] true),ko 153 (.move (kt 10)),ko 154 (.move (kt 6)),ko 155 (.nilCheck (kt 154)),ko 156 (.indexAddr 5 1 (kt 155) (ki 3)),ko 157 (.load none (kt 156)),ko 158 (.call 56 [(kt 152),(kt 153),(kt 157)] true),ko 13 (.alloc [(.int .u64 0),(.int .u64 0)]),kq (.store 2 (kt 13) (kt 158))] [4,5,6,10,11,12,13]) (.seq (kr [ko 159 (.move (kt 5)),ko 160 (.nilCheck (kt 159)),ko 161 (.indexAddr 5 1 (kt 160) (ki 0)),ko 162 (.load none (kt 161)),ko 163 (.move (kt 6)),ko 164 (.nilCheck (kt 163)),ko 165 (.indexAddr 5 1 (kt 164) (ki 3)),ko 166 (.load none (kt 165)),ko 167 (.call 55 [(kt 162),(kt 166)] true),ko 168 (.move (kt 5)),ko 169 (.nilCheck (kt 168)),ko 170 (.indexAddr 5 1 (kt 169) (ki 1)),ko 171 (.load none (kt 170)),ko 172 (.move (kt 6)),ko 173 (.nilCheck (kt 172)),ko 174 (.indexAddr 5 1 (kt 173) (ki 2)),ko 175 (.load none (kt 174)),ko 176 (.call 56 [(kt 167),(kt 171),(kt 175)] true),ko 177 (.move (kt 5)),ko 178 (.nilCheck (kt 177)),ko 179 (.indexAddr 5 1 (kt 178) (ki 2)),ko 180 (.load none (kt 179)),ko 181 (.move (kt 6)),ko 182 (.nilCheck (kt 181)),ko 183 (.indexAddr 5 1 (kt 182) (ki 1)),ko 184 (.load none (kt 183)),ko 185 (.call 56 [(kt 176),(kt 180),(kt 184)] true),ko 186 (.move (kt 5)),ko 187 (.nilCheck (kt 186)),ko 188 (.indexAddr 5 1 (kt 187) (ki 3)),ko 189 (.load none (kt 188)),ko 190 (.move (kt 6)),ko 191 (.nilCheck (kt 190)),ko 192 (.indexAddr 5 1 (kt 191) (ki 0)),ko 193 (.load none (kt 192)),ko 194 (.call 56 [(kt 185),(kt 189),(kt 193)] true),ko 195 (.move (kt 10)),ko 196 (.move (kt 6)),ko 197 (.nilCheck (kt 196)),ko 198 (.indexAddr 5 1 (kt 197) (ki 4)),ko 199 (.load none (kt 198)),ko 200 (.call 56 [(kt 194),(kt 195),(kt 199)] true),ko 14 (.alloc [(.int .u64 0),(.int .u64 0)]),kq (.store 2 (kt 14) (kt 200))] [4,5,6,11,12,13,14]) (.seq (kr [ko 201 (.move (kt 5)),ko 202 (.nilCheck (kt 201)),ko 203 (.indexAddr 5 1 (kt 202) (ki 0)),ko 204 (.load none (kt 203)),ko 205 (.move (kt 6)),ko 206 (.nilCheck (kt 205)),ko 207 (.indexAddr 5 1 (kt 206) (ki 4)),ko 208 (.load none (kt 207)),ko 209 (.call 55 [(kt 204),(kt 208)] true),ko 210 (.move (kt 5)),ko 211 (.nilCheck (kt 210)),ko 212 (.indexAddr 5 1 (kt 211) (ki 1)),ko 213 (.load none (kt 212)),ko 214 (.move (kt 6)),ko 215 (.nilCheck (kt 214)),ko 216 (.indexAddr 5 1 (kt 215) (ki 3)),ko 217 (.load none (kt 216)),ko 218 (.call 56 [(kt 209),(kt 213),(kt 217)] true),ko 219 (.move (kt 5)),ko 220 (.nilCheck (kt 219)),ko 221 (.indexAddr 5 1 (kt 220) (ki 2)),ko 222 (.load none (kt 221)),ko 223 (.move (kt 6)),ko 224 (.nilCheck (kt 223)),ko 225 (.indexAddr 5 1 (kt 224) (ki 2)),ko 226 (.load none (kt 225)),ko 227 (.call 56 [(kt 218),(kt 222),(kt 226)] true),ko 228 (.move (kt 5)),ko 229 (.nilCheck (kt 228)),ko 230 (.indexAddr 5 1 (kt 229) (ki 3)),ko 231 (.load none (kt 230)),ko 232 (.move (kt 6)),ko 233 (.nilCheck (kt 232)),ko 234 (.indexAddr 5 1 (kt 233) (ki 1)),ko 235 (.load none (kt 234)),ko 236 (.call 56 [(kt 227),(kt 231),(kt 235)] true),ko 237 (.move (kt 5)),ko 238 (.nilCheck (kt 237)),ko 239 (.indexAddr 5 1 (kt 238) (ki 4)),ko 240 (.load none (kt 239)),ko 241 (.move (kt 6)),ko 242 (.nilCheck (kt 241)),ko 243 (.indexAddr 5 1 (kt 242) (ki 0)),ko 244 (.load none (kt 243)),ko 245 (.call 56 [(kt 236),(kt 240),(kt 244)] true),ko 15 (.alloc [(.int .u64 0),(.int .u64 0)]),kq (.store 2 (kt 15) (kt 245))] [4,11,12,13,14,15]) (.seq (kr [ko 247 (.load (some 2) (kt 11)),ko 248 (.call 57 [(kt 247)] true),ko 246 (.move (kt 248)),ko 249 (.extract (kt 246) 0),ko 250 (.extract (kt 246) 1),ko 16 (.move (kt 249)),ko 17 (.move (kt 250))] [4,12,13,14,15,16,17]) (.seq (kr [ko 252 (.load (some 2) (kt 12)),ko 253 (.call 57 [(kt 252)] true),ko 251 (.move (kt 253)),ko 254 (.extract (kt 251) 0),ko 255 (.extract (kt 251) 1),ko 18 (.move (kt 254)),ko 19 (.move (kt 255))] [4,13,14,15,16,17,18,19]) (.seq (kr [ko 257 (.load (some 2) (kt 13)),ko 258 (.call 57 [(kt 257)] true),ko 256 (.move (kt 258)),ko 259 (.extract (kt 256) 0),ko 260 (.extract (kt 256) 1),ko 20 (.move (kt 259)),ko 21 (.move (kt 260))] [4,14,15,16,17,18,19,20,21]) (.seq (kr [ko 262 (.load (some 2) (kt 14)),ko 263 (.call 57 [(kt 262)] true),ko 261 (.move (kt 263)),ko 264 (.extract (kt 261) 0),ko 265 (.extract (kt 261) 1),ko 22 (.move (kt 264)),ko 23 (.move (kt 265))] [4,15,16,17,18,19,20,21,22,23]) (.seq (kr [ko 267 (.load (some 2) (kt 15)),ko 268 (.call 57 [(kt 267)] true),ko 266 (.move (kt 268)),ko 269 (.extract (kt 266) 0),ko 270 (.extract (kt 266) 1),ko 24 (.move (kt 269)),ko 25 (.move (kt 270))] [4,16,17,18,19,20,21,22,23,24,25]) (.seq (kr [ko 271 (.move (kt 24)),ko 272 (.call 55 [(.const (.int .u64 19)),(kt 271)] true),ko 273 (.move (kt 17)),ko 274 (.call 58 [(kt 272),(kt 273)] true),ko 26 (.alloc [(.int .u64 0),(.int .u64 0)]),kq (.store 2 (kt 26) (kt 274))] [4,16,18,19,20,21,22,23,25,26]) (.seq (kr [ko 276 (.load (some 2) (kt 26)),ko 277 (.call 57 [(kt 276)] true),ko 275 (.move (kt 277)),ko 278 (.extract (kt 275) 0),ko 279 (.extract (kt 275) 1),ko 27 (.move (kt 278)),ko 28 (.move (kt 279))] [4,16,18,19,20,21,22,23,25,27,28]) (.seq (kr [ko 280 (.move (kt 28)),ko 281 (.move (kt 19)),ko 282 (.move (kt 16)),ko 283 (.bin .add (kt 281) (kt 282)),ko 284 (.move (kt 27)),ko 285 (.bin .add (kt 283) (kt 284)),ko 286 (.move (kt 21)),ko 287 (.move (kt 18)),ko 288 (.bin .add (kt 286) (kt 287)),ko 289 (.move (kt 23)),ko 290 (.move (kt 20)),ko 291 (.bin .add (kt 289) (kt 290)),ko 292 (.move (kt 25)),ko 293 (.move (kt 22)),ko 294 (.bin .add (kt 292) (kt 293)),ko 295 (.build (Qb 5 (.int .u64 0)) [(0,(1,(kt 280))),(1,(1,(kt 285))),(2,(1,(kt 288))),(3,(1,(kt 291))),(4,(1,(kt 294)))]),ko 296 (.build (Qb 5 (.int .u64 0)) [(0,(5,(kt 295)))]),ko 297 (.call 59 [(kt 296)] true),kq (.store 5 (kt 4) (kt 297))] [4]) .ret)))))))))))))))),[(4,(some (some 5)))]⟩
def a52:AFun:=⟨(.seq (kr [ko 0 (.alloc (Qb 5 (.int .u64 0)))] [0]) (.seq (kr [ko 1 (.build (Qb 32 (.int .u8 0)) [(0,(1,(.const (.int .u8 163)))),(1,(1,(.const (.int .u8 120)))),(2,(1,(.const (.int .u8 89)))),(3,(1,(.const (.int .u8 19)))),(4,(1,(.const (.int .u8 202)))),(5,(1,(.const (.int .u8 77)))),(6,(1,(.const (.int .u8 235)))),(7,(1,(.const (.int .u8 117)))),(8,(1,(.const (.int .u8 171)))),(9,(1,(.const (.int .u8 216)))),(10,(1,(.const (.int .u8 65)))),(11,(1,(.const (.int .u8 65)))),(12,(1,(.const (.int .u8 77)))),(13,(1,(.const (.int .u8 10)))),(14,(1,(.const (.int .u8 112)))),(15,(1,(.const (.int .u8 0)))),(16,(1,(.const (.int .u8 152)))),(17,(1,(.const (.int .u8 232)))),(18,(1,(.const (.int .u8 121)))),(19,(1,(.const (.int .u8 119)))),(20,(1,(.const (.int .u8 121)))),(21,(1,(.const (.int .u8 64)))),(22,(1,(.const (.int .u8 199)))),(23,(1,(.const (.int .u8 140)))),(24,(1,(.const (.int .u8 115)))),(25,(1,(.const (.int .u8 254)))),(26,(1,(.const (.int .u8 111)))),(27,(1,(.const (.int .u8 43)))),(28,(1,(.const (.int .u8 238)))),(29,(1,(.const (.int .u8 108)))),(30,(1,(.const (.int .u8 3)))),(31,(1,(.const (.int .u8 82))))]),ko 2 (.call 27 [(kt 1)] true),kq (.store 5 (kt 0) (kt 2))] [0]) .ret)),[(0,(some (some 5)))]⟩
def a53:AFun:=⟨(.seq (kr [ko 1 (.box (kt 0)),ko 2 (.alloc (Qb 20 (.int .u64 0)))] [1,2]) (.seq (kr [ko 11 (.fieldAddr 0 (kt 1)),ko 12 (.load (some 5) (kt 11)),ko 13 (.fieldAddr 0 (kt 1)),ko 14 (.load (some 5) (kt 13)),ko 15 (.call 29 [(kt 12),(kt 14)] true),ko 16 (.fieldAddr 5 (kt 1)),ko 17 (.load (some 5) (kt 16)),ko 18 (.fieldAddr 5 (kt 1)),ko 19 (.load (some 5) (kt 18)),ko 20 (.call 29 [(kt 17),(kt 19)] true),ko 3 (.alloc (Qb 5 (.int .u64 0))),ko 4 (.alloc (Qb 5 (.int .u64 0))),kq (.store 5 (kt 3) (kt 15)),kq (.store 5 (kt 4) (kt 20))] [1,2,3,4]) (.seq (kr [ko 21 (.call 28 [(.const (.int .u32 2))] true),ko 22 (.fieldAddr 10 (kt 1)),ko 23 (.load (some 5) (kt 22)),ko 24 (.fieldAddr 10 (kt 1)),ko 25 (.load (some 5) (kt 24)),ko 26 (.buildSlice (Qb 15 (.int .u64 0)) 3 [(0,(5,(kt 21))),(5,(5,(kt 23))),(10,(5,(kt 25)))]),ko 27 (.call 60 [(kt 26)] false),ko 5 (.alloc (Qb 5 (.int .u64 0))),kq (.store 5 (kt 5) (kt 27))] [1,2,3,4,5]) (.seq (kr [ko 28 (.load (some 5) (kt 3)),ko 29 (.load (some 5) (kt 4)),ko 30 (.buildSlice (Qb 10 (.int .u64 0)) 2 [(0,(5,(kt 28))),(5,(5,(kt 29)))]),ko 31 (.call 46 [(kt 30)] false),ko 6 (.alloc (Qb 5 (.int .u64 0))),kq (.store 5 (kt 6) (kt 31))] [1,2,3,4,5,6]) (.seq (kr [ko 32 (.fieldAddr 0 (kt 1)),ko 33 (.load (some 5) (kt 32)),ko 34 (.fieldAddr 5 (kt 1)),ko 35 (.load (some 5) (kt 34)),ko 36 (.buildSlice (Qb 10 (.int .u64 0)) 2 [(0,(5,(kt 33))),(5,(5,(kt 35)))]),ko 37 (.call 46 [(kt 36)] false),ko 7 (.alloc (Qb 5 (.int .u64 0))),kq (.store 5 (kt 7) (kt 37))] [2,3,4,5,6,7]) (.seq (kr [ko 38 (.load (some 5) (kt 6)),ko 39 (.load (some 5) (kt 7)),ko 40 (.load (some 5) (kt 7)),ko 41 (.call 29 [(kt 39),(kt 40)] true),ko 42 (.call 45 [(kt 38),(kt 41)] true),ko 8 (.alloc (Qb 5 (.int .u64 0))),kq (.store 5 (kt 8) (kt 42))] [2,3,4,5,6,8]) (.seq (kr [ko 43 (.load (some 5) (kt 3)),ko 44 (.load (some 5) (kt 4)),ko 45 (.call 45 [(kt 43),(kt 44)] true),ko 9 (.alloc (Qb 5 (.int .u64 0))),kq (.store 5 (kt 9) (kt 45))] [2,5,6,8,9]) (.seq (kr [ko 46 (.load (some 5) (kt 5)),ko 47 (.load (some 5) (kt 9)),ko 48 (.buildSlice (Qb 10 (.int .u64 0)) 2 [(0,(5,(kt 46))),(5,(5,(kt 47)))]),ko 49 (.call 46 [(kt 48)] false),ko 10 (.alloc (Qb 5 (.int .u64 0))),kq (.store 5 (kt 10) (kt 49))] [2,6,8,9,10]) (.seq (kr [ko 50 (.load (some 5) (kt 8)),ko 51 (.load (some 5) (kt 10)),ko 52 (.call 29 [(kt 50),(kt 51)] true),ko 53 (.load (some 5) (kt 9)),ko 54 (.load (some 5) (kt 6)),ko 55 (.call 29 [(kt 53),(kt 54)] true),ko 56 (.load (some 5) (kt 10)),ko 57 (.load (some 5) (kt 9)),ko 58 (.call 29 [(kt 56),(kt 57)] true),ko 59 (.load (some 5) (kt 8)),ko 60 (.load (some 5) (kt 6)),ko 61 (.call 29 [(kt 59),(kt 60)] true),ko 62 (.build (Qb 20 (.int .u64 0)) [(0,(5,(kt 52))),(5,(5,(kt 55))),(10,(5,(kt 58))),(15,(5,(kt 61)))]),kq (.store 20 (kt 2) (kt 62))] [2]) .ret))))))))),[(2,(some (some 20)))]⟩
def a54:AFun:=⟨(.seq (kr [ko 3 (.box (kt 0)),ko 4 (.box (kt 1)),ko 5 (.box (kt 2)),ko 6 (.alloc (Qb 20 (.int .u64 0)))] [3,4,5,6]) (.seq (kr [ko 15 (.fieldAddr 5 (kt 3)),ko 16 (.load (some 5) (kt 15)),ko 17 (.fieldAddr 0 (kt 3)),ko 18 (.load (some 5) (kt 17)),ko 19 (.call 45 [(kt 16),(kt 18)] true),ko 20 (.fieldAddr 5 (kt 4)),ko 21 (.load (some 5) (kt 20)),ko 22 (.fieldAddr 0 (kt 4)),ko 23 (.load (some 5) (kt 22)),ko 24 (.call 45 [(kt 21),(kt 23)] true),ko 25 (.call 29 [(kt 19),(kt 24)] true),ko 7 (.alloc (Qb 5 (.int .u64 0))),kq (.store 5 (kt 7) (kt 25))] [3,4,5,6,7]) (.seq (.region [ko 26 (.fieldAddr 5 (kt 3)),ko 27 (.load (some 5) (kt 26)),ko 28 (.fieldAddr 0 (kt 3)),ko 29 (.load (some 5) (kt 28)),ko 30 (.buildSlice (Qb 10 (.int .u64 0)) 2 [(0,(5,(kt 27))),(5,(5,(kt 29)))]),ko 31 (.call 46 [(kt 30)] false),ko 32 (.fieldAddr 5 (kt 4)),ko 33 (.load (some 5) (kt 32)),ko 34 (.fieldAddr 0 (kt 4)),ko 35 (.load (some 5) (kt 34)),ko 36 (.buildSlice (Qb 10 (.int .u64 0)) 2 [(0,(5,(kt 33))),(5,(5,(kt 35)))]),ko 37 (.call 46 [(kt 36)] false),ko 38 (.call 29 [(kt 31),(kt 37)] true),ko 8 (.alloc (Qb 5 (.int .u64 0))),kq (.store 5 (kt 8) (kt 38))] (some [3,4,5,6,7,8]) [(5,7),(5,9)]) (.seq (kr [ko 39 (.call 28 [(.const (.int .u32 2))] true),ko 40 (.load (some 5) (kt 5)),ko 41 (.fieldAddr 15 (kt 3)),ko 42 (.load (some 5) (kt 41)),ko 43 (.fieldAddr 15 (kt 4)),ko 44 (.load (some 5) (kt 43)),ko 45 (.buildSlice (Qb 20 (.int .u64 0)) 4 [(0,(5,(kt 39))),(5,(5,(kt 40))),(10,(5,(kt 42))),(15,(5,(kt 44)))]),ko 46 (.call 60 [(kt 45)] false),ko 9 (.alloc (Qb 5 (.int .u64 0))),kq (.store 5 (kt 9) (kt 46))] [3,4,6,7,8,9]) (.seq (kr [ko 47 (.call 28 [(.const (.int .u32 2))] true),ko 48 (.fieldAddr 10 (kt 3)),ko 49 (.load (some 5) (kt 48)),ko 50 (.fieldAddr 10 (kt 4)),ko 51 (.load (some 5) (kt 50)),ko 52 (.buildSlice (Qb 15 (.int .u64 0)) 3 [(0,(5,(kt 47))),(5,(5,(kt 49))),(10,(5,(kt 51)))]),ko 53 (.call 60 [(kt 52)] false),ko 10 (.alloc (Qb 5 (.int .u64 0))),kq (.store 5 (kt 10) (kt 53))] [6,7,8,9,10]) (.seq (.region [ko 54 (.load (some 5) (kt 8)),ko 55 (.load (some 5) (kt 7)),ko 56 (.call 45 [(kt 54),(kt 55)] true),ko 57 (.load (some 5) (kt 10)),ko 58 (.load (some 5) (kt 9)),ko 59 (.call 45 [(kt 57),(kt 58)] true),ko 60 (.load (some 5) (kt 10)),ko 61 (.load (some 5) (kt 9)),ko 62 (.buildSlice (Qb 10 (.int .u64 0)) 2 [(0,(5,(kt 60))),(5,(5,(kt 61)))]),ko 63 (.call 46 [(kt 62)] false),ko 64 (.load (some 5) (kt 8)),ko 65 (.load (some 5) (kt 7)),ko 66 (.buildSlice (Qb 10 (.int .u64 0)) 2 [(0,(5,(kt 64))),(5,(5,(kt 65)))]),ko 67 (.call 46 [(kt 66)] false),ko 11 (.alloc (Qb 5 (.int .u64 0))),ko 12 (.alloc (Qb 5 (.int .u64 0))),ko 13 (.alloc (Qb 5 (.int .u64 0))),ko 14 (.alloc (Qb 5 (.int .u64 0))),kq (.store 5 (kt 11) (kt 56)),kq (.store 5 (kt 12) (kt 59)),kq (.store 5 (kt 13) (kt 63)),kq (.store 5 (kt 14) (kt 67))] (some [6,11,12,13,14]) [(9,10),(9,11)]) (.seq (kr [ko 68 (.load (some 5) (kt 11)),ko 69 (.load (some 5) (kt 12)),ko 70 (.call 29 [(kt 68),(kt 69)] true),ko 71 (.load (some 5) (kt 13)),ko 72 (.load (some 5) (kt 14)),ko 73 (.call 29 [(kt 71),(kt 72)] true),ko 74 (.load (some 5) (kt 12)),ko 75 (.load (some 5) (kt 13)),ko 76 (.call 29 [(kt 74),(kt 75)] true),ko 77 (.load (some 5) (kt 11)),ko 78 (.load (some 5) (kt 14)),ko 79 (.call 29 [(kt 77),(kt 78)] true),ko 80 (.build (Qb 20 (.int .u64 0)) [(0,(5,(kt 70))),(5,(5,(kt 73))),(10,(5,(kt 76))),(15,(5,(kt 79)))]),kq (.store 20 (kt 6) (kt 80))] [6]) .ret))))))),[(6,(some (some 20)))]⟩
def a55:AFun:=⟨(.seq (kr [ko 2 (.box (kt 0)),ko 3 (.box (kt 1)),ko 4 (.move (.const (.bool false)))] [2,3]) (.seq (kr [ko 5 (.load (some 5) (kt 2)),ko 6 (.call 35 [(kt 5)] true),ko 7 (.load (some 5) (kt 3)),ko 8 (.call 35 [(kt 7)] true),ko 9 (.eqv (some (Qb 32 true)) false (kt 6) (kt 8)),ko 4 (.move (kt 9))] [4]) .ret)),[(4,none)]⟩
def a56:AFun:=⟨(.seq (kr [ko 1 (.box (kt 0)),ko 2 (.alloc (Qb 5 (.int .u64 0)))] [1,2]) (.seq (kr [ko 3 (.load (some 5) (kt 1)),ko 4 (.call 62 [(ki 255),(.const (.int .u8 20))] true),ko 5 (.call 61 [(kt 3),(kt 4)] true),kq (.store 5 (kt 2) (kt 5))] [2]) .ret)),[(2,(some (some 5)))]⟩
def Qbk:ACode:=(.seq (kr [ko 55 (.bin .lss (kt 54) (ki 255))] [1,2,6,54,55]) (.seq (.cond (kt 55) .skip (.exit 4)) (.seq (.block 5 (.seq (kr [ko 56 (.move (kt 54)),ko 8 (.move (kt 56))] [1,2,6,8,54]) (kr [ko 57 (.move (kt 8)),ko 58 (.bin .quo (kt 57) (ki 8)),ko 59 (.indexAddr 32 1 (kt 6) (kt 58)),ko 60 (.load none (kt 59)),ko 61 (.move (kt 8)),ko 62 (.bin .quo (kt 61) (ki 51)),ko 63 (.fieldAddr 0 (kt 1)),ko 64 (.indexAddr 5 1 (kt 63) (kt 62)),ko 65 (.load none (kt 64)),ko 66 (.move (kt 8)),ko 67 (.bin .rem (kt 66) (ki 51)),ko 68 (.bin .shr (kt 65) (kt 67)),ko 69 (.bin .and (kt 68) (.const (.int .u64 1))),ko 70 (.conv .u8 (kt 69)),ko 71 (.move (kt 8)),ko 72 (.bin .rem (kt 71) (ki 8)),ko 73 (.bin .shl (kt 70) (kt 72)),ko 74 (.bin .or (kt 60) (kt 73)),ko 75 (.indexAddr 32 1 (kt 6) (kt 58)),kq (.store 1 (kt 75) (kt 74))] [1,2,6,54]))) (kr [ko 76 (.bin .add (kt 54) (ki 1)),ko 54 (.move (kt 76))] [1,2,6,54]))))
def Qd5:ACode:=(.seq (kr [ko 31 (.bin .lss (kt 30) (ki 5))] [1,2,3,6,30,31]) (.seq (.cond (kt 31) .skip (.exit 2)) (.seq (.block 3 (.seq (kr [ko 32 (.move (kt 30)),ko 7 (.move (kt 32))] [1,2,3,6,7,30]) (.seq (kr [ko 33 (.move (kt 7)),ko 34 (.fieldAddr 0 (kt 1)),ko 35 (.indexAddr 5 1 (kt 34) (kt 33)),ko 36 (.load none (kt 35)),ko 37 (.move (kt 3)),ko 38 (.bin .add (kt 36) (kt 37)),ko 39 (.fieldAddr 0 (kt 1)),ko 40 (.indexAddr 5 1 (kt 39) (kt 33)),kq (.store 1 (kt 40) (kt 38))] [1,2,6,7,30]) (.seq (kr [ko 41 (.move (kt 7)),ko 42 (.fieldAddr 0 (kt 1)),ko 43 (.indexAddr 5 1 (kt 42) (kt 41)),ko 44 (.load none (kt 43)),ko 45 (.bin .shr (kt 44) (.const (.int .u64 51))),ko 3 (.move (kt 45))] [1,2,3,6,7,30]) (kr [ko 46 (.move (kt 7)),ko 47 (.fieldAddr 0 (kt 1)),ko 48 (.indexAddr 5 1 (kt 47) (kt 46)),ko 49 (.load none (kt 48)),ko 50 (.bin .and (kt 49) (.const (.int .u64 2251799813685247))),ko 51 (.fieldAddr 0 (kt 1)),ko 52 (.indexAddr 5 1 (kt 51) (kt 46)),kq (.store 1 (kt 52) (kt 50))] [1,2,3,6,30]))))) (kr [ko 53 (.bin .add (kt 30) (ki 1)),ko 30 (.move (kt 53))] [1,2,3,6,30]))))
def Qd4:ACode:=(.seq (kr [ko 15 (.bin .lss (kt 14) (ki 5))] [1,2,3,13,14,15]) (.seq (.cond (kt 15) .skip (.exit 0)) (.seq (.block 1 (.seq (kr [ko 16 (.index none 5 1 (kt 13) (kt 14)),ko 5 (.move (kt 16))] [1,2,3,5,13,14]) (kr [ko 17 (.move (kt 5)),ko 18 (.move (kt 3)),ko 19 (.bin .add (kt 17) (kt 18)),ko 20 (.bin .shr (kt 19) (.const (.int .u64 51))),ko 3 (.move (kt 20))] [1,2,3,13,14]))) (kr [ko 21 (.bin .add (kt 14) (ki 1)),ko 14 (.move (kt 21))] [1,2,3,13,14]))))
def a57:AFun:=⟨(.seq (kr [ko 1 (.box (kt 0)),ko 2 (.alloc (Qb 32 (.int .u8 0)))] [1,2]) (.seq (kr [ko 9 (.load (some 5) (kt 1)),ko 10 (.call 59 [(kt 9)] true),ko 11 (.call 59 [(kt 10)] true),kq (.store 5 (kt 1) (kt 11))] [1,2]) (.seq (kr [ko 3 (.move (.const (.int .u64 19)))] [1,2,3]) (.seq (.seq (kr [ko 12 (.fieldAddr 0 (kt 1)),ko 13 (.load (some 5) (kt 12)),ko 14 (.move (ki 0))] [1,2,3,13,14]) (.block 0 (.loop Qd4))) (.seq (kr [ko 22 (.fieldAddr 0 (kt 1)),ko 23 (.indexAddr 5 1 (kt 22) (ki 0)),ko 24 (.load none (kt 23)),ko 25 (.move (kt 3)),ko 26 (.bin .mul (.const (.int .u64 19)) (kt 25)),ko 27 (.bin .add (kt 24) (kt 26)),ko 28 (.fieldAddr 0 (kt 1)),ko 29 (.indexAddr 5 1 (kt 28) (ki 0)),kq (.store 1 (kt 29) (kt 27))] [1,2]) (.seq (kr [ko 3 (.move (.const (.int .u64 0)))] [1,2,3]) (.seq (kr [ko 6 (.alloc (Qb 32 (.int .u8 0)))] [1,2,3,6]) (.seq (.seq (kr [ko 30 (.move (ki 0))] [1,2,3,6,30]) (.block 2 (.loop Qd5))) (.seq (.seq (kr [ko 54 (.move (ki 0))] [1,2,6,54]) (.block 4 (.loop Qbk))) (.seq (kr [ko 77 (.load (some 32) (kt 6)),kq (.store 32 (kt 2) (kt 77))] [2]) .ret)))))))))),[(2,(some (some 32)))]⟩
def a58:AFun:=⟨(.seq (kr [ko 1 (.box (kt 0)),ko 2 (.move (.const (.bool false)))] [1]) (.seq (kr [ko 3 (.load (some 5) (kt 1)),ko 4 (.call 35 [(kt 3)] true),ko 5 (.index none 32 1 (kt 4) (ki 0)),ko 6 (.bin .and (kt 5) (.const (.int .u8 1))),ko 7 (.bin .eql (kt 6) (.const (.int .u8 1))),ko 2 (.move (kt 7))] [2]) .ret)),[(2,none)]⟩
def a59:AFun:=⟨(.seq (kr [ko 1 (.box (kt 0)),ko 2 (.move (.const (.bool false)))] [1]) (.seq (kr [ko 3 (.load (some 32) (kt 1)),ko 4 (.call 27 [(kt 3)] true),ko 5 (.call 35 [(kt 4)] true),ko 6 (.load (some 32) (kt 1)),ko 7 (.eqv (some (Qb 32 true)) false (kt 5) (kt 6)),ko 2 (.move (kt 7))] [2]) .ret)),[(2,none)]⟩
def a60:AFun:=⟨(.seq (kr [ko 2 (.box (kt 0)),ko 3 (.box (kt 1)),ko 4 (.alloc (Qb 5 (.int .u64 0))),ko 5 (.move (.const (.bool false)))] [2,3,4]) (.seq (kr [ko 9 (.load (some 5) (kt 3)),ko 10 (.load (some 5) (kt 3)),ko 11 (.load (some 5) (kt 3)),ko 12 (.buildSlice (Qb 15 (.int .u64 0)) 3 [(0,(5,(kt 9))),(5,(5,(kt 10))),(10,(5,(kt 11)))]),ko 13 (.call 60 [(kt 12)] false),ko 6 (.alloc (Qb 5 (.int .u64 0))),kq (.store 5 (kt 6) (kt 13))] [2,3,4,6]) (.seq (.region [ko 14 (.load (some 5) (kt 2)),ko 15 (.load (some 5) (kt 6)),ko 16 (.load (some 5) (kt 2)),ko 17 (.load (some 5) (kt 6)),ko 18 (.load (some 5) (kt 6)),ko 19 (.load (some 5) (kt 3)),ko 20 (.buildSlice (Qb 20 (.int .u64 0)) 4 [(0,(5,(kt 16))),(5,(5,(kt 17))),(10,(5,(kt 18))),(15,(5,(kt 19)))]),ko 21 (.call 60 [(kt 20)] false),ko 22 (.call 62 [(ki 252),(.const (.int .u8 2))] true),ko 23 (.call 61 [(kt 21),(kt 22)] true),ko 24 (.buildSlice (Qb 15 (.int .u64 0)) 3 [(0,(5,(kt 14))),(5,(5,(kt 15))),(10,(5,(kt 23)))]),ko 25 (.call 60 [(kt 24)] false),ko 7 (.alloc (Qb 5 (.int .u64 0))),kq (.store 5 (kt 7) (kt 25))] (some [2,3,4,7]) [(0,7),(1,7)]) (.seq (.seq (kr [ko 26 (.load (some 5) (kt 3)),ko 27 (.load (some 5) (kt 7)),ko 28 (.load (some 5) (kt 7)),ko 29 (.buildSlice (Qb 15 (.int .u64 0)) 3 [(0,(5,(kt 26))),(5,(5,(kt 27))),(10,(5,(kt 28)))]),ko 30 (.call 60 [(kt 29)] false),ko 8 (.alloc (Qb 5 (.int .u64 0))),kq (.store 5 (kt 8) (kt 30))] [2,4,7,8]) (.block 0 (.seq (kr [ko 33 (.load (some 5) (kt 8)),ko 34 (.load (some 5) (kt 2)),ko 35 (.call 65 [(kt 33),(kt 34)] true),ko 32 (.move (kt 35))] [2,4,7,8,32]) (.cond (kt 32) .skip (.seq (kr [ko 37 (.load (some 5) (kt 8)),ko 38 (.load (some 5) (kt 2)),ko 39 (.call 48 [(kt 38)] true),ko 40 (.call 65 [(kt 37),(kt 39)] true),ko 36 (.move (kt 40))] [4,7,36]) (.cond (kt 36) (kr [ko 41 (.load (some 5) (kt 7)),ko 42 (.call 28 [(.const (.int .u32 2))] true),ko 43 (.call 62 [(ki 253),(.const (.int .u8 4))] true),ko 44 (.call 61 [(kt 42),(kt 43)] true),ko 45 (.call 29 [(kt 41),(kt 44)] true),kq (.store 5 (kt 7) (kt 45))] [4,7]) (.seq (kr [ko 31 (.build (Qb 5 (.int .u64 0)) []),kq (.store 5 (kt 4) (kt 31)),ko 5 (.move (.const (.bool false)))] [4,5]) .ret))))))) (.seq (.seq (kr [ko 46 (.load (some 5) (kt 7)),ko 47 (.call 36 [(kt 46)] true)] [4,7,47]) (.cond (kt 47) (kr [ko 48 (.load (some 5) (kt 7)),ko 49 (.call 48 [(kt 48)] true),kq (.store 5 (kt 7) (kt 49))] [4,7]) .skip)) (.seq (kr [ko 50 (.load (some 5) (kt 7)),kq (.store 5 (kt 4) (kt 50)),ko 5 (.move (.const (.bool true)))] [4,5]) .ret)))))),[(4,(some (some 5))),(5,none)]⟩
def Qd3:ACode:=(.seq (kr [ko 7 (.bin .lss (kt 6) (ki 5))] [2,3,4,6,7]) (.seq (.cond (kt 7) .skip (.exit 0)) (.seq (.block 1 (.seq (kr [ko 8 (.move (kt 6)),ko 5 (.move (kt 8))] [2,3,4,5,6]) (kr [ko 9 (.move (kt 5)),ko 10 (.fieldAddr 0 (kt 2)),ko 11 (.indexAddr 5 1 (kt 10) (kt 9)),ko 12 (.load none (kt 11)),ko 13 (.move (kt 5)),ko 14 (.fieldAddr 0 (kt 3)),ko 15 (.indexAddr 5 1 (kt 14) (kt 13)),ko 16 (.load none (kt 15)),ko 17 (.bin .sub (.const (.int .u64 9007199254740988)) (kt 16)),ko 18 (.bin .add (kt 12) (kt 17)),ko 19 (.fieldAddr 0 (kt 2)),ko 20 (.indexAddr 5 1 (kt 19) (kt 9)),kq (.store 1 (kt 20) (kt 18))] [2,3,4,6]))) (kr [ko 21 (.bin .add (kt 6) (ki 1)),ko 6 (.move (kt 21))] [2,3,4,6]))))
def a61:AFun:=⟨(.seq (kr [ko 2 (.box (kt 0)),ko 3 (.box (kt 1)),ko 4 (.alloc (Qb 5 (.int .u64 0)))] [2,3,4]) (.seq (.seq (kr [ko 6 (.move (ki 0))] [2,3,4,6]) (.block 0 (.loop Qd3))) (.seq (kr [ko 22 (.fieldAddr 0 (kt 2)),ko 23 (.indexAddr 5 1 (kt 22) (ki 0)),ko 24 (.load none (kt 23)),ko 25 (.bin .sub (kt 24) (.const (.int .u64 72))),ko 26 (.fieldAddr 0 (kt 2)),ko 27 (.indexAddr 5 1 (kt 26) (ki 0)),kq (.store 1 (kt 27) (kt 25))] [2,4]) (.seq (kr [ko 28 (.load (some 5) (kt 2)),ko 29 (.call 59 [(kt 28)] true),kq (.store 5 (kt 4) (kt 29))] [4]) .ret)))),[(4,(some (some 5)))]⟩
def Qd2:ACode:=(.seq (kr [ko 15 (.bin .lss (kt 14) (ki 5))] [2,3,4,5,7,8,9,14,15]) (.seq (.cond (kt 15) .skip (.exit 2)) (.seq (.block 3 (.seq (kr [ko 16 (.move (kt 14)),ko 6 (.move (kt 16))] [2,3,4,5,6,7,8,9,14]) (kr [ko 17 (.move (kt 6)),ko 18 (.fieldAddr 0 (kt 3)),ko 19 (.indexAddr 5 1 (kt 18) (kt 17)),ko 20 (.load none (kt 19)),ko 21 (.move (kt 6)),ko 22 (.fieldAddr 0 (kt 5)),ko 23 (.indexAddr 5 1 (kt 22) (kt 21)),ko 24 (.load none (kt 23)),ko 25 (.bin .add (kt 20) (kt 24)),ko 26 (.fieldAddr 0 (kt 3)),ko 27 (.indexAddr 5 1 (kt 26) (kt 17)),kq (.store 1 (kt 27) (kt 25))] [2,3,4,5,7,8,9,14]))) (kr [ko 28 (.bin .add (kt 14) (ki 1)),ko 14 (.move (kt 28))] [2,3,4,5,7,8,9,14]))))
def Qd1:ACode:=(.seq (kr [ko 10 (.bin .lss (kt 9) (kt 8))] [2,3,7,8,9,10]) (.seq (.cond (kt 10) .skip (.exit 0)) (.seq (.block 1 (.seq (kr [ko 11 (.move (kt 9)),ko 12 (.indexSl 5 (kt 7) (kt 9)),ko 13 (.load (some 5) (kt 12)),ko 5 (.alloc (Qb 5 (.int .u64 0))),ko 4 (.move (kt 11)),kq (.store 5 (kt 5) (kt 13))] [2,3,4,5,7,8,9]) (.seq (.seq (kr [ko 14 (.move (ki 0))] [2,3,4,5,7,8,9,14]) (.block 2 (.loop Qd2))) (.seq (kr [ko 29 (.move (kt 4)),ko 30 (.bin .rem (kt 29) (ki 64)),ko 31 (.bin .eql (kt 30) (ki 63))] [2,3,7,8,9,31]) (.cond (kt 31) (kr [ko 32 (.load (some 5) (kt 3)),ko 33 (.call 59 [(kt 32)] true),kq (.store 5 (kt 3) (kt 33))] [2,3,7,8,9]) .skip))))) (kr [ko 34 (.bin .add (kt 9) (ki 1)),ko 9 (.move (kt 34))] [2,3,7,8,9]))))
def a62:AFun:=⟨(.seq (kr [ko 2 (.alloc (Qb 5 (.int .u64 0)))] [0,2]) (.seq (kr [ko 3 (.alloc (Qb 5 (.int .u64 0)))] [0,2,3]) (.seq (.seq (kr [ko 7 (.move (kt 0)),ko 8 (.len false (kt 7)),ko 9 (.move (ki 0))] [2,3,7,8,9]) (.block 0 (.loop Qd1))) (.seq (kr [ko 35 (.load (some 5) (kt 3)),ko 36 (.call 59 [(kt 35)] true),kq (.store 5 (kt 2) (kt 36))] [2]) .ret)))),[(2,(some (some 5)))]⟩
def a63:AFun:=⟨(.seq (kr [ko 1 (.box (kt 0)),ko 2 (.move (.const (.bool false)))] [1]) (.seq (kr [ko 3 (.load (some 5) (kt 1)),ko 4 (.call 35 [(kt 3)] true),ko 5 (.build (Qb 32 (.int .u8 0)) []),ko 6 (.eqv (some (Qb 32 true)) false (kt 4) (kt 5)),ko 2 (.move (kt 6))] [2]) .ret)),[(2,none)]⟩
def a64:AFun:=⟨(.seq (kr [ko 1 (.box (kt 0)),ko 2 (.alloc (Qb 5 (.int .u64 0)))] [1,2]) (.seq (kr [ko 3 (.build (Qb 5 (.int .u64 0)) []),ko 4 (.load (some 5) (kt 1)),ko 5 (.call 45 [(kt 3),(kt 4)] true),kq (.store 5 (kt 2) (kt 5))] [2]) .ret)),[(2,(some (some 5)))]⟩
def a75:AFun:=⟨(.seq (kr [ko 6 (.move (.const (.int .u32 0))),ko 7 (.move (.const (.int .u32 0)))] [0,1,2]) (.seq (kr [ko 8 (.move (kt 0)),ko 9 (.move (kt 1)),ko 10 (.bin .sub (kt 8) (kt 9)),ko 11 (.move (kt 2)),ko 12 (.bin .sub (kt 10) (kt 11)),ko 6 (.move (kt 12))] [0,1,6]) (.seq (kr [ko 13 (.move (kt 0)),ko 14 (.un .xor (kt 13)),ko 15 (.move (kt 1)),ko 16 (.bin .and (kt 14) (kt 15)),ko 17 (.move (kt 0)),ko 18 (.move (kt 1)),ko 19 (.bin .xor (kt 17) (kt 18)),ko 20 (.un .xor (kt 19)),ko 21 (.move (kt 6)),ko 22 (.bin .and (kt 20) (kt 21)),ko 23 (.bin .or (kt 16) (kt 22)),ko 24 (.bin .shr (kt 23) (.const (.int .u64 31))),ko 7 (.move (kt 24))] [6,7]) .ret))),[(6,none),(7,none)]⟩
def a76:AFun:=⟨(.seq (kr [ko 6 (.move (.const (.int .u32 0))),ko 7 (.move (.const (.int .u32 0)))] [0,1,2]) (.seq (kr [ko 9 (.move (kt 0)),ko 10 (.conv .u64 (kt 9)),ko 11 (.move (kt 1)),ko 12 (.conv .u64 (kt 11)),ko 13 (.bin .add (kt 10) (kt 12)),ko 14 (.move (kt 2)),ko 15 (.conv .u64 (kt 14)),ko 16 (.bin .add (kt 13) (kt 15)),ko 8 (.move (kt 16))] [8]) (.seq (kr [ko 17 (.move (kt 8)),ko 18 (.conv .u32 (kt 17)),ko 6 (.move (kt 18))] [6,8]) (.seq (kr [ko 19 (.move (kt 8)),ko 20 (.bin .shr (kt 19) (.const (.int .u64 32))),ko 21 (.conv .u32 (kt 20)),ko 7 (.move (kt 21))] [6,7]) .ret)))),[(6,none),(7,none)]⟩
def a77:AFun:=⟨(.seq (kr [ko 4 (.alloc [(.int .u64 0),(.int .u64 0)])] [0,1,4]) (.seq (kr [ko 8 (.move (kt 0)),ko 9 (.move (kt 1)),ko 10 (.call 69 [(kt 8),(kt 9)] true),ko 7 (.move (kt 10)),ko 11 (.extract (kt 7) 0),ko 12 (.extract (kt 7) 1),ko 5 (.move (kt 11)),ko 6 (.move (kt 12))] [4,5,6]) (.seq (kr [ko 13 (.move (kt 5)),ko 14 (.move (kt 6)),ko 15 (.build [(.int .u64 0),(.int .u64 0)] [(0,(1,(kt 13))),(1,(1,(kt 14)))]),kq (.store 2 (kt 4) (kt 15))] [4]) .ret))),[(4,(some (some 2)))]⟩
def a78:AFun:=⟨(.seq (kr [ko 3 (.box (kt 0)),ko 6 (.alloc [(.int .u64 0),(.int .u64 0)])] [1,2,3,6]) (.seq (kr [ko 11 (.move (kt 1)),ko 12 (.move (kt 2)),ko 13 (.call 69 [(kt 11),(kt 12)] true),ko 10 (.move (kt 13)),ko 14 (.extract (kt 10) 0),ko 15 (.extract (kt 10) 1),ko 7 (.move (kt 14)),ko 8 (.move (kt 15))] [3,6,7,8]) (.seq (kr [ko 17 (.fieldAddr 1 (kt 3)),ko 18 (.load none (kt 17)),ko 19 (.move (kt 8)),ko 20 (.call 70 [(kt 18),(kt 19),(.const (.int .u64 0))] true),ko 16 (.move (kt 20)),ko 21 (.extract (kt 16) 0),ko 22 (.extract (kt 16) 1),ko 8 (.move (kt 21)),ko 9 (.move (kt 22))] [3,6,7,8,9]) (.seq (kr [ko 24 (.fieldAddr 0 (kt 3)),ko 25 (.load none (kt 24)),ko 26 (.move (kt 7)),ko 27 (.move (kt 9)),ko 28 (.call 70 [(kt 25),(kt 26),(kt 27)] true),ko 23 (.move (kt 28)),ko 29 (.extract (kt 23) 0),ko 30 (.extract (kt 23) 1),ko 7 (.move (kt 29))] [6,7,8]) (.seq (kr [ko 31 (.move (kt 7)),ko 32 (.move (kt 8)),ko 33 (.build [(.int .u64 0),(.int .u64 0)] [(0,(1,(kt 31))),(1,(1,(kt 32)))]),kq (.store 2 (kt 6) (kt 33))] [6]) .ret))))),[(6,(some (some 2)))]⟩
def a79:AFun:=⟨(.seq (kr [ko 1 (.box (kt 0)),ko 2 (.move (.const (.int .u64 0))),ko 3 (.move (.const (.int .u64 0)))] [1]) (.seq (kr [ko 4 (.fieldAddr 0 (kt 1)),ko 5 (.load none (kt 4)),ko 6 (.bin .shl (kt 5) (.const (.int .u64 13))),ko 7 (.fieldAddr 1 (kt 1)),ko 8 (.load none (kt 7)),ko 9 (.bin .shr (kt 8) (.const (.int .u64 51))),ko 10 (.bin .or (kt 6) (kt 9)),ko 11 (.fieldAddr 1 (kt 1)),ko 12 (.load none (kt 11)),ko 13 (.bin .and (kt 12) (.const (.int .u64 2251799813685247))),ko 2 (.move (kt 10)),ko 3 (.move (kt 13))] [2,3]) .ret)),[(2,none),(3,none)]⟩
def a80:AFun:=⟨(.seq (kr [ko 2 (.box (kt 0)),ko 4 (.alloc [(.int .u64 0),(.int .u64 0)])] [1,2,4]) (.seq (kr [ko 8 (.fieldAddr 1 (kt 2)),ko 9 (.load none (kt 8)),ko 10 (.move (kt 1)),ko 11 (.call 70 [(kt 9),(kt 10),(.const (.int .u64 0))] true),ko 7 (.move (kt 11)),ko 12 (.extract (kt 7) 0),ko 13 (.extract (kt 7) 1),ko 5 (.move (kt 12)),ko 6 (.move (kt 13))] [2,4,5,6]) (.seq (kr [ko 14 (.fieldAddr 0 (kt 2)),ko 15 (.load none (kt 14)),ko 16 (.move (kt 6)),ko 17 (.bin .add (kt 15) (kt 16)),ko 18 (.move (kt 5)),ko 19 (.build [(.int .u64 0),(.int .u64 0)] [(0,(1,(kt 17))),(1,(1,(kt 18)))]),kq (.store 2 (kt 4) (kt 19))] [4]) .ret))),[(4,(some (some 2)))]⟩
def Qrw:ACode:=(.seq (kr [ko 6 (.bin .lss (kt 5) (ki 5))] [1,2,3,5,6]) (.seq (.cond (kt 6) .skip (.exit 0)) (.seq (.block 1 (.seq (kr [ko 7 (.move (kt 5)),ko 4 (.move (kt 7))] [1,2,3,4,5]) (.seq (kr [ko 8 (.move (kt 4)),ko 9 (.fieldAddr 0 (kt 1)),ko 10 (.indexAddr 5 1 (kt 9) (kt 8)),ko 11 (.load none (kt 10)),ko 12 (.move (kt 3)),ko 13 (.bin .add (kt 11) (kt 12)),ko 14 (.fieldAddr 0 (kt 1)),ko 15 (.indexAddr 5 1 (kt 14) (kt 8)),kq (.store 1 (kt 15) (kt 13))] [1,2,4,5]) (.seq (kr [ko 16 (.move (kt 4)),ko 17 (.fieldAddr 0 (kt 1)),ko 18 (.indexAddr 5 1 (kt 17) (kt 16)),ko 19 (.load none (kt 18)),ko 20 (.bin .shr (kt 19) (.const (.int .u64 51))),ko 3 (.move (kt 20))] [1,2,3,4,5]) (kr [ko 21 (.move (kt 4)),ko 22 (.fieldAddr 0 (kt 1)),ko 23 (.indexAddr 5 1 (kt 22) (kt 21)),ko 24 (.load none (kt 23)),ko 25 (.bin .and (kt 24) (.const (.int .u64 2251799813685247))),ko 26 (.fieldAddr 0 (kt 1)),ko 27 (.indexAddr 5 1 (kt 26) (kt 21)),kq (.store 1 (kt 27) (kt 25))] [1,2,3,5]))))) (kr [ko 28 (.bin .add (kt 5) (ki 1)),ko 5 (.move (kt 28))] [1,2,3,5]))))
def a81:AFun:=⟨(.seq (kr [ko 1 (.box (kt 0)),ko 2 (.alloc (Qb 5 (.int .u64 0)))] [1,2]) (.seq (kr [ko 3 (.move (.const (.int .u64 0)))] [1,2,3]) (.seq (.seq (kr [ko 5 (.move (ki 0))] [1,2,3,5]) (.block 0 (.loop Qrw))) (.seq (kr [ko 29 (.fieldAddr 0 (kt 1)),ko 30 (.indexAddr 5 1 (kt 29) (ki 0)),ko 31 (.load none (kt 30)),ko 32 (.move (kt 3)),ko 33 (.bin .mul (.const (.int .u64 19)) (kt 32)),ko 34 (.bin .add (kt 31) (kt 33)),ko 35 (.fieldAddr 0 (kt 1)),ko 36 (.indexAddr 5 1 (kt 35) (ki 0)),kq (.store 1 (kt 36) (kt 34))] [1,2]) (.seq (kr [ko 37 (.load (some 5) (kt 1)),kq (.store 5 (kt 2) (kt 37))] [2]) .ret))))),[(2,(some (some 5)))]⟩
def Qd0:ACode:=(.seq (kr [ko 10 (.bin .lss (kt 9) (kt 8))] [2,3,7,8,9,10]) (.seq (.cond (kt 10) .skip (.exit 0)) (.seq (.block 1 (.seq (kr [ko 11 (.indexSl 5 (kt 7) (kt 9)),ko 12 (.load (some 5) (kt 11)),ko 5 (.alloc (Qb 5 (.int .u64 0))),kq (.store 5 (kt 5) (kt 12))] [2,3,5,7,8,9]) (kr [ko 13 (.load (some 5) (kt 3)),ko 14 (.load (some 5) (kt 5)),ko 15 (.call 29 [(kt 13),(kt 14)] true),kq (.store 5 (kt 3) (kt 15))] [2,3,7,8,9]))) (kr [ko 16 (.bin .add (kt 9) (ki 1)),ko 9 (.move (kt 16))] [2,3,7,8,9]))))
def a82:AFun:=⟨(.seq (kr [ko 2 (.alloc (Qb 5 (.int .u64 0)))] [0,2]) (.seq (kr [ko 6 (.call 28 [(.const (.int .u32 1))] true),ko 3 (.alloc (Qb 5 (.int .u64 0))),kq (.store 5 (kt 3) (kt 6))] [0,2,3]) (.seq (.seq (kr [ko 7 (.move (kt 0)),ko 8 (.len false (kt 7)),ko 9 (.move (ki 0))] [2,3,7,8,9]) (.block 0 (.loop Qd0))) (.seq (kr [ko 17 (.load (some 5) (kt 3)),kq (.store 5 (kt 2) (kt 17))] [2]) .ret)))),[(2,(some (some 5)))]⟩
def Qbj:ACode:=(.seq (.seq (kr [ko 8 (.move (kt 6)),ko 9 (.bin .geq (kt 8) (ki 0))] [2,3,4,5,6,9]) (.cond (kt 9) .skip (.exit 0))) (.seq (.block 1 (.seq (kr [ko 12 (.load (some 5) (kt 5)),ko 13 (.load (some 5) (kt 5)),ko 14 (.call 29 [(kt 12),(kt 13)] true),kq (.store 5 (kt 5) (kt 14))] [2,3,4,5,6]) (.seq (kr [ko 15 (.move (kt 6)),ko 16 (.bin .quo (kt 15) (ki 8)),ko 17 (.indexAddr 32 1 (kt 3) (kt 16)),ko 18 (.load none (kt 17)),ko 19 (.move (kt 6)),ko 20 (.bin .rem (kt 19) (ki 8)),ko 21 (.bin .shr (kt 18) (kt 20)),ko 22 (.bin .and (kt 21) (.const (.int .u8 1))),ko 23 (.bin .eql (kt 22) (.const (.int .u8 1)))] [2,3,4,5,6,23]) (.cond (kt 23) (kr [ko 24 (.load (some 5) (kt 5)),ko 25 (.load (some 5) (kt 2)),ko 26 (.call 29 [(kt 24),(kt 25)] true),kq (.store 5 (kt 5) (kt 26))] [2,3,4,5,6]) .skip)))) (kr [ko 10 (.move (kt 6)),ko 11 (.bin .sub (kt 10) (ki 1)),ko 6 (.move (kt 11))] [2,3,4,5,6])))
def a83:AFun:=⟨(.seq (kr [ko 2 (.box (kt 0)),ko 3 (.box (kt 1)),ko 4 (.alloc (Qb 5 (.int .u64 0)))] [2,3,4]) (.seq (kr [ko 7 (.call 28 [(.const (.int .u32 1))] true),ko 5 (.alloc (Qb 5 (.int .u64 0))),kq (.store 5 (kt 5) (kt 7))] [2,3,4,5]) (.seq (.seq (kr [ko 6 (.move (ki 255))] [2,3,4,5,6]) (.block 0 (.loop Qbj))) (.seq (kr [ko 27 (.load (some 5) (kt 5)),kq (.store 5 (kt 4) (kt 27))] [4]) .ret)))),[(4,(some (some 5)))]⟩
def Qdz:ACode:=(.seq (kr [ko 9 (.bin .lss (kt 8) (kt 7))] [1,4,5,7,8,9]) (.seq (.cond (kt 9) .skip (.exit 0)) (.seq (.block 1 (.seq (kr [ko 10 (.move (kt 8)),ko 6 (.move (kt 10))] [1,4,5,6,7,8]) (kr [ko 11 (.move (kt 6)),ko 12 (.bin .quo (kt 11) (ki 8)),ko 13 (.indexAddr 32 1 (kt 5) (kt 12)),ko 14 (.load none (kt 13)),ko 15 (.move (kt 6)),ko 16 (.bin .rem (kt 15) (ki 8)),ko 17 (.bin .shl (.const (.int .u8 1)) (kt 16)),ko 18 (.bin .or (kt 14) (kt 17)),ko 19 (.indexAddr 32 1 (kt 5) (kt 12)),kq (.store 1 (kt 19) (kt 18))] [1,4,5,7,8]))) (kr [ko 20 (.bin .add (kt 8) (ki 1)),ko 8 (.move (kt 20))] [1,4,5,7,8]))))
def a84:AFun:=⟨(.seq (kr [ko 4 (.alloc (Qb 32 (.int .u8 0)))] [0,1,4]) (.seq (kr [ko 5 (.alloc (Qb 32 (.int .u8 0)))] [0,1,4,5]) (.seq (.seq (kr [ko 7 (.move (kt 0)),ko 8 (.move (ki 0))] [1,4,5,7,8]) (.block 0 (.loop Qdz))) (.seq (kr [ko 21 (.indexAddr 32 1 (kt 5) (ki 0)),ko 22 (.load none (kt 21)),ko 23 (.move (kt 1)),ko 24 (.bin .sub (kt 22) (kt 23)),ko 25 (.indexAddr 32 1 (kt 5) (ki 0)),kq (.store 1 (kt 25) (kt 24))] [4,5]) (.seq (kr [ko 26 (.load (some 32) (kt 5)),kq (.store 32 (kt 4) (kt 26))] [4]) .ret))))),[(4,(some (some 32)))]⟩
def a91:AFun:=⟨(.seq (kr [ko 4 (.move (.const (.int .u64 0))),ko 5 (.move (.const (.int .u64 0)))] [0,1]) (.seq (kr [ko 14 (.move (kt 0)),ko 15 (.bin .and (kt 14) (.const (.int .u64 4294967295))),ko 6 (.move (kt 15))] [0,1,6]) (.seq (kr [ko 16 (.move (kt 0)),ko 17 (.bin .shr (kt 16) (.const (.int .u64 32))),ko 7 (.move (kt 17))] [0,1,6,7]) (.seq (kr [ko 18 (.move (kt 1)),ko 19 (.bin .and (kt 18) (.const (.int .u64 4294967295))),ko 8 (.move (kt 19))] [0,1,6,7,8]) (.seq (kr [ko 20 (.move (kt 1)),ko 21 (.bin .shr (kt 20) (.const (.int .u64 32))),ko 9 (.move (kt 21))] [0,1,6,7,8,9]) (.seq (kr [ko 22 (.move (kt 6)),ko 23 (.move (kt 8)),ko 24 (.bin .mul (kt 22) (kt 23)),ko 10 (.move (kt 24))] [0,1,6,7,8,9,10]) (.seq (kr [ko 25 (.move (kt 7)),ko 26 (.move (kt 8)),ko 27 (.bin .mul (kt 25) (kt 26)),ko 28 (.move (kt 10)),ko 29 (.bin .shr (kt 28) (.const (.int .u64 32))),ko 30 (.bin .add (kt 27) (kt 29)),ko 11 (.move (kt 30))] [0,1,6,7,9,11]) (.seq (kr [ko 31 (.move (kt 11)),ko 32 (.bin .and (kt 31) (.const (.int .u64 4294967295))),ko 12 (.move (kt 32))] [0,1,6,7,9,11,12]) (.seq (kr [ko 33 (.move (kt 11)),ko 34 (.bin .shr (kt 33) (.const (.int .u64 32))),ko 13 (.move (kt 34))] [0,1,6,7,9,12,13]) (.seq (kr [ko 35 (.move (kt 12)),ko 36 (.move (kt 6)),ko 37 (.move (kt 9)),ko 38 (.bin .mul (kt 36) (kt 37)),ko 39 (.bin .add (kt 35) (kt 38)),ko 12 (.move (kt 39))] [0,1,7,9,12,13]) (.seq (kr [ko 40 (.move (kt 7)),ko 41 (.move (kt 9)),ko 42 (.bin .mul (kt 40) (kt 41)),ko 43 (.move (kt 13)),ko 44 (.bin .add (kt 42) (kt 43)),ko 45 (.move (kt 12)),ko 46 (.bin .shr (kt 45) (.const (.int .u64 32))),ko 47 (.bin .add (kt 44) (kt 46)),ko 4 (.move (kt 47))] [0,1,4]) (.seq (kr [ko 48 (.move (kt 0)),ko 49 (.move (kt 1)),ko 50 (.bin .mul (kt 48) (kt 49)),ko 5 (.move (kt 50))] [4,5]) .ret)))))))))))),[(4,none),(5,none)]⟩
def Rv:ACode:=(.seq (kr [ko 18 (.bin .lss (kt 17) (kt 16))] [1,2,5,15,16,17,18]) (.seq (.cond (kt 18) .skip (.exit 0)) (.seq (.block 1 (.seq (kr [ko 19 (.indexSl 1 (kt 15) (kt 17)),ko 20 (.load none (kt 19)),ko 7 (.move (kt 20))] [1,2,5,7,15,16,17]) (kr [ko 21 (.move (kt 5)),ko 22 (.move (kt 7)),ko 23 (.append 1 1 (kt 21) (kt 22)),ko 5 (.move (kt 23))] [1,2,5,15,16,17]))) (kr [ko 24 (.bin .add (kt 17) (ki 1)),ko 17 (.move (kt 24))] [1,2,5,15,16,17]))))
def Qjg:AFun:=⟨(.seq (kr [ko 2 (.box (kt 0)),ko 4 (.move (.const (.bool false)))] [1,2]) (.seq (.seq (kr [ko 10 (.call 7 [] true),ko 11 (.un .not (kt 10))] [1,2,11]) (.cond (kt 11) (.seq (kr [ko 4 (.move (.const (.bool false)))] [4]) .ret) .skip)) (.seq (.seq (kr [ko 12 (.move (kt 1)),ko 13 (.len false (kt 12)),ko 14 (.bin .gtr (kt 13) (ki 8))] [1,2,14]) (.cond (kt 14) (.seq (kr [ko 4 (.move (.const (.bool true)))] [4]) .ret) .skip)) (.seq (kr [ko 5 (.move (.const (.slice none 0 0)))] [1,2,5]) (.seq (.seq (kr [ko 15 (.move (kt 1)),ko 16 (.len false (kt 15)),ko 17 (.move (ki 0))] [1,2,5,15,16,17]) (.block 0 (.loop Rv))) (.seq (.seq (kr [ko 25 (.move (kt 5)),ko 26 (.len false (kt 25)),ko 27 (.bin .gtr (kt 26) (ki 2000))] [1,2,5,27]) (.cond (kt 27) (.seq (kr [ko 4 (.move (.const (.bool true)))] [4]) .ret) .skip)) (.seq (kr [ko 28 (.load (some 32) (kt 2)),ko 29 (.move (kt 1)),ko 30 (.call 8 [(kt 28),(kt 29)] false),ko 8 (.alloc (Qb 64 (.int .u8 0))),kq (.store 64 (kt 8) (kt 30))] [1,2,5,8]) (.seq (kr [ko 31 (.sliceArr 64 1 (kt 8) (some (ki 32)) none none),ko 32 (.s2ap 32 (kt 31)),ko 33 (.load (some 32) (kt 32)),ko 9 (.alloc (Qb 32 (.int .u8 0))),kq (.store 32 (kt 9) (kt 33))] [1,2,5,8,9]) (.seq (.region [ko 34 (.load (some 64) (kt 8)),ko 35 (.load (some 32) (kt 2)),ko 36 (.move (kt 5)),ko 37 (.buildSlice [(.slice none 0 0)] 1 [(0,(1,(kt 36)))]),ko 38 (.call 8 [(kt 35),(kt 37)] false),ko 39 (.eqv (some (Qb 64 true)) false (kt 34) (kt 38)),ko 40 (.move (kt 39)),.mk (some 41) (.load (some 32) (kt 2)) (some (40,true)),.mk (some 42) (.call 10 [(kt 41)] true) (some (40,true)),.mk (some 43) (.load (some 64) (kt 8)) (some (40,true)),.mk (some 44) (.move (kt 1)) (some (40,true)),.mk (some 45) (.call 9 [(kt 42),(kt 43),(kt 44)] false) (some (40,true)),.mk (some 46) (.bin .eql (kt 45) (ki 0)) (some (40,true)),ko 47 (.pick (kt 40) (kt 46) (.const (.bool false))),ko 48 (.move (kt 47)),.mk (some 49) (.load (some 32) (kt 9)) (some (48,true)),.mk (some 50) (.call 12 [(kt 49)] true) (some (48,true)),ko 51 (.pick (kt 48) (kt 50) (.const (.bool false))),ko 4 (.move (kt 51))] (some [4]) [(0,4)]) .ret))))))))),[(4,none)]⟩
def Qvj:AFun:=⟨(.seq (kr [ko 0 (.move (.const (.bool false)))] []) (.seq (kr [ko 3 (.build (Qb 32 (.int .u8 0)) [(0,(1,(.const (.int .u8 1))))]),ko 4 (.buildSlice [(.int .u8 0)] 1 [(0,(1,(.const (.int .u8 97))))]),ko 5 (.convSl (kt 4)),ko 6 (.buildSlice [(.int .u8 0)] 1 [(0,(1,(.const (.int .u8 98))))]),ko 7 (.convSl (kt 6)),ko 8 (.buildSlice [(.slice none 0 0),(.slice none 0 0)] 2 [(0,(1,(kt 5))),(1,(1,(kt 7)))]),ko 9 (.call 8 [(kt 3),(kt 8)] false),ko 1 (.alloc (Qb 64 (.int .u8 0))),kq (.store 64 (kt 1) (kt 9))] [1]) (.seq (kr [ko 10 (.build (Qb 32 (.int .u8 0)) [(0,(1,(.const (.int .u8 1))))]),ko 11 (.call 10 [(kt 10)] true),ko 2 (.alloc (Qb 32 (.int .u8 0))),kq (.store 32 (kt 2) (kt 11))] [1,2]) (.seq (kr [ko 12 (.load (some 32) (kt 2)),ko 13 (.load (some 64) (kt 1)),ko 14 (.buildSlice [(.int .u8 0),(.int .u8 0)] 2 [(0,(1,(.const (.int .u8 97)))),(1,(1,(.const (.int .u8 98))))]),ko 15 (.convSl (kt 14)),ko 16 (.buildSlice [(.slice none 0 0)] 1 [(0,(1,(kt 15)))]),ko 17 (.call 9 [(kt 12),(kt 13),(kt 16)] false),ko 18 (.bin .eql (kt 17) (ki 0)),ko 19 (.move (kt 18)),.mk (some 20) (.load (some 32) (kt 2)) (some (19,true)),.mk (some 21) (.load (some 64) (kt 1)) (some (19,true)),.mk (some 22) (.buildSlice [(.int .u8 0),(.int .u8 0)] 2 [(0,(1,(.const (.int .u8 97)))),(1,(1,(.const (.int .u8 99))))]) (some (19,true)),.mk (some 23) (.convSl (kt 22)) (some (19,true)),.mk (some 24) (.buildSlice [(.slice none 0 0)] 1 [(0,(1,(kt 23)))]) (some (19,true)),.mk (some 25) (.call 9 [(kt 20),(kt 21),(kt 24)] false) (some (19,true)),.mk (some 26) (.bin .eql (kt 25) (ki 70)) (some (19,true)),ko 27 (.pick (kt 19) (kt 26) (.const (.bool false))),ko 0 (.move (kt 27))] [0]) .ret)))),[(0,none)]⟩
def Qvi:AFun:=⟨(.seq (kr [ko 2 (.box (kt 0)),ko 4 (.alloc (Qb 64 (.int .u8 0)))] [1,2,4]) (.seq (kr [ko 11 (.load (some 32) (kt 2)),ko 12 (.call 13 [(kt 11)] true),ko 5 (.alloc (Qb 64 (.int .u8 0))),kq (.store 64 (kt 5) (kt 12))] [1,4,5]) (.seq (kr [ko 13 (.call 14 [] true),ko 14 (.fieldAddr 0 (kt 5)),ko 15 (.load (some 32) (kt 14)),ko 16 (.call 15 [(kt 13),(kt 15)] true),ko 17 (.call 16 [(kt 16)] true),ko 6 (.alloc (Qb 32 (.int .u8 0))),kq (.store 32 (kt 6) (kt 17))] [1,4,5,6]) (.seq (kr [ko 18 (.fieldAddr 32 (kt 5)),ko 19 (.sliceArr 32 1 (kt 18) none none none),ko 20 (.buildSlice [(.slice none 0 0)] 1 [(0,(1,(kt 19)))]),ko 21 (.move (kt 1)),ko 22 (.append 1 24 (kt 20) (kt 21)),ko 23 (.call 17 [(kt 22)] false),ko 7 (.alloc (Qb 32 (.int .u8 0))),kq (.store 32 (kt 7) (kt 23))] [1,4,5,6,7]) (.seq (kr [ko 24 (.call 14 [] true),ko 25 (.load (some 32) (kt 7)),ko 26 (.call 15 [(kt 24),(kt 25)] true),ko 27 (.call 16 [(kt 26)] true),ko 8 (.alloc (Qb 32 (.int .u8 0))),kq (.store 32 (kt 8) (kt 27))] [1,4,5,6,7,8]) (.seq (kr [ko 28 (.sliceArr 32 1 (kt 8) none none none),ko 29 (.sliceArr 32 1 (kt 6) none none none),ko 30 (.buildSlice [(.slice none 0 0),(.slice none 0 0)] 2 [(0,(1,(kt 28))),(1,(1,(kt 29)))]),ko 31 (.move (kt 1)),ko 32 (.append 1 24 (kt 30) (kt 31)),ko 33 (.call 17 [(kt 32)] false),ko 9 (.alloc (Qb 32 (.int .u8 0))),kq (.store 32 (kt 9) (kt 33))] [4,5,7,8,9]) (.seq (kr [ko 34 (.load (some 32) (kt 9)),ko 35 (.fieldAddr 0 (kt 5)),ko 36 (.load (some 32) (kt 35)),ko 37 (.load (some 32) (kt 7)),ko 38 (.call 18 [(kt 34),(kt 36),(kt 37)] true),ko 10 (.alloc (Qb 32 (.int .u8 0))),kq (.store 32 (kt 10) (kt 38))] [4,8,10]) (.seq (kr [ko 39 (.sliceArr 32 1 (kt 8) none none none),ko 40 (.sliceArr 32 1 (kt 10) none none none),ko 41 (.append 1 1 (kt 39) (kt 40)),ko 42 (.s2ap 64 (kt 41)),ko 43 (.load (some 64) (kt 42)),kq (.store 64 (kt 4) (kt 43))] [4]) .ret)))))))),[(4,(some (some 64)))]⟩
def Qaq:AFun:=⟨(.seq (kr [ko 3 (.box (kt 0)),ko 4 (.box (kt 1)),ko 6 (.move (ki 0))] [2,3,4]) (.seq (kr [ko 15 (.load (some 32) (kt 3)),ko 16 (.call 19 [(kt 15)] true),ko 14 (.move (kt 16)),ko 17 (.extract (kt 14) 0),ko 18 (.extract (kt 14) 1),ko 7 (.alloc (Qb 20 (.int .u64 0))),kq (.store 20 (kt 7) (kt 17)),ko 8 (.move (kt 18))] [2,3,4,7,8]) (.seq (.seq (kr [ko 19 (.move (kt 8)),ko 20 (.bin .neq (kt 19) (ki 0))] [2,3,4,7,8,20]) (.cond (kt 20) (.seq (kr [ko 21 (.move (kt 8)),ko 6 (.move (kt 21))] [6]) .ret) .skip)) (.seq (kr [ko 22 (.sliceArr 64 1 (kt 4) none (some (ki 32)) none),ko 23 (.s2ap 32 (kt 22)),ko 24 (.load (some 32) (kt 23)),ko 25 (.sliceArr 64 1 (kt 4) (some (ki 32)) none none),ko 26 (.s2ap 32 (kt 25)),ko 27 (.load (some 32) (kt 26)),ko 9 (.alloc (Qb 32 (.int .u8 0))),ko 10 (.alloc (Qb 32 (.int .u8 0))),kq (.store 32 (kt 9) (kt 24)),kq (.store 32 (kt 10) (kt 27))] [2,3,7,9,10]) (.seq (.seq (kr [ko 28 (.load (some 20) (kt 7)),ko 29 (.call 20 [(kt 28)] true),ko 30 (.move (kt 29)),.mk (some 31) (.load (some 32) (kt 10)) (some (30,false)),.mk (some 32) (.call 21 [(kt 31)] true) (some (30,false)),.mk (some 33) (.un .not (kt 32)) (some (30,false)),ko 34 (.pick (kt 30) (.const (.bool true)) (kt 33))] [2,3,7,9,10,34]) (.cond (kt 34) (.seq (kr [ko 6 (.move (ki 70))] [6]) .ret) .skip)) (.seq (.seq (kr [ko 36 (.load (some 32) (kt 9)),ko 37 (.call 19 [(kt 36)] true),ko 35 (.move (kt 37)),ko 38 (.extract (kt 35) 0),ko 39 (.extract (kt 35) 1),ko 11 (.alloc (Qb 20 (.int .u64 0))),kq (.store 20 (kt 11) (kt 38)),ko 12 (.move (kt 39))] [2,3,7,9,10,12]) (.seq (kr [ko 40 (.move (kt 12)),ko 41 (.bin .neq (kt 40) (ki 0))] [2,3,7,9,10,41]) (.cond (kt 41) (.seq (kr [ko 6 (.move (ki 70))] [6]) .ret) .skip))) (.seq (kr [ko 42 (.sliceArr 32 1 (kt 9) none none none),ko 43 (.sliceArr 32 1 (kt 3) none none none),ko 44 (.buildSlice [(.slice none 0 0),(.slice none 0 0)] 2 [(0,(1,(kt 42))),(1,(1,(kt 43)))]),ko 45 (.move (kt 2)),ko 46 (.append 1 24 (kt 44) (kt 45)),ko 47 (.call 17 [(kt 46)] false),ko 13 (.alloc (Qb 32 (.int .u8 0))),kq (.store 32 (kt 13) (kt 47))] [7,9,10,13]) (.seq (.seq (.region [ko 48 (.call 14 [] true),ko 49 (.load (some 32) (kt 10)),ko 50 (.call 15 [(kt 48),(kt 49)] true),ko 51 (.load (some 20) (kt 7)),ko 52 (.call 23 [(kt 51)] true),ko 53 (.load (some 32) (kt 13)),ko 54 (.call 15 [(kt 52),(kt 53)] true),ko 55 (.buildSlice (Qb 40 (.int .u64 0)) 2 [(0,(20,(kt 50))),(20,(20,(kt 54)))]),ko 56 (.call 22 [(kt 55)] false),ko 57 (.call 16 [(kt 56)] true),ko 58 (.load (some 32) (kt 9)),ko 59 (.eqv (some (Qb 32 true)) true (kt 57) (kt 58))] (some [59]) [(8,10)]) (.cond (kt 59) (.seq (kr [ko 6 (.move (ki 70))] [6]) .ret) .skip)) (.seq (kr [ko 6 (.move (ki 0))] [6]) .ret))))))))),[(6,none)]⟩
def Qvh:AFun:=⟨(.seq (kr [ko 1 (.box (kt 0)),ko 2 (.alloc (Qb 32 (.int .u8 0)))] [1,2]) (.seq (kr [ko 3 (.call 14 [] true),ko 4 (.load (some 32) (kt 1)),ko 5 (.call 13 [(kt 4)] true),ko 6 (.field (some 32) 0 (kt 5)),ko 7 (.call 15 [(kt 3),(kt 6)] true),ko 8 (.call 16 [(kt 7)] true),kq (.store 32 (kt 2) (kt 8))] [2]) .ret)),[(2,(some (some 32)))]⟩
def Qvg:AFun:=⟨(.seq (kr [ko 1 (.box (kt 0)),ko 2 (.alloc (Qb 64 (.int .u8 0)))] [1,2]) (.seq (kr [ko 4 (.sliceArr 32 1 (kt 1) none none none),ko 5 (.buildSlice [(.slice none 0 0)] 1 [(0,(1,(kt 4)))]),ko 6 (.call 25 [(kt 5)] false),ko 3 (.alloc (Qb 64 (.int .u8 0))),kq (.store 64 (kt 3) (kt 6))] [2,3]) (.seq (kr [ko 7 (.sliceArr 64 1 (kt 3) none (some (ki 32)) none),ko 8 (.s2ap 32 (kt 7)),ko 9 (.load (some 32) (kt 8)),ko 10 (.call 26 [(kt 9)] true),ko 11 (.sliceArr 64 1 (kt 3) (some (ki 32)) none none),ko 12 (.s2ap 32 (kt 11)),ko 13 (.load (some 32) (kt 12)),ko 14 (.build (Qb 64 (.int .u8 0)) [(0,(32,(kt 10))),(32,(32,(kt 13)))]),kq (.store 64 (kt 2) (kt 14))] [2]) .ret))),[(2,(some (some 64)))]⟩
def Qvf:AFun:=⟨(.seq (kr [ko 2 (.alloc (Qb 32 (.int .u8 0)))] [0,2]) (.seq (kr [ko 4 (.move (kt 0)),ko 5 (.call 25 [(kt 4)] false),ko 3 (.alloc (Qb 64 (.int .u8 0))),kq (.store 64 (kt 3) (kt 5))] [2,3]) (.seq (kr [ko 6 (.sliceArr 64 1 (kt 3) none none none),ko 7 (.buildSlice [(.slice none 0 0)] 1 [(0,(1,(kt 6)))]),ko 8 (.call 37 [(kt 7)] false),kq (.store 32 (kt 2) (kt 8))] [2]) .ret))),[(2,(some (some 32)))]⟩
def Qve:AFun:=⟨(.seq (kr [ko 2 (.alloc (Qb 64 (.int .u8 0)))] [0,2]) (.seq (kr [ko 4 (.call 52 [] false),ko 3 (.move (kt 4))] [0,2,3]) (.seq (kr [ko 5 (.move (kt 3)),ko 6 (.move (kt 0)),ko 7 (.call 53 [(kt 5),(kt 6)] false)] [2,3]) (.seq (kr [ko 8 (.move (kt 3)),ko 9 (.call 54 [(kt 8)] false),kq (.store 64 (kt 2) (kt 9))] [2]) .ret)))),[(2,(some (some 64)))]⟩
def Qvd:AFun:=⟨(.seq (kr [ko 0 (.move (.const (.pointer none)))] []) (.seq (kr [ko 1 (.build (Qb 8 (.int .u64 0)) [(0,(1,(.const (.int .u64 7640891576956012808)))),(1,(1,(.const (.int .u64 13503953896175478587)))),(2,(1,(.const (.int .u64 4354685564936845355)))),(3,(1,(.const (.int .u64 11912009170470909681)))),(4,(1,(.const (.int .u64 5840696475078001361)))),(5,(1,(.const (.int .u64 11170449401992604703)))),(6,(1,(.const (.int .u64 2270897969802886507)))),(7,(1,(.const (.int .u64 6620516959819538809))))]),ko 2 (.build [(.slice none 0 0),(.int .u64 0),(.int .u64 0),(.int .u64 0),(.int .u64 0),(.int .u64 0),(.int .u64 0),(.int .u64 0),(.int .u64 0),(.int .u64 0)] [(2,(8,(kt 1)))]),ko 3 (.box (kt 2)),ko 0 (.move (kt 3))] [0]) .ret)),[(0,none)]⟩
def Qap:ACode:=(.seq (kr [ko 9 (.bin .lss (kt 8) (kt 7))] [0,6,7,8,9]) (.seq (.cond (kt 9) .skip (.exit 0)) (.seq (.block 1 (.seq (kr [ko 10 (.indexSl 1 (kt 6) (kt 8)),ko 11 (.load none (kt 10)),ko 5 (.move (kt 11))] [0,5,6,7,8]) (kr [ko 12 (.move (kt 0)),ko 13 (.nilCheck (kt 12)),ko 14 (.fieldAddr 0 (kt 13)),ko 15 (.move (kt 5)),ko 16 (.move (kt 0)),ko 17 (.mkFunc (.func 67) [(kt 16)] []),ko 18 (.call 66 [(kt 14),(ki 128),(kt 15),(kt 17)] false)] [0,6,7,8]))) (kr [ko 19 (.bin .add (kt 8) (ki 1)),ko 8 (.move (kt 19))] [0,6,7,8]))))
def Qvc:AFun:=⟨(.seq (kr [ko 6 (.move (kt 1)),ko 7 (.len false (kt 6)),ko 8 (.move (ki 0))] [0,6,7,8]) (.block 0 (.loop Qap))),[]⟩
def Qao:ACode:=(.seq (kr [ko 33 (.bin .lss (kt 32) (ki 64))] [2,3,4,32,33]) (.seq (.cond (kt 33) .skip (.exit 0)) (.seq (.block 1 (.seq (kr [ko 34 (.move (kt 32)),ko 5 (.move (kt 34))] [2,3,4,5,32]) (kr [ko 35 (.move (kt 5)),ko 36 (.move (kt 3)),ko 37 (.move (kt 5)),ko 38 (.bin .quo (kt 37) (ki 8)),ko 39 (.nilCheck (kt 36)),ko 40 (.fieldAddr 2 (kt 39)),ko 41 (.indexAddr 8 1 (kt 40) (kt 38)),ko 42 (.load none (kt 41)),ko 43 (.move (kt 5)),ko 44 (.bin .rem (kt 43) (ki 8)),ko 45 (.bin .mul (ki 8) (kt 44)),ko 46 (.bin .sub (ki 56) (kt 45)),ko 47 (.bin .shr (kt 42) (kt 46)),ko 48 (.conv .u8 (kt 47)),ko 49 (.indexAddr 64 1 (kt 4) (kt 35)),kq (.store 1 (kt 49) (kt 48))] [2,3,4,32]))) (kr [ko 50 (.bin .add (kt 32) (ki 1)),ko 32 (.move (kt 50))] [2,3,4,32]))))
def Qvb:AFun:=⟨(.seq (kr [ko 2 (.alloc (Qb 64 (.int .u8 0)))] [0,2]) (.seq (.region [ko 6 (.buildSlice [] 0 []),ko 7 (.move (kt 0)),ko 8 (.nilCheck (kt 7)),ko 9 (.fieldAddr 0 (kt 8)),ko 10 (.fieldAddr 0 (kt 9)),ko 11 (.load none (kt 10)),ko 12 (.append 1 1 (kt 6) (kt 11)),ko 13 (.move (kt 0)),ko 14 (.nilCheck (kt 13)),ko 15 (.fieldAddr 0 (kt 14)),ko 16 (.fieldAddr 1 (kt 15)),ko 17 (.load none (kt 16)),ko 18 (.build [(.slice none 0 0),(.int .u64 0)] [(0,(1,(kt 12))),(1,(1,(kt 17)))]),ko 19 (.move (kt 0)),ko 20 (.nilCheck (kt 19)),ko 21 (.fieldAddr 2 (kt 20)),ko 22 (.load (some 8) (kt 21)),ko 23 (.build [(.slice none 0 0),(.int .u64 0),(.int .u64 0),(.int .u64 0),(.int .u64 0),(.int .u64 0),(.int .u64 0),(.int .u64 0),(.int .u64 0),(.int .u64 0)] [(0,(2,(kt 18))),(2,(8,(kt 22)))]),ko 24 (.box (kt 23)),ko 3 (.move (kt 24))] (some [0,2,3]) [(6,11),(6,16)]) (.seq (kr [ko 25 (.move (kt 3)),ko 26 (.move (kt 0)),ko 27 (.nilCheck (kt 26)),ko 28 (.fieldAddr 0 (kt 27)),ko 29 (.call 68 [(kt 28),(ki 128),(ki 16)] false),ko 30 (.buildSlice [(.slice none 0 0)] 1 [(0,(1,(kt 29)))]),ko 31 (.call 53 [(kt 25),(kt 30)] false)] [2,3]) (.seq (kr [ko 4 (.alloc (Qb 64 (.int .u8 0)))] [2,3,4]) (.seq (.seq (kr [ko 32 (.move (ki 0))] [2,3,4,32]) (.block 0 (.loop Qao))) (.seq (kr [ko 51 (.load (some 64) (kt 4)),kq (.store 64 (kt 2) (kt 51))] [2]) .ret)))))),[(2,(some (some 64)))]⟩
def Qan:ACode:=(.seq (.seq (kr [ko 27 (.move (kt 0)),ko 28 (.nilCheck (kt 27)),ko 29 (.fieldAddr 0 (kt 28)),ko 30 (.load none (kt 29)),ko 31 (.len false (kt 30)),ko 32 (.move (kt 1)),ko 33 (.bin .geq (kt 31) (kt 32))] [0,1,3,33]) (.cond (kt 33) .skip (.exit 0))) (.block 1 (.seq (kr [ko 34 (.move (kt 3)),ko 35 (.move (kt 0)),ko 36 (.nilCheck (kt 35)),ko 37 (.fieldAddr 0 (kt 36)),ko 38 (.load none (kt 37)),ko 39 (.move (kt 1)),ko 40 (.sliceSl 1 (kt 38) none (some (kt 39)) none),ko 41 (.callv (kt 34) [(kt 40)])] [0,1,3]) (kr [ko 42 (.move (kt 0)),ko 43 (.move (kt 0)),ko 44 (.nilCheck (kt 43)),ko 45 (.fieldAddr 0 (kt 44)),ko 46 (.load none (kt 45)),ko 47 (.move (kt 1)),ko 48 (.sliceSl 1 (kt 46) (some (kt 47)) none none),ko 49 (.nilCheck (kt 42)),ko 50 (.fieldAddr 0 (kt 49)),kq (.store 1 (kt 50) (kt 48))] [0,1,3]))))
def Qva:AFun:=⟨(.seq (kr [ko 8 (.move (kt 0)),ko 9 (.nilCheck (kt 8)),ko 10 (.fieldAddr 1 (kt 9)),ko 11 (.load none (kt 10)),ko 12 (.move (kt 2)),ko 13 (.len false (kt 12)),ko 14 (.conv .u64 (kt 13)),ko 15 (.bin .add (kt 11) (kt 14)),ko 16 (.nilCheck (kt 8)),ko 17 (.fieldAddr 1 (kt 16)),kq (.store 1 (kt 17) (kt 15))] [0,1,2,3]) (.seq (kr [ko 18 (.move (kt 0)),ko 19 (.move (kt 0)),ko 20 (.nilCheck (kt 19)),ko 21 (.fieldAddr 0 (kt 20)),ko 22 (.load none (kt 21)),ko 23 (.move (kt 2)),ko 24 (.append 1 1 (kt 22) (kt 23)),ko 25 (.nilCheck (kt 18)),ko 26 (.fieldAddr 0 (kt 25)),kq (.store 1 (kt 26) (kt 24))] [0,1,3]) (.block 0 (.loop Qan)))),[]⟩
def Qam:ACode:=(.seq (kr [ko 176 (.bin .lss (kt 175) (ki 8))] [0,174,175,176]) (.seq (.cond (kt 176) .skip (.exit 6)) (.seq (.block 7 (.seq (kr [ko 177 (.move (kt 175)),ko 178 (.index none 8 1 (kt 174) (kt 175)),ko 15 (.move (kt 177)),ko 16 (.move (kt 178))] [0,15,16,174,175]) (kr [ko 179 (.move (kt 0)),ko 180 (.move (kt 15)),ko 181 (.nilCheck (kt 179)),ko 182 (.fieldAddr 2 (kt 181)),ko 183 (.indexAddr 8 1 (kt 182) (kt 180)),ko 184 (.load none (kt 183)),ko 185 (.move (kt 16)),ko 186 (.bin .add (kt 184) (kt 185)),ko 187 (.nilCheck (kt 179)),ko 188 (.fieldAddr 2 (kt 187)),ko 189 (.indexAddr 8 1 (kt 188) (kt 180)),kq (.store 1 (kt 189) (kt 186))] [0,174,175]))) (kr [ko 190 (.bin .add (kt 175) (ki 1)),ko 175 (.move (kt 190))] [0,174,175]))))
def Ru:ACode:=(.seq (kr [ko 88 (.bin .lss (kt 87) (ki 80))] [0,4,10,86,87,88]) (.seq (.cond (kt 88) .skip (.exit 4)) (.seq (.block 5 (.seq (kr [ko 89 (.move (kt 87)),ko 90 (.index none 80 1 (kt 86) (kt 87)),ko 11 (.move (kt 89)),ko 12 (.move (kt 90))] [0,4,10,11,12,86,87]) (.seq (kr [ko 91 (.indexAddr 8 1 (kt 10) (ki 7)),ko 92 (.load none (kt 91)),ko 93 (.indexAddr 8 1 (kt 10) (ki 4)),ko 94 (.load none (kt 93)),ko 95 (.call 71 [(kt 94),(ki (-14))] true),ko 96 (.indexAddr 8 1 (kt 10) (ki 4)),ko 97 (.load none (kt 96)),ko 98 (.call 71 [(kt 97),(ki (-18))] true),ko 99 (.bin .xor (kt 95) (kt 98)),ko 100 (.indexAddr 8 1 (kt 10) (ki 4)),ko 101 (.load none (kt 100)),ko 102 (.call 71 [(kt 101),(ki (-41))] true),ko 103 (.bin .xor (kt 99) (kt 102)),ko 104 (.bin .add (kt 92) (kt 103)),ko 105 (.indexAddr 8 1 (kt 10) (ki 4)),ko 106 (.load none (kt 105)),ko 107 (.indexAddr 8 1 (kt 10) (ki 5)),ko 108 (.load none (kt 107)),ko 109 (.bin .and (kt 106) (kt 108)),ko 110 (.indexAddr 8 1 (kt 10) (ki 4)),ko 111 (.load none (kt 110)),ko 112 (.un .xor (kt 111)),ko 113 (.indexAddr 8 1 (kt 10) (ki 6)),ko 114 (.load none (kt 113)),ko 115 (.bin .and (kt 112) (kt 114)),ko 116 (.bin .xor (kt 109) (kt 115)),ko 117 (.bin .add (kt 104) (kt 116)),ko 118 (.move (kt 12)),ko 119 (.bin .add (kt 117) (kt 118)),ko 120 (.move (kt 11)),ko 121 (.indexAddr 80 1 (kt 4) (kt 120)),ko 122 (.load none (kt 121)),ko 123 (.bin .add (kt 119) (kt 122)),ko 13 (.move (kt 123))] [0,4,10,13,86,87]) (.seq (kr [ko 124 (.indexAddr 8 1 (kt 10) (ki 0)),ko 125 (.load none (kt 124)),ko 126 (.call 71 [(kt 125),(ki (-28))] true),ko 127 (.indexAddr 8 1 (kt 10) (ki 0)),ko 128 (.load none (kt 127)),ko 129 (.call 71 [(kt 128),(ki (-34))] true),ko 130 (.bin .xor (kt 126) (kt 129)),ko 131 (.indexAddr 8 1 (kt 10) (ki 0)),ko 132 (.load none (kt 131)),ko 133 (.call 71 [(kt 132),(ki (-39))] true),ko 134 (.bin .xor (kt 130) (kt 133)),ko 135 (.indexAddr 8 1 (kt 10) (ki 0)),ko 136 (.load none (kt 135)),ko 137 (.indexAddr 8 1 (kt 10) (ki 1)),ko 138 (.load none (kt 137)),ko 139 (.bin .and (kt 136) (kt 138)),ko 140 (.indexAddr 8 1 (kt 10) (ki 0)),ko 141 (.load none (kt 140)),ko 142 (.indexAddr 8 1 (kt 10) (ki 2)),ko 143 (.load none (kt 142)),ko 144 (.bin .and (kt 141) (kt 143)),ko 145 (.bin .xor (kt 139) (kt 144)),ko 146 (.indexAddr 8 1 (kt 10) (ki 1)),ko 147 (.load none (kt 146)),ko 148 (.indexAddr 8 1 (kt 10) (ki 2)),ko 149 (.load none (kt 148)),ko 150 (.bin .and (kt 147) (kt 149)),ko 151 (.bin .xor (kt 145) (kt 150)),ko 152 (.bin .add (kt 134) (kt 151)),ko 14 (.move (kt 152))] [0,4,10,13,14,86,87]) (kr [ko 153 (.move (kt 13)),ko 154 (.move (kt 14)),ko 155 (.bin .add (kt 153) (kt 154)),ko 156 (.indexAddr 8 1 (kt 10) (ki 0)),ko 157 (.load none (kt 156)),ko 158 (.indexAddr 8 1 (kt 10) (ki 1)),ko 159 (.load none (kt 158)),ko 160 (.indexAddr 8 1 (kt 10) (ki 2)),ko 161 (.load none (kt 160)),ko 162 (.indexAddr 8 1 (kt 10) (ki 3)),ko 163 (.load none (kt 162)),ko 164 (.move (kt 13)),ko 165 (.bin .add (kt 163) (kt 164)),ko 166 (.indexAddr 8 1 (kt 10) (ki 4)),ko 167 (.load none (kt 166)),ko 168 (.indexAddr 8 1 (kt 10) (ki 5)),ko 169 (.load none (kt 168)),ko 170 (.indexAddr 8 1 (kt 10) (ki 6)),ko 171 (.load none (kt 170)),ko 172 (.build (Qb 8 (.int .u64 0)) [(0,(1,(kt 155))),(1,(1,(kt 157))),(2,(1,(kt 159))),(3,(1,(kt 161))),(4,(1,(kt 165))),(5,(1,(kt 167))),(6,(1,(kt 169))),(7,(1,(kt 171)))]),kq (.store 8 (kt 10) (kt 172))] [0,4,10,86,87]))))) (kr [ko 173 (.bin .add (kt 87) (ki 1)),ko 87 (.move (kt 173))] [0,4,10,86,87]))))
def Qal:ACode:=(.seq (kr [ko 31 (.bin .lss (kt 30) (kt 29))] [0,1,4,5,17,28,29,30,31]) (.seq (.cond (kt 31) .skip (.exit 2)) (.seq (.block 3 (.seq (kr [ko 32 (.indexSl 1 (kt 28) (kt 30)),ko 33 (.load none (kt 32)),ko 7 (.move (kt 33))] [0,1,4,5,7,17,28,29,30]) (kr [ko 34 (.move (kt 5)),ko 35 (.move (kt 5)),ko 36 (.indexAddr 80 1 (kt 4) (kt 35)),ko 37 (.load none (kt 36)),ko 38 (.bin .shl (kt 37) (.const (.int .u64 8))),ko 39 (.move (kt 7)),ko 40 (.conv .u64 (kt 39)),ko 41 (.bin .or (kt 38) (kt 40)),ko 42 (.indexAddr 80 1 (kt 4) (kt 34)),kq (.store 1 (kt 42) (kt 41))] [0,1,4,5,17,28,29,30]))) (kr [ko 43 (.bin .add (kt 30) (ki 1)),ko 30 (.move (kt 43))] [0,1,4,5,17,28,29,30]))))
def H9:ACode:=(.seq (kr [ko 18 (.bin .lss (kt 17) (ki 80))] [0,1,4,17,18]) (.seq (.cond (kt 18) .skip (.exit 0)) (.seq (.block 1 (.seq (kr [ko 19 (.move (kt 17)),ko 5 (.move (kt 19))] [0,1,4,5,17]) (.seq (.seq (kr [ko 20 (.move (kt 5)),ko 21 (.bin .lss (kt 20) (ki 16))] [0,1,4,5,17,21]) (.cond (kt 21) (.seq (.seq (kr [ko 22 (.move (kt 1)),ko 23 (.move (kt 5)),ko 24 (.bin .mul (ki 8) (kt 23)),ko 25 (.move (kt 5)),ko 26 (.bin .mul (ki 8) (kt 25)),ko 27 (.bin .add (kt 26) (ki 8)),ko 28 (.sliceSl 1 (kt 22) (some (kt 24)) (some (kt 27)) none),ko 29 (.len false (kt 28)),ko 30 (.move (ki 0))] [0,1,4,5,17,28,29,30]) (.block 2 (.loop Qal))) (.exit 1)) .skip)) (.seq (kr [ko 44 (.move (kt 5)),ko 45 (.bin .sub (kt 44) (ki 15)),ko 46 (.indexAddr 80 1 (kt 4) (kt 45)),ko 47 (.load none (kt 46)),ko 48 (.move (kt 5)),ko 49 (.bin .sub (kt 48) (ki 2)),ko 50 (.indexAddr 80 1 (kt 4) (kt 49)),ko 51 (.load none (kt 50)),ko 8 (.move (kt 47)),ko 9 (.move (kt 51))] [0,1,4,5,8,9,17]) (kr [ko 52 (.move (kt 5)),ko 53 (.move (kt 5)),ko 54 (.bin .sub (kt 53) (ki 16)),ko 55 (.indexAddr 80 1 (kt 4) (kt 54)),ko 56 (.load none (kt 55)),ko 57 (.move (kt 5)),ko 58 (.bin .sub (kt 57) (ki 7)),ko 59 (.indexAddr 80 1 (kt 4) (kt 58)),ko 60 (.load none (kt 59)),ko 61 (.bin .add (kt 56) (kt 60)),ko 62 (.move (kt 8)),ko 63 (.call 71 [(kt 62),(ki (-1))] true),ko 64 (.move (kt 8)),ko 65 (.call 71 [(kt 64),(ki (-8))] true),ko 66 (.bin .xor (kt 63) (kt 65)),ko 67 (.move (kt 8)),ko 68 (.bin .shr (kt 67) (.const (.int .u64 7))),ko 69 (.bin .xor (kt 66) (kt 68)),ko 70 (.bin .add (kt 61) (kt 69)),ko 71 (.move (kt 9)),ko 72 (.call 71 [(kt 71),(ki (-19))] true),ko 73 (.move (kt 9)),ko 74 (.call 71 [(kt 73),(ki (-61))] true),ko 75 (.bin .xor (kt 72) (kt 74)),ko 76 (.move (kt 9)),ko 77 (.bin .shr (kt 76) (.const (.int .u64 6))),ko 78 (.bin .xor (kt 75) (kt 77)),ko 79 (.bin .add (kt 70) (kt 78)),ko 80 (.indexAddr 80 1 (kt 4) (kt 52)),kq (.store 1 (kt 80) (kt 79))] [0,1,4,17]))))) (kr [ko 81 (.bin .add (kt 17) (ki 1)),ko 17 (.move (kt 81))] [0,1,4,17]))))
def Qu9:AFun:=⟨(.seq (kr [ko 4 (.alloc (Qb 80 (.int .u64 0)))] [0,1,4]) (.seq (.seq (kr [ko 17 (.move (ki 0))] [0,1,4,17]) (.block 0 (.loop H9))) (.seq (kr [ko 82 (.move (kt 0)),ko 83 (.nilCheck (kt 82)),ko 84 (.fieldAddr 2 (kt 83)),ko 85 (.load (some 8) (kt 84)),ko 10 (.alloc (Qb 8 (.int .u64 0))),kq (.store 8 (kt 10) (kt 85))] [0,4,10]) (.seq (.seq (kr [ko 86 (.call 72 [] true),ko 87 (.move (ki 0))] [0,4,10,86,87]) (.block 4 (.loop Ru))) (.seq (kr [ko 174 (.load (some 8) (kt 10)),ko 175 (.move (ki 0))] [0,174,175]) (.block 6 (.loop Qam))))))),[]⟩
def Mf:ACode:=(.seq (.seq (kr [ko 29 (.move (kt 8)),ko 30 (.bin .geq (kt 29) (ki 0))] [0,7,8,30]) (.cond (kt 30) .skip (.exit 2))) (.seq (.block 3 (.seq (kr [ko 9 (.move (.const (.int .u8 0)))] [0,7,8,9]) (.seq (.seq (kr [ko 33 (.move (kt 8)),ko 34 (.bin .lss (kt 33) (ki 9))] [0,7,8,9,34]) (.cond (kt 34) (kr [ko 35 (.move (kt 0)),ko 36 (.nilCheck (kt 35)),ko 37 (.fieldAddr 1 (kt 36)),ko 38 (.load none (kt 37)),ko 39 (.move (kt 8)),ko 40 (.bin .mul (ki 8) (kt 39)),ko 41 (.bin .shr (kt 38) (kt 40)),ko 42 (.bin .shl (kt 41) (.const (.int .u64 3))),ko 43 (.conv .u8 (kt 42)),ko 9 (.move (kt 43))] [0,7,8,9]) .skip)) (.seq (.seq (kr [ko 44 (.move (kt 8)),ko 45 (.bin .gtr (kt 44) (ki 0)),ko 46 (.move (kt 45)),.mk (some 47) (.move (kt 8)) (some (46,true)),.mk (some 48) (.bin .lss (kt 47) (ki 9)) (some (46,true)),ko 49 (.pick (kt 46) (kt 48) (.const (.bool false)))] [0,7,8,9,49]) (.cond (kt 49) (kr [ko 50 (.move (kt 9)),ko 51 (.move (kt 0)),ko 52 (.nilCheck (kt 51)),ko 53 (.fieldAddr 1 (kt 52)),ko 54 (.load none (kt 53)),ko 55 (.move (kt 8)),ko 56 (.bin .mul (ki 8) (kt 55)),ko 57 (.bin .sub (kt 56) (ki 8)),ko 58 (.bin .shr (kt 54) (kt 57)),ko 59 (.bin .and (kt 58) (.const (.int .u64 255))),ko 60 (.bin .shr (kt 59) (.const (.int .u64 5))),ko 61 (.conv .u8 (kt 60)),ko 62 (.bin .or (kt 50) (kt 61)),ko 9 (.move (kt 62))] [0,7,8,9]) .skip)) (kr [ko 63 (.move (kt 7)),ko 64 (.move (kt 9)),ko 65 (.buildSlice [(.int .u8 0)] 1 [(0,(1,(kt 64)))]),ko 66 (.append 1 1 (kt 63) (kt 65)),ko 7 (.move (kt 66))] [0,7,8]))))) (kr [ko 31 (.move (kt 8)),ko 32 (.bin .sub (kt 31) (ki 1)),ko 8 (.move (kt 32))] [0,7,8])))
def Qak:ACode:=(.seq (.seq (kr [ko 11 (.move (kt 0)),ko 12 (.nilCheck (kt 11)),ko 13 (.fieldAddr 1 (kt 12)),ko 14 (.load none (kt 13)),ko 15 (.conv .i64 (kt 14)),ko 16 (.move (kt 7)),ko 17 (.len false (kt 16)),ko 18 (.bin .add (kt 15) (kt 17)),ko 19 (.move (kt 2)),ko 20 (.bin .add (kt 18) (kt 19)),ko 21 (.move (kt 1)),ko 22 (.bin .rem (kt 20) (kt 21)),ko 23 (.bin .neq (kt 22) (ki 0))] [0,1,2,7,23]) (.cond (kt 23) .skip (.exit 0))) (.block 1 (kr [ko 24 (.move (kt 7)),ko 25 (.buildSlice [(.int .u8 0)] 1 [(0,(1,(.const (.int .u8 0))))]),ko 26 (.append 1 1 (kt 24) (kt 25)),ko 7 (.move (kt 26))] [0,1,2,7])))
def Qu8:AFun:=⟨(.seq (kr [ko 6 (.move (.const (.slice none 0 0)))] [0,1,2]) (.seq (kr [ko 10 (.buildSlice [(.int .u8 0)] 1 [(0,(1,(.const (.int .u8 128))))]),ko 7 (.move (kt 10))] [0,1,2,7]) (.seq (.block 0 (.loop Qak)) (.seq (.seq (kr [ko 27 (.move (kt 2)),ko 28 (.bin .sub (kt 27) (ki 1)),ko 8 (.move (kt 28))] [0,7,8]) (.block 2 (.loop Mf))) (.seq (kr [ko 67 (.move (kt 7)),ko 6 (.move (kt 67))] [6]) .ret))))),[(6,none)]⟩
def Qu7:AFun:=⟨(.seq (kr [ko 4 (.move (.const (.int .u64 0)))] [0,1]) (.seq (kr [ko 6 (.move (kt 1)),ko 7 (.conv .u64 (kt 6)),ko 8 (.bin .and (kt 7) (.const (.int .u64 63))),ko 5 (.move (kt 8))] [0,5]) (.seq (kr [ko 9 (.move (kt 0)),ko 10 (.move (kt 5)),ko 11 (.bin .shl (kt 9) (kt 10)),ko 12 (.move (kt 0)),ko 13 (.move (kt 5)),ko 14 (.bin .sub (.const (.int .u64 64)) (kt 13)),ko 15 (.bin .shr (kt 12) (kt 14)),ko 16 (.bin .or (kt 11) (kt 15)),ko 4 (.move (kt 16))] [4]) .ret))),[(4,none)]⟩
def Qu6:AFun:=⟨(.seq (kr [ko 0 (.alloc (Qb 80 (.int .u64 0)))] [0]) (.seq (kr [ko 1 (.build (Qb 80 (.int .u64 0)) [(0,(1,(.const (.int .u64 4794697086780616226)))),(1,(1,(.const (.int .u64 8158064640168781261)))),(2,(1,(.const (.int .u64 13096744586834688815)))),(3,(1,(.const (.int .u64 16840607885511220156)))),(4,(1,(.const (.int .u64 4131703408338449720)))),(5,(1,(.const (.int .u64 6480981068601479193)))),(6,(1,(.const (.int .u64 10538285296894168987)))),(7,(1,(.const (.int .u64 12329834152419229976)))),(8,(1,(.const (.int .u64 15566598209576043074)))),(9,(1,(.const (.int .u64 1334009975649890238)))),(10,(1,(.const (.int .u64 2608012711638119052)))),(11,(1,(.const (.int .u64 6128411473006802146)))),(12,(1,(.const (.int .u64 8268148722764581231)))),(13,(1,(.const (.int .u64 9286055187155687089)))),(14,(1,(.const (.int .u64 11230858885718282805)))),(15,(1,(.const (.int .u64 13951009754708518548)))),(16,(1,(.const (.int .u64 16472876342353939154)))),(17,(1,(.const (.int .u64 17275323862435702243)))),(18,(1,(.const (.int .u64 1135362057144423861)))),(19,(1,(.const (.int .u64 2597628984639134821)))),(20,(1,(.const (.int .u64 3308224258029322869)))),(21,(1,(.const (.int .u64 5365058923640841347)))),(22,(1,(.const (.int .u64 6679025012923562964)))),(23,(1,(.const (.int .u64 8573033837759648693)))),(24,(1,(.const (.int .u64 10970295158949994411)))),(25,(1,(.const (.int .u64 12119686244451234320)))),(26,(1,(.const (.int .u64 12683024718118986047)))),(27,(1,(.const (.int .u64 13788192230050041572)))),(28,(1,(.const (.int .u64 14330467153632333762)))),(29,(1,(.const (.int .u64 15395433587784984357)))),(30,(1,(.const (.int .u64 489312712824947311)))),(31,(1,(.const (.int .u64 1452737877330783856)))),(32,(1,(.const (.int .u64 2861767655752347644)))),(33,(1,(.const (.int .u64 3322285676063803686)))),(34,(1,(.const (.int .u64 5560940570517711597)))),(35,(1,(.const (.int .u64 5996557281743188959)))),(36,(1,(.const (.int .u64 7280758554555802590)))),(37,(1,(.const (.int .u64 8532644243296465576)))),(38,(1,(.const (.int .u64 9350256976987008742)))),(39,(1,(.const (.int .u64 10552545826968843579)))),(40,(1,(.const (.int .u64 11727347734174303076)))),(41,(1,(.const (.int .u64 12113106623233404929)))),(42,(1,(.const (.int .u64 14000437183269869457)))),(43,(1,(.const (.int .u64 14369950271660146224)))),(44,(1,(.const (.int .u64 15101387698204529176)))),(45,(1,(.const (.int .u64 15463397548674623760)))),(46,(1,(.const (.int .u64 17586052441742319658)))),(47,(1,(.const (.int .u64 1182934255886127544)))),(48,(1,(.const (.int .u64 1847814050463011016)))),(49,(1,(.const (.int .u64 2177327727835720531)))),(50,(1,(.const (.int .u64 2830643537854262169)))),(51,(1,(.const (.int .u64 3796741975233480872)))),(52,(1,(.const (.int .u64 4115178125766777443)))),(53,(1,(.const (.int .u64 5681478168544905931)))),(54,(1,(.const (.int .u64 6601373596472566643)))),(55,(1,(.const (.int .u64 7507060721942968483)))),(56,(1,(.const (.int .u64 8399075790359081724)))),(57,(1,(.const (.int .u64 8693463985226723168)))),(58,(1,(.const (.int .u64 9568029438360202098)))),(59,(1,(.const (.int .u64 10144078919501101548)))),(60,(1,(.const (.int .u64 10430055236837252648)))),(61,(1,(.const (.int .u64 11840083180663258601)))),(62,(1,(.const (.int .u64 13761210420658862357)))),(63,(1,(.const (.int .u64 14299343276471374635)))),(64,(1,(.const (.int .u64 14566680578165727644)))),(65,(1,(.const (.int .u64 15097957966210449927)))),(66,(1,(.const (.int .u64 16922976911328602910)))),(67,(1,(.const (.int .u64 17689382322260857208)))),(68,(1,(.const (.int .u64 500013540394364858)))),(69,(1,(.const (.int .u64 748580250866718886)))),(70,(1,(.const (.int .u64 1242879168328830382)))),(71,(1,(.const (.int .u64 1977374033974150939)))),(72,(1,(.const (.int .u64 2944078676154940804)))),(73,(1,(.const (.int .u64 3659926193048069267)))),(74,(1,(.const (.int .u64 4368137639120453308)))),(75,(1,(.const (.int .u64 4836135668995329356)))),(76,(1,(.const (.int .u64 5532061633213252278)))),(77,(1,(.const (.int .u64 6448918945643986474)))),(78,(1,(.const (.int .u64 6902733635092675308)))),(79,(1,(.const (.int .u64 7801388544844847127))))]),kq (.store 80 (kt 0) (kt 1))] [0]) .ret)),[(0,(some (some 80)))]⟩
def fnS:Nat → Option AFun
 | 26 => some a16
 | 37 => some a17
 | 18 => some a19
 | 21 => some a21
 | 12 => some a22
 | 11 => some a23
 | 14 => some a25
 | 15 => some a26
 | 22 => some a27
 | 49 => some a28
 | 16 => some a29
 | 30 => some a30
 | 19 => some a31
 | 23 => some a34
 | 20 => some a39
 | 38 => some a40
 | 41 => some a41
 | 42 => some a42
 | 39 => some a44
 | 40 => some a45
 | 50 => some a46
 | 51 => some a47
 | 24 => some a48
 | 27 => some a49
 | 28 => some a50
 | 29 => some a51
 | 31 => some a52
 | 32 => some a53
 | 33 => some a54
 | 65 => some a55
 | 34 => some a56
 | 35 => some a57
 | 36 => some a58
 | 43 => some a59
 | 44 => some a60
 | 45 => some a61
 | 46 => some a62
 | 47 => some a63
 | 48 => some a64
 | 64 => some a75
 | 63 => some a76
 | 55 => some a77
 | 56 => some a78
 | 57 => some a79
 | 58 => some a80
 | 59 => some a81
 | 60 => some a82
 | 61 => some a83
 | 62 => some a84
 | 69 => some a91
 | 6 => some Qjg
 | 7 => some Qvj
 | 8 => some Qvi
 | 9 => some Qaq
 | 10 => some Qvh
 | 13 => some Qvg
 | 17 => some Qvf
 | 25 => some Qve
 | 52 => some Qvd
 | 53 => some Qvc
 | 54 => some Qvb
 | 66 => some Qva
 | 67 => some Qu9
 | 68 => some Qu8
 | 71 => some Qu7
 | 72 => some Qu6
 | _ => none
end Go.Ev.Ytgacigcbglflkaa
set_option linter.unusedSimpArgs false
set_option linter.unusedVariables false
namespace Go.Ev.Ytgacigcbglflkaa
open Go Go.Ev
def Qt8 (f:Nat) (args:List Value):Option Value :=
 match f,args with
 | 70,[.int .u64 x,.int .u64 y,.int .u64 c] => if c.toNat ≤ 1 then some (.tuple #[.int .u64 ((x.toNat + y.toNat + c.toNat) % 18446744073709551616:Nat),.int .u64 ((x.toNat + y.toNat + c.toNat) / 18446744073709551616:Nat)]) else none
 | _,_ => none
def T:Tab:=⟨fnS,Qt8⟩
attribute [local congr] Gf
set_option maxRecDepth 100000
def R1 (x y c:Nat):Nat:=if x < y + c then 1 else 0
def R0 (x y c:Nat):Nat:=if x < y + c then x + 4294967296 - (y + c) else x - (y + c)
theorem Qcv {x y c:Nat} (hx:x < 4294967296) (hy:y < 4294967296) (hc:c ≤ 1) :
  Vl T 64 [.int .u32 x,.int .u32 y,.int .u32 c] [] = some (.tuple #[.int .u32 (R0 x y c:Nat),.int .u32 (R1 x y c:Nat)],[],[]):=by
 have e1:IntKind.u32.wrap (IntKind.u32.wrap ((x:Int) - y) - c) = ((x:Int) - y - c) % 4294967296:=by rw [wrap_u32,wrap_u32]; omega
 have e2:=Qrm hx hy hc
 have e3:(31:Int).toNat = 31:=rfl
 have e4:min 31 IntKind.u32.bits = 31:=rfl
 have e5:((x:Int) - y - c) % 4294967296 = (R0 x y c:Nat):=by unfold R0; split <;> omega
 have e6:(if x < y + c then 1 else 0:Int) = (R1 x y c:Nat):=by unfold R1; split <;> rfl
 rw [J3 (fn:=a75) rfl]
 simp only [a75,J2,Xp,Xx,Kb,Jq,Xy,Z7,Kc,Xz,Kj,guardOf,Zb,opd,Yo,Kz,Kh,Env.get,Env.put,Vo,Qf,Q2,Q3,Xk,Va,Xm,Jm,St.after,Env.keep,if_true,if_false,ite_true,ite_false,Yh,Vi,unV,Ve,Kg,packed,reduceCtorEq,Zj,Zm,Zd,Qj,Qc,Qi,Zh,Zg,Zp,beq_self_eq_true,J6,Jb,Xs,Xr,Xi,X8,Xt,Xd,X9,X7,Xe,Ko,Xv,Jj,X5,Ka,Xg,Xf,Z5,Xh,Zr,Zx,Zw,Jh,Z3,Jf,Z2,Zv,Ji,Jg,Jw,Z4,Xq,Jy,Xu,X6,Jx,Xw,Jk,Ob.fresh,Ym,Yy,Yx,Zo,and_self,true_and,and_true,Zu,Xb,Kq,Vv,Kp,Jl,Vu,Jo,Jz,false_and,decide_true,decide_false,Z1,Qp,Qn,Qo,Qd,Qm,Qh,Yd,Jv,Vp,J8,J0,J1,Za,Q9,Ub,Ua,W9,W8,Q8,Xn,Z9,Xj,J7,Kl,Jc,show (if IntKind.u32.signed = true then (-1:Int) else IntKind.u32.max) = IntKind.u32.max from rfl,e1,e3,e4,show ¬ ((31:Int) < 0) by decide,Zp]
 rw [e2,e6,e5]
def Qje (x y c:Nat):Nat:=(x + y + c) / 4294967296
def Qjd (x y c:Nat):Nat:=(x + y + c) % 4294967296
theorem Qjf {x y c:Nat} (hx:x < 4294967296) (hy:y < 4294967296) (hc:c ≤ 1) :
  Vl T 63 [.int .u32 x,.int .u32 y,.int .u32 c] [] = some (.tuple #[.int .u32 (Qjd x y c:Nat),.int .u32 (Qje x y c:Nat)],[],[]):=by
 have e1:IntKind.u64.wrap (IntKind.u64.wrap (IntKind.u64.wrap (x:Int) + IntKind.u64.wrap (y:Int)) + IntKind.u64.wrap (c:Int)) = ((x + y + c:Nat):Int):=by simp only [Mp]; omega
 have e3:(32:Int).toNat = 32:=rfl
 have e4:min 32 IntKind.u64.bits = 32:=rfl
 have e5:IntKind.u32.wrap ((x + y + c:Nat):Int) = (Qjd x y c:Nat):=by rw [wrap_u32]; unfold Qjd; omega
 have e6:IntKind.u32.wrap (Mo ((x + y + c:Nat):Int) (2 ^ 32)) = (Qje x y c:Nat):=by
  rw [wrap_u32,Yj _ (by decide)]; unfold Qje; omega
 rw [J3 (fn:=a76) rfl]
 simp only [a76,J2,Xp,Xx,Kb,Jq,Xy,Z7,Kc,Xz,Kj,guardOf,Zb,opd,Yo,Kz,Kh,Env.get,Env.put,Vo,Qf,Q2,Q3,Xk,Va,Xm,Jm,St.after,Env.keep,if_true,if_false,ite_true,ite_false,Yh,Vi,unV,Ve,Kg,packed,reduceCtorEq,Zj,Zm,Zd,Qj,Qc,Qi,Zh,Zg,Zp,beq_self_eq_true,J6,Jb,Xs,Xr,Xi,X8,Xt,Xd,X9,X7,Xe,Ko,Xv,Jj,X5,Ka,Xg,Xf,Z5,Xh,Zr,Zx,Zw,Jh,Z3,Jf,Z2,Zv,Ji,Jg,Jw,Z4,Xq,Jy,Xu,X6,Jx,Xw,Jk,Ob.fresh,Ym,Yy,Yx,Zo,and_self,true_and,and_true,Zu,Xb,Kq,Vv,Kp,Jl,Vu,Jo,Jz,false_and,decide_true,decide_false,Z1,Qp,Qn,Qo,Qd,Qm,Qh,Yd,Jv,Vp,J8,J0,J1,Za,Q9,Ub,Ua,W9,W8,Q8,Xn,Z9,Xj,J7,Kl,Jc,e1,e3,e4,e5,e6,show ¬ ((32:Int) < 0) by decide,Zp]
def orderW:List Nat:=[1559614445,1477600026,2734136534,350157278,0,0,0,268435456]
theorem Qc8 (H:List Ob):Vl T 51 [] H = some (.slice (some ⟨H.length,0,none⟩) 8 8,H ++ [Ob.fresh (J9 orderW)],[]):=by
 rw [J3 (fn:=a47) rfl]
 simp only [a47,J2,Xp,Xx,Kb,Jq,Xy,Z7,Kc,Xz,Kj,guardOf,Zb,opd,Yo,Kz,Kh,Env.get,Env.put,Vo,Qf,Q2,Q3,Xk,Va,Xm,Jm,St.after,Env.keep,if_true,if_false,ite_true,ite_false,Yh,Vi,unV,Ve,Kg,packed,reduceCtorEq,Zj,Zm,Zd,Qj,Qc,Qi,Zh,Zg,Zp,beq_self_eq_true,J6,Jb,Xs,Xr,Xi,X8,Xt,Xd,X9,X7,Xe,Ko,Xv,Jj,X5,Ka,Xg,Xf,Z5,Xh,Zr,Zx,Zw,Jh,Z3,Jf,Z2,Zv,Ji,Jg,Jw,Z4,Xq,Jy,Xu,X6,Jx,Xw,Jk,Ob.fresh,Ym,Yy,Yx,Zo,and_self,true_and,and_true,Zu,Xb,Kq,Vv,Kp,Jl,Vu,Jo,Jz,false_and,decide_true,decide_false,Z1,Qp,Qn,Qo,Qd,Qm,Qh,Yd,Jv,Vp,J8,J0,J1,Za,Q9,Ub,Ua,W9,W8,Q8,Xn,Z9,Xj,J7,Kl,Jc]
 rfl
end Go.Ev.Ytgacigcbglflkaa
set_option linter.unusedSimpArgs false
set_option linter.unusedVariables false
namespace Go.Ev.Ytgacigcbglflkaa
open Go Go.Ev
attribute [local congr] Gf
set_option maxRecDepth 100000
def Qkm (ws:List Nat) (j x:Nat):List Nat:=ws.set (j / 4) (ws.getD (j / 4) 0 ||| x * 2 ^ (8 * (j % 4)))
def ofI (H:List Ob) (id off n c m:Nat) (log:List Nat) (W:Nat → List Nat) (j:Nat):St :=
 ⟨[(3,.slice (some ⟨H.length,0,none⟩) m m),(11,.slice (some ⟨id,off,none⟩) n c),(12,.int .i64 n),(13,.int .i64 j)],H ++ [Ob.fresh (J9 (W j))],log⟩
theorem Qtf {H:List Ob} {id off n c m:Nat} {bs:List Nat} (hr:Row .u8 H id off bs) (hn:bs.length = n) (hm:m = (n + 3) / 4) (hN:n < 2 ^ 40) (hb:∀ x ∈ bs,x < 256)
  (W:Nat → List Nat) (hW:∀ j,(W j).length = m ∧ ∀ x ∈ W j,x < 4294967296) (hstep:∀ j x,bs[j]? = some x → W (j + 1) = Qkm (W j) j x) {j:Nat} (hj:j < n) :
  Xa T H.length Tq (ofI H id off n c m [] W j) = some (.normal,ofI H id off n c m [] W (j + 1)):=by
 obtain ⟨x,hx⟩:∃ x,bs[j]? = some x:=⟨_,Qq (by omega)⟩
 have h1:((j:Int) < (n:Int)):=by omega
 have hq:j / 4 < m:=by omega
 obtain ⟨y,hy⟩:∃ y,(W j)[j / 4]? = some y:=⟨_,Qq (by rw [(hW j).1]; exact hq)⟩
 obtain ⟨o,ho,hc⟩:=hr
 have ho':=Uv (l:=[⟨J9 (W j),true,true,true,1⟩]) ho
 have hxc:=hc j x hx
 have hyc:=W7 hy
 have hx256:x < 256:=hb x (Zt hx)
 have e1:IntKind.i64.wrap ((j:Int).tdiv 4) = ((j / 4:Nat):Int):=Vt (n:=j / 4) (by omega)
 have e2:((j:Int).tmod 4) = ((j % 4:Nat):Int):=rfl
 have e3:IntKind.i64.wrap (8 * ((j % 4:Nat):Int)) = ((8 * (j % 4):Nat):Int):=Vt (n:=8 * (j % 4)) (by omega)
 have e4:min (8 * (j % 4)) IntKind.u32.bits = 8 * (j % 4):=Vx (by show _ ≤ 32; omega)
 have e5:IntKind.u32.wrap (x:Int) = (x:Nat):=Y0 rfl (by show x < 2 ^ 32; omega)
 have h3:((j / 4:Nat):Int) < (m:Int):=by omega
 have h4:¬ (((8 * (j % 4):Nat):Int) < 0):=by omega
 have hp:x * 2 ^ (8 * (j % 4)) < 4294967296:=by
  have h5:(2:Nat) ^ (8 * (j % 4)) ≤ 2 ^ 24:=Kx (by decide) (by omega)
  have h6:x * 2 ^ (8 * (j % 4)) ≤ 255 * 2 ^ 24:=Yr (by omega) h5
  omega
 have hy32:y < 4294967296:=(hW j).2 y (Zt hy)
 have e6:Vj .or .u32 (y:Nat) (IntKind.u32.wrap ((x:Int) * 2 ^ (8 * (j % 4)))) = ((y ||| x * 2 ^ (8 * (j % 4)):Nat):Int):=by
  have:((x:Int) * 2 ^ (8 * (j % 4))) = ((x * 2 ^ (8 * (j % 4)):Nat):Int):=by simp
  rw [this,Y0 rfl hp,B0 rfl hy32 hp]
 have e7:IntKind.i64.wrap ((j:Int) + 1) = ((j + 1:Nat):Int):=Vt (n:=j + 1) (by omega)
 have h5:j / 4 + 1 ≤ (J9 (W j)).length:=by rw [W6,(hW j).1]; omega
 have hs:W (j + 1) = (W j).set (j / 4) (y ||| x * 2 ^ (8 * (j % 4))):=by rw [hstep j x hx,Qkm,Jp,hy]; rfl
 simp only [ofI,Tq,J2,Xp,Xx,Kb,Jq,Xy,Z7,Kc,Xz,Kj,guardOf,Zb,opd,Yo,Kz,Kh,Env.get,Env.put,Vo,Qf,Q2,Q3,Xk,Va,Xm,Jm,St.after,Env.keep,if_true,if_false,ite_true,ite_false,Yh,Vi,unV,Ve,Kg,packed,reduceCtorEq,Zj,Zm,Zd,Qj,Qc,Qi,Zh,Zg,Zp,beq_self_eq_true,J6,Jb,Xs,Xr,Xi,X8,Xt,Xd,X9,X7,Xe,Ko,Xv,Jj,X5,Ka,Xg,Xf,Z5,Xh,Zr,Zx,Zw,Jh,Z3,Jf,Z2,Zv,Ji,Jg,Jw,Z4,Xq,Jy,Xu,X6,Jx,Xw,Jk,Ob.fresh,Ym,Yy,Yx,Zo,and_self,true_and,and_true,Zu,Xb,Kq,Vv,Kp,Jl,Vu,Jo,Jz,false_and,decide_true,decide_false,Z1,Qp,Qn,Qo,Qd,Qm,Qh,Yd,Jv,Vp,J8,J0,J1,Za,Q9,Ub,Ua,W9,W8,Q8,Xn,Z9,Xj,J7,Kl,Jc,h1,ho',hxc,hyc,e1,e2,e3,e4,e5,h3,h4,e6,e7,h5,Ur,hs,Bu]
theorem Dr (v:Value):∀ n,(Qb n [v]).flatten = Qb n v
 | 0 => rfl
 | n + 1 => by rw [B2,Ki,Dr v n]; rfl
theorem Qi2 (B n:Nat):dig B n 0 = Qb n 0:=by
 symm
 exact Rp (by simp) fun i hi => by simp [hi]
theorem Qaw (n:Nat):Qb n (Value.int .u32 0) = J9 (dig 4294967296 n 0):=by simp [Qi2,J9]
theorem Qfh {H:List Ob} {id off n c:Nat} {bs:List Nat} (hr:Row .u8 H id off bs) (hn:bs.length = n) (hN:n < 2 ^ 40) (hb:∀ x ∈ bs,x < 256) :
  Vl T 38 [.slice (some ⟨id,off,none⟩) n c] H = some (.slice (some ⟨H.length,0,none⟩) ((n + 3) / 4) ((n + 3) / 4),H ++ [Ob.fresh (J9 (dig 4294967296 ((n + 3) / 4) (num 256 bs)))],[]):=by
 have hbody:=Bc (T:=T) (base:=H.length) (id:=0) (body:=Tq) (ofI H id off n c ((n + 3) / 4) [] fun j => dig 4294967296 ((n + 3) / 4) (num 256 (bs.take j))) n
  (s':=⟨[(3,.slice (some ⟨H.length,0,none⟩) ((n + 3) / 4) ((n + 3) / 4)),(11,.slice (some ⟨id,off,none⟩) n c),(12,.int .i64 n),(13,.int .i64 n),(14,.bool false)],H ++ [Ob.fresh (J9 (dig 4294967296 ((n + 3) / 4) (num 256 bs)))],[]⟩)
  (fun j hj => Qtf hr hn rfl hN hb _ (fun j => ⟨Ku _ _ _,fun x hx => Bi (by decide) hx⟩) (fun j x hx => by
   have hj:j < bs.length:=(Qt.1 hx).1
   have hlt:num 256 (bs.take j) < 256 ^ j:=by
    have:=num_lt (B:=256) (l:=bs.take j) fun y hy => hb y (Vd hy)
    rwa [Ks,Vx (W2 hj)] at this
   rw [Wx hx,Qkm,Qre (by omega) hlt (hb x (Zt hx))]) hj)
  (by
   have h1:¬ ((n:Int) < (n:Int)):=by omega
   have h2:bs.take n = bs:=by rw [← hn]; exact U5
   simp only [ofI,Tq,J2,Xp,Xx,Kb,Jq,Xy,Z7,Kc,Xz,Kj,guardOf,Zb,opd,Yo,Kz,Kh,Env.get,Env.put,Vo,Qf,Q2,Q3,Xk,Va,Xm,Jm,St.after,Env.keep,if_true,if_false,ite_true,ite_false,Yh,Vi,unV,Ve,Kg,packed,reduceCtorEq,Zj,Zm,Zd,Qj,Qc,Qi,Zh,Zg,Zp,beq_self_eq_true,J6,Jb,Xs,Xr,Xi,X8,Xt,Xd,X9,X7,Xe,Ko,Xv,Jj,X5,Ka,Xg,Xf,Z5,Xh,Zr,Zx,Zw,Jh,Z3,Jf,Z2,Zv,Ji,Jg,Jw,Z4,Xq,Jy,Xu,X6,Jx,Xw,Jk,Ob.fresh,Ym,Yy,Yx,Zo,and_self,true_and,and_true,Zu,Xb,Kq,Vv,Kp,Jl,Vu,Jo,Jz,false_and,decide_true,decide_false,Z1,Qp,Qn,Qo,Qd,Qm,Qh,Yd,Jv,Vp,J8,J0,J1,Za,Q9,Ub,Ua,W9,W8,Q8,Xn,Z9,Xj,J7,Kl,Jc,h1,h2])
 have e1:IntKind.i64.wrap ((n:Int) + 3) = ((n + 3:Nat):Int):=Vt (n:=n + 3) (by omega)
 have e2:IntKind.i64.wrap (((n + 3:Nat):Int).tdiv 4) = (((n + 3) / 4:Nat):Int):=Vt (n:=(n + 3) / 4) (by omega)
 have h1:((((n + 3) / 4:Nat):Int) * ((4:Nat):Int) ≤ 2 ^ 47):=by omega
 have h2:(0:Nat) < 4:=by decide
 rw [J3 (fn:=a40) rfl]
 have hz:ofI H id off n c ((n + 3) / 4) [] (fun j => dig 4294967296 ((n + 3) / 4) (num 256 (bs.take j))) 0 = ⟨[(3,.slice (some ⟨H.length,0,none⟩) ((n + 3) / 4) ((n + 3) / 4)),(11,.slice (some ⟨id,off,none⟩) n c),(12,.int .i64 n),(13,.int .i64 0)],H ++ [Ob.fresh (J9 (dig 4294967296 ((n + 3) / 4) 0))],[]⟩:=by simp [ofI,num]
 rw [hz] at hbody
 simp only [Ob.fresh] at hbody
 simp only [a40,J2,Xp,Xx,Kb,Jq,Xy,Z7,Kc,Xz,Kj,guardOf,Zb,opd,Yo,Kz,Kh,Env.get,Env.put,Vo,Qf,Q2,Q3,Xk,Va,Xm,Jm,St.after,Env.keep,if_true,if_false,ite_true,ite_false,Yh,Vi,unV,Ve,Kg,packed,reduceCtorEq,Zj,Zm,Zd,Qj,Qc,Qi,Zh,Zg,Zp,beq_self_eq_true,J6,Jb,Xs,Xr,Xi,X8,Xt,Xd,X9,X7,Xe,Ko,Xv,Jj,X5,Ka,Xg,Xf,Z5,Xh,Zr,Zx,Zw,Jh,Z3,Jf,Z2,Zv,Ji,Jg,Jw,Z4,Xq,Jy,Xu,X6,Jx,Xw,Jk,Ob.fresh,Ym,Yy,Yx,Zo,and_self,true_and,and_true,Zu,Xb,Kq,Vv,Kp,Jl,Vu,Jo,Jz,false_and,decide_true,decide_false,Z1,Qp,Qn,Qo,Qd,Qm,Qh,Yd,Jv,Vp,J8,J0,J1,Za,Q9,Ub,Ua,W9,W8,Q8,Xn,Z9,Xj,J7,Kl,Jc,e1,e2,h1,h2,Xn,Dr,Qaw,hbody]
structure MulInv (n m i k A a:Nat) (os out:List Nat) (c:Nat):Prop where
 len:out.length = n + m
 lt:∀ x ∈ out,x < 4294967296
 clt:c < 4294967296
 eq:num 4294967296 out + c * 4294967296 ^ (i + k) = A + a * 4294967296 ^ i * num 4294967296 (os.take k)
 top:∀ j,i + m ≤ j → j < n + m → out[j]? = some 0
theorem MulInv.step {n m i k A a b y c:Nat} {os out:List Nat} (h:MulInv n m i k A a os out c) (ha:a < 4294967296) (hb:os[k]? = some b) (hb':b < 4294967296) (hy:out[i + k]? = some y) (hk:k < m) :
  MulInv n m i (k + 1) A a os (out.set (i + k) ((c + (y + a * b)) % 4294967296)) ((c + (y + a * b)) / 4294967296):=by
 have hy':y < 4294967296:=h.lt y (Zt hy)
 have hc:=h.clt
 refine ⟨by rw [X3]; exact h.len,D4 h.lt (Jn _ (by decide)),?_,?_,?_⟩
 ·have:a * b ≤ 4294967295 * 4294967295:=Yr (by omega) (by omega)
  rw [Qbm (by decide)]
  show _ < 4294967296 * 4294967296
  omega
 ·have h1:=Hr (B:=4294967296) ((c + (y + a * b)) % 4294967296) hy
  have h2:=h.eq
  rw [Wx hb]
  have h3:=Vn (c + (y + a * b)) 4294967296
  generalize (c + (y + a * b)) / 4294967296 = q at *
  generalize (c + (y + a * b)) % 4294967296 = r at *
  have e1:a * 4294967296 ^ i * (num 4294967296 (os.take k) + b * 4294967296 ^ k) = a * 4294967296 ^ i * num 4294967296 (os.take k) + a * b * 4294967296 ^ (i + k):=by
   rw [Rw,Y4]; congr 1; simp only [V4,Yg,K9]
  have e2:q * 4294967296 ^ (i + (k + 1)) = 4294967296 * q * 4294967296 ^ (i + k):=by
   rw [← Kk,K8]; simp only [V4,Yg,K9]
  rw [e1,e2]
  have e3:(4294967296 * q + r) * 4294967296 ^ (i + k) = (c + (y + a * b)) * 4294967296 ^ (i + k):=by rw [h3]
  rw [Kr,Kr,Kr] at e3
  omega
 ·intro j h1 h2
  rw [Xc (by omega)]
  exact h.top j h1 h2
def Qm6 (H:List Ob) (s1 s2:Value) (n m i a k c:Nat) (out:List Nat):St :=
 ⟨[(1,s2),(5,.slice (some ⟨H.length,0,none⟩) (n + m) (n + m)),(6,.int .i64 i),(7,.int .u32 a),(8,.int .u64 c),(17,s1),(18,.int .i64 n),(19,.int .i64 i),(24,s2),(25,.int .i64 m),(26,.int .i64 k)],H ++ [Ob.fresh (J9 out)],[]⟩
theorem Qm5 {H:List Ob} {s1:Value} {id2 off2 c2 n m i a k c b y:Nat} {os out:List Nat} (hr:Row .u32 H id2 off2 os) (hN:n + m < 2 ^ 40) (hi:i < n) (hk:k < m) (ha:a < 4294967296) (hb:os[k]? = some b) (hb':b < 4294967296) (hl:out.length = n + m) (hy:out[i + k]? = some y) (hy':y < 4294967296) (hc:c < 4294967296) :
  Xa T H.length Qea (Qm6 H s1 (.slice (some ⟨id2,off2,none⟩) m c2) n m i a k c out) = some (.normal,Qm6 H s1 (.slice (some ⟨id2,off2,none⟩) m c2) n m i a (k + 1) ((c + (y + a * b)) / 4294967296) (out.set (i + k) ((c + (y + a * b)) % 4294967296))):=by
 obtain ⟨o,ho,hcell⟩:=hr
 have ho':=Uv (l:=[⟨J9 out,true,true,true,1⟩]) ho
 have hxc:=hcell k b hb
 have hyc:=W7 hy
 have hab:a * b ≤ 4294967295 * 4294967295:=Yr (by omega) (by omega)
 have h1:((k:Int) < (m:Int)):=by omega
 have h2:((i + k:Nat):Int) < ((n + m:Nat):Int):=by omega
 have e1:IntKind.i64.wrap ((i:Int) + (k:Int)) = ((i + k:Nat):Int):=Vt (n:=i + k) (by omega)
 have e2:IntKind.u64.wrap (y:Int) = (y:Nat):=Y0 rfl (by show y < 2 ^ 64; omega)
 have e3:IntKind.u64.wrap (a:Int) = (a:Nat):=Y0 rfl (by show a < 2 ^ 64; omega)
 have e4:IntKind.u64.wrap (b:Int) = (b:Nat):=Y0 rfl (by show b < 2 ^ 64; omega)
 have e5:IntKind.u64.wrap ((a:Int) * (b:Int)) = ((a * b:Nat):Int):=Y0 (n:=a * b) rfl (by show _ < 2 ^ 64; omega)
 have e6:IntKind.u64.wrap ((y:Int) + ((a * b:Nat):Int)) = ((y + a * b:Nat):Int):=Y0 (n:=y + a * b) rfl (by show _ < 2 ^ 64; omega)
 have e7:IntKind.u64.wrap ((c:Int) + ((y + a * b:Nat):Int)) = ((c + (y + a * b):Nat):Int):=Y0 (n:=c + (y + a * b)) rfl (by show _ < 2 ^ 64; omega)
 have e8:IntKind.u32.wrap ((c + (y + a * b):Nat):Int) = (((c + (y + a * b)) % 4294967296:Nat):Int):=by rw [wrap_u32]; rfl
 have e9:Mo ((c + (y + a * b):Nat):Int) (2 ^ min 32 IntKind.u64.bits) = (((c + (y + a * b)) / 4294967296:Nat):Int):=by
  rw [Yj _ (by decide)]; rfl
 have e10:IntKind.i64.wrap ((k:Int) + 1) = ((k + 1:Nat):Int):=Vt (n:=k + 1) (by omega)
 have h5:i + k + 1 ≤ (J9 out).length:=by rw [W6,hl]; omega
 simp only [Qm6,Qea,J2,Xp,Xx,Kb,Jq,Xy,Z7,Kc,Xz,Kj,guardOf,Zb,opd,Yo,Kz,Kh,Env.get,Env.put,Vo,Qf,Q2,Q3,Xk,Va,Xm,Jm,St.after,Env.keep,if_true,if_false,ite_true,ite_false,Yh,Vi,unV,Ve,Kg,packed,reduceCtorEq,Zj,Zm,Zd,Qj,Qc,Qi,Zh,Zg,Zp,beq_self_eq_true,J6,Jb,Xs,Xr,Xi,X8,Xt,Xd,X9,X7,Xe,Ko,Xv,Jj,X5,Ka,Xg,Xf,Z5,Xh,Zr,Zx,Zw,Jh,Z3,Jf,Z2,Zv,Ji,Jg,Jw,Z4,Xq,Jy,Xu,X6,Jx,Xw,Jk,Ob.fresh,Ym,Yy,Yx,Zo,and_self,true_and,and_true,Zu,Xb,Kq,Vv,Kp,Jl,Vu,Jo,Jz,false_and,decide_true,decide_false,Z1,Qp,Qn,Qo,Qd,Qm,Qh,Yd,Jv,Vp,J8,J0,J1,Za,Q9,Ub,Ua,W9,W8,Q8,Xn,Z9,Xj,J7,Kl,Jc,h1,h2,ho',hxc,hyc,e1,e2,e3,e4,e5,e6,e7,e8,e9,e10,h5,Ur,Bu]
structure TimesInv (n m i:Nat) (ws os out:List Nat):Prop where
 len:out.length = n + m
 lt:∀ x ∈ out,x < 4294967296
 eq:num 4294967296 out = num 4294967296 (ws.take i) * num 4294967296 os
 top:∀ j,i + m ≤ j → j < n + m → out[j]? = some 0
def Qax (H:List Ob) (s1 s2:Value) (n m i:Nat) (out:List Nat):St :=
 ⟨[(1,s2),(5,.slice (some ⟨H.length,0,none⟩) (n + m) (n + m)),(17,s1),(18,.int .i64 n),(19,.int .i64 i)],H ++ [Ob.fresh (J9 out)],[]⟩
theorem Qhj {H:List Ob} {id1 off1 c1 id2 off2 c2 n m i a:Nat} {ws os out:List Nat} (hr1:Row .u32 H id1 off1 ws) (hr2:Row .u32 H id2 off2 os) (hm:os.length = m) (hN:n + m < 2 ^ 40) (hi:i < n) (ha:ws[i]? = some a) (ha':a < 4294967296) (hos:∀ x ∈ os,x < 4294967296) (h:TimesInv n m i ws os out) :
  ∃ out',Xa T H.length Qd9 (Qax H (.slice (some ⟨id1,off1,none⟩) n c1) (.slice (some ⟨id2,off2,none⟩) m c2) n m i out) = some (.normal,Qax H (.slice (some ⟨id1,off1,none⟩) n c1) (.slice (some ⟨id2,off2,none⟩) m c2) n m (i + 1) out') ∧ TimesInv n m (i + 1) ws os out':=by
 have h0:MulInv n m i 0 (num 4294967296 out) a os out 0:=⟨h.len,h.lt,by decide,by simp [num],h.top⟩
 obtain ⟨s',hb,out1,c,rfl,hinv⟩:=Yn (T:=T) (base:=H.length) (id:=2) (body:=Qea)
  (fun k s => ∃ out1 c,s = Qm6 H (.slice (some ⟨id1,off1,none⟩) n c1) (.slice (some ⟨id2,off2,none⟩) m c2) n m i a k c out1 ∧ MulInv n m i k (num 4294967296 out) a os out1 c)
  (Q:=fun s => ∃ out1 c,s = ⟨[(1,.slice (some ⟨id2,off2,none⟩) m c2),(5,.slice (some ⟨H.length,0,none⟩) (n + m) (n + m)),(6,.int .i64 i),(7,.int .u32 a),(8,.int .u64 (c:Nat)),(17,.slice (some ⟨id1,off1,none⟩) n c1),(18,.int .i64 n),(19,.int .i64 i),(24,.slice (some ⟨id2,off2,none⟩) m c2),(25,.int .i64 m),(26,.int .i64 m),(27,.bool false)],H ++ [⟨J9 out1,true,true,true,1⟩],[]⟩ ∧ MulInv n m i m (num 4294967296 out) a os out1 c)
  m ⟨out,0,rfl,h0⟩
  (fun k s hk hs => by
   obtain ⟨out1,c,rfl,hI⟩:=hs
   obtain ⟨b,hbk⟩:∃ b,os[k]? = some b:=⟨_,Qq (by omega)⟩
   obtain ⟨y,hy⟩:∃ y,out1[i + k]? = some y:=⟨_,Qq (by rw [hI.len]; omega)⟩
   have hb':=hos b (Zt hbk)
   exact ⟨_,Qm5 hr2 hN hi hk ha' hbk hb' hI.len hy (hI.lt y (Zt hy)) hI.clt,_,_,rfl,hI.step ha' hbk hb' hy hk⟩)
  (fun s hs => by
   obtain ⟨out1,c,rfl,hI⟩:=hs
   have h1:¬ ((m:Int) < (m:Int)):=by omega
   refine ⟨_,?_,out1,c,rfl,hI⟩
   simp only [Qm6,Qea,J2,Xp,Xx,Kb,Jq,Xy,Z7,Kc,Xz,Kj,guardOf,Zb,opd,Yo,Kz,Kh,Env.get,Env.put,Vo,Qf,Q2,Q3,Xk,Va,Xm,Jm,St.after,Env.keep,if_true,if_false,ite_true,ite_false,Yh,Vi,unV,Ve,Kg,packed,reduceCtorEq,Zj,Zm,Zd,Qj,Qc,Qi,Zh,Zg,Zp,beq_self_eq_true,J6,Jb,Xs,Xr,Xi,X8,Xt,Xd,X9,X7,Xe,Ko,Xv,Jj,X5,Ka,Xg,Xf,Z5,Xh,Zr,Zx,Zw,Jh,Z3,Jf,Z2,Zv,Ji,Jg,Jw,Z4,Xq,Jy,Xu,X6,Jx,Xw,Jk,Ob.fresh,Ym,Yy,Yx,Zo,and_self,true_and,and_true,Zu,Xb,Kq,Vv,Kp,Jl,Vu,Jo,Jz,false_and,decide_true,decide_false,Z1,Qp,Qn,Qo,Qd,Qm,Qh,Yd,Jv,Vp,J8,J0,J1,Za,Q9,Ub,Ua,W9,W8,Q8,Xn,Z9,Xj,J7,Kl,Jc,h1])
 rw [show Qm6 H (.slice (some ⟨id1,off1,none⟩) n c1) (.slice (some ⟨id2,off2,none⟩) m c2) n m i a 0 0 out = ⟨[(1,.slice (some ⟨id2,off2,none⟩) m c2),(5,.slice (some ⟨H.length,0,none⟩) (n + m) (n + m)),(6,.int .i64 i),(7,.int .u32 a),(8,.int .u64 0),(17,.slice (some ⟨id1,off1,none⟩) n c1),(18,.int .i64 n),(19,.int .i64 i),(24,.slice (some ⟨id2,off2,none⟩) m c2),(25,.int .i64 m),(26,.int .i64 0)],H ++ [⟨J9 out,true,true,true,1⟩],[]⟩ from rfl] at hb
 obtain ⟨o,ho,hcell⟩:=hr1
 have ho':=Uv (l:=[⟨J9 out,true,true,true,1⟩]) ho
 have hxc:=hcell i a ha
 have hz:out1[i + m]? = some 0:=hinv.top (i + m) (Q8 _) (by omega)
 have h1:((i:Int) < (n:Int)):=by omega
 have h2:((i + m:Nat):Int) < ((n + m:Nat):Int):=by omega
 have e1:IntKind.i64.wrap ((i:Int) + (m:Int)) = ((i + m:Nat):Int):=Vt (n:=i + m) (by omega)
 have e2:IntKind.u32.wrap (c:Int) = (c:Nat):=Y0 rfl hinv.clt
 have e10:IntKind.i64.wrap ((i:Int) + 1) = ((i + 1:Nat):Int):=Vt (n:=i + 1) (by omega)
 have h5:i + m + 1 ≤ (J9 out1).length:=by rw [W6,hinv.len]; omega
 refine ⟨out1.set (i + m) c,?_,?_⟩
 ·simp only [Qax,Qd9,J2,Xp,Xx,Kb,Jq,Xy,Z7,Kc,Xz,Kj,guardOf,Zb,opd,Yo,Kz,Kh,Env.get,Env.put,Vo,Qf,Q2,Q3,Xk,Va,Xm,Jm,St.after,Env.keep,if_true,if_false,ite_true,ite_false,Yh,Vi,unV,Ve,Kg,packed,reduceCtorEq,Zj,Zm,Zd,Qj,Qc,Qi,Zh,Zg,Zp,beq_self_eq_true,J6,Jb,Xs,Xr,Xi,X8,Xt,Xd,X9,X7,Xe,Ko,Xv,Jj,X5,Ka,Xg,Xf,Z5,Xh,Zr,Zx,Zw,Jh,Z3,Jf,Z2,Zv,Ji,Jg,Jw,Z4,Xq,Jy,Xu,X6,Jx,Xw,Jk,Ob.fresh,Ym,Yy,Yx,Zo,and_self,true_and,and_true,Zu,Xb,Kq,Vv,Kp,Jl,Vu,Jo,Jz,false_and,decide_true,decide_false,Z1,Qp,Qn,Qo,Qd,Qm,Qh,Yd,Jv,Vp,J8,J0,J1,Za,Q9,Ub,Ua,W9,W8,Q8,Xn,Z9,Xj,J7,Kl,Jc,h1,h2,ho',hxc,hb,e1,e2,e10,h5,Ur,Bu]
 ·refine ⟨by rw [X3]; exact hinv.len,D4 hinv.lt hinv.clt,?_,?_⟩
  ·have h6:=Hr (B:=4294967296) c hz
   have h7:=hinv.eq
   rw [show os.take m = os by rw [← hm]; exact U5,h.eq] at h7
   rw [Wx ha,Kr]
   omega
  ·intro j h6 h7
   rw [Xc (by omega)]
   exact hinv.top j (by omega) h7
theorem Qox {H:List Ob} {id1 off1 c1 id2 off2 c2 n m:Nat} {ws os:List Nat} (hr1:Row .u32 H id1 off1 ws) (hr2:Row .u32 H id2 off2 os) (hn:ws.length = n) (hm:os.length = m) (hN:n + m < 2 ^ 40) (hws:∀ x ∈ ws,x < 4294967296) (hos:∀ x ∈ os,x < 4294967296) :
  Vl T 39 [.slice (some ⟨id1,off1,none⟩) n c1,.slice (some ⟨id2,off2,none⟩) m c2] H = some (.slice (some ⟨H.length,0,none⟩) (n + m) (n + m),H ++ [Ob.fresh (J9 (dig 4294967296 (n + m) (num 4294967296 ws * num 4294967296 os)))],[]):=by
 have h0:TimesInv n m 0 ws os (dig 4294967296 (n + m) 0):=⟨Ku _ _ _,fun x hx => Bi (by decide) hx,by rw [Uk (by decide)]; simp [num],fun j _ h => by rw [Bz h]; simp⟩
 obtain ⟨s',hb,out,rfl,hinv⟩:=Yn (T:=T) (base:=H.length) (id:=0) (body:=Qd9)
  (fun i s => ∃ out,s = Qax H (.slice (some ⟨id1,off1,none⟩) n c1) (.slice (some ⟨id2,off2,none⟩) m c2) n m i out ∧ TimesInv n m i ws os out)
  (Q:=fun s => ∃ out,s = ⟨[(1,.slice (some ⟨id2,off2,none⟩) m c2),(5,.slice (some ⟨H.length,0,none⟩) (n + m) (n + m)),(17,.slice (some ⟨id1,off1,none⟩) n c1),(18,.int .i64 n),(19,.int .i64 n),(20,.bool false)],H ++ [⟨J9 out,true,true,true,1⟩],[]⟩ ∧ TimesInv n m n ws os out)
  n ⟨_,rfl,h0⟩
  (fun i s hi hs => by
   obtain ⟨out,rfl,hI⟩:=hs
   obtain ⟨a,ha⟩:∃ a,ws[i]? = some a:=⟨_,Qq (by omega)⟩
   obtain ⟨out',g1,g2⟩:=Qhj (c1:=c1) (c2:=c2) hr1 hr2 hm hN hi ha (hws a (Zt ha)) hos hI
   exact ⟨_,g1,_,rfl,g2⟩)
  (fun s hs => by
   obtain ⟨out,rfl,hI⟩:=hs
   have h1:¬ ((n:Int) < (n:Int)):=by omega
   refine ⟨_,?_,out,rfl,hI⟩
   simp only [Qax,Qd9,J2,Xp,Xx,Kb,Jq,Xy,Z7,Kc,Xz,Kj,guardOf,Zb,opd,Yo,Kz,Kh,Env.get,Env.put,Vo,Qf,Q2,Q3,Xk,Va,Xm,Jm,St.after,Env.keep,if_true,if_false,ite_true,ite_false,Yh,Vi,unV,Ve,Kg,packed,reduceCtorEq,Zj,Zm,Zd,Qj,Qc,Qi,Zh,Zg,Zp,beq_self_eq_true,J6,Jb,Xs,Xr,Xi,X8,Xt,Xd,X9,X7,Xe,Ko,Xv,Jj,X5,Ka,Xg,Xf,Z5,Xh,Zr,Zx,Zw,Jh,Z3,Jf,Z2,Zv,Ji,Jg,Jw,Z4,Xq,Jy,Xu,X6,Jx,Xw,Jk,Ob.fresh,Ym,Yy,Yx,Zo,and_self,true_and,and_true,Zu,Xb,Kq,Vv,Kp,Jl,Vu,Jo,Jz,false_and,decide_true,decide_false,Z1,Qp,Qn,Qo,Qd,Qm,Qh,Yd,Jv,Vp,J8,J0,J1,Za,Q9,Ub,Ua,W9,W8,Q8,Xn,Z9,Xj,J7,Kl,Jc,h1])
 rw [show Qax H (.slice (some ⟨id1,off1,none⟩) n c1) (.slice (some ⟨id2,off2,none⟩) m c2) n m 0 (dig 4294967296 (n + m) 0) = ⟨[(1,.slice (some ⟨id2,off2,none⟩) m c2),(5,.slice (some ⟨H.length,0,none⟩) (n + m) (n + m)),(17,.slice (some ⟨id1,off1,none⟩) n c1),(18,.int .i64 n),(19,.int .i64 0)],H ++ [⟨J9 (dig 4294967296 (n + m) 0),true,true,true,1⟩],[]⟩ from rfl] at hb
 have hout:dig 4294967296 (n + m) (num 4294967296 ws * num 4294967296 os) = out:=by
  have h1:=hinv.eq
  rw [show ws.take n = ws by rw [← hn]; exact U5] at h1
  rw [← h1,← hinv.len,Mc (by decide) hinv.lt]
 have e1:IntKind.i64.wrap ((n:Int) + (m:Int)) = ((n + m:Nat):Int):=Vt (n:=n + m) (by omega)
 have h1:(((n + m:Nat):Int) * ((4:Nat):Int) ≤ 2 ^ 47):=by omega
 have h2:(0:Nat) < 4:=by decide
 rw [J3 (fn:=a44) rfl,hout]
 simp only [a44,J2,Xp,Xx,Kb,Jq,Xy,Z7,Kc,Xz,Kj,guardOf,Zb,opd,Yo,Kz,Kh,Env.get,Env.put,Vo,Qf,Q2,Q3,Xk,Va,Xm,Jm,St.after,Env.keep,if_true,if_false,ite_true,ite_false,Yh,Vi,unV,Ve,Kg,packed,reduceCtorEq,Zj,Zm,Zd,Qj,Qc,Qi,Zh,Zg,Zp,beq_self_eq_true,J6,Jb,Xs,Xr,Xi,X8,Xt,Xd,X9,X7,Xe,Ko,Xv,Jj,X5,Ka,Xg,Xf,Z5,Xh,Zr,Zx,Zw,Jh,Z3,Jf,Z2,Zv,Ji,Jg,Jw,Z4,Xq,Jy,Xu,X6,Jx,Xw,Jk,Ob.fresh,Ym,Yy,Yx,Zo,and_self,true_and,and_true,Zu,Xb,Kq,Vv,Kp,Jl,Vu,Jo,Jz,false_and,decide_true,decide_false,Z1,Qp,Qn,Qo,Qd,Qm,Qh,Yd,Jv,Vp,J8,J0,J1,Za,Q9,Ub,Ua,W9,W8,Q8,Xn,Z9,Xj,J7,Kl,Jc,e1,h1,h2,Xn,Dr,Qaw,hb]
structure PlusInv (n i A:Nat) (os out:List Nat) (c:Nat):Prop where
 len:out.length = n + 1
 lt:∀ x ∈ out,x < 4294967296
 cle:c ≤ 1
 eq:num 4294967296 out + c * 4294967296 ^ i = A + num 4294967296 (os.take i)
theorem Qem {B:Nat} (l:List Nat) (i:Nat):num B (l.take (i + 1)) = num B (l.take i) + l.getD i 0 * B ^ i:=by
 cases h:l[i]? with
 | some x => rw [Wx h,Jp,h]; rfl
 | none =>
  have:=List.getElem?_eq_none_iff.1 h
  rw [Jp,h,Zq this,Zq (by omega)]
  simp
theorem PlusInv.step {n i A c y:Nat} {os out:List Nat} (h:PlusInv n i A os out c) (hos:∀ x ∈ os,x < 4294967296) (hy:out[i]? = some y):PlusInv n (i + 1) A os (out.set i (Qjd y (os.getD i 0) c)) (Qje y (os.getD i 0) c):=by
 have hy':y < 4294967296:=h.lt y (Zt hy)
 have hc:=h.cle
 have hx:os.getD i 0 < 4294967296:=by
  rw [Jp]
  cases hh:os[i]? with
  | some x => exact hos x (Zt hh)
  | none => decide
 refine ⟨by rw [X3]; exact h.len,D4 h.lt (Jn _ (by decide)),?_,?_⟩
 ·unfold Qje; omega
 ·have h1:=Hr (B:=4294967296) (Qjd y (os.getD i 0) c) hy
  have h2:=h.eq
  rw [Qem]
  have h3:4294967296 * Qje y (os.getD i 0) c + Qjd y (os.getD i 0) c = y + os.getD i 0 + c:=Vn _ _
  generalize Qje y (os.getD i 0) c = q at *
  generalize Qjd y (os.getD i 0) c = r at *
  have e2:q * 4294967296 ^ (i + 1) = 4294967296 * q * 4294967296 ^ i:=by
   rw [K8]; simp only [V4,Yg,K9]
  have e3:(4294967296 * q + r) * 4294967296 ^ i = (y + os.getD i 0 + c) * 4294967296 ^ i:=by rw [h3]
  rw [Kr,Kr,Kr] at e3
  rw [e2]
  omega
def Qc6 (H:List Ob) (s2:Value) (n i c:Nat) (out:List Nat):St :=
 ⟨[(1,s2),(5,.slice (some ⟨H.length,0,none⟩) (n + 1) (n + 1)),(6,.int .u32 c),(19,.int .i64 ((n + 1:Nat):Int)),(20,.int .i64 i)],H ++ [⟨J9 out,true,true,true,1⟩,⟨[.int .u32 0],true,true,true,1⟩],[]⟩
theorem Qmv {H:List Ob} {id2 off2 c2 n m i c y:Nat} {os out:List Nat} (hr:Row .u32 H id2 off2 os) (hm:os.length = m) (hN:n < 2 ^ 40) (hmn:m < 2 ^ 40) (hi:i < n + 1) (hos:∀ x ∈ os,x < 4294967296) (hl:out.length = n + 1) (hy:out[i]? = some y) (hy':y < 4294967296) (hc:c ≤ 1) :
  Xa T H.length Rc (Qc6 H (.slice (some ⟨id2,off2,none⟩) m c2) n i c out) = some (.normal,Qc6 H (.slice (some ⟨id2,off2,none⟩) m c2) n (i + 1) (Qje y (os.getD i 0) c) (out.set i (Qjd y (os.getD i 0) c))):=by
 obtain ⟨o,ho,hcell⟩:=hr
 have ho':=Uv (l:=[⟨J9 out,true,true,true,1⟩,⟨[.int .u32 0],true,true,true,1⟩]) ho
 have hyc:=W7 hy
 have h1:((i:Int) < ((n + 1:Nat):Int)):=by omega
 have e10:IntKind.i64.wrap ((i:Int) + 1) = ((i + 1:Nat):Int):=Vt (n:=i + 1) (by omega)
 have h5:i + 1 ≤ (J9 out).length:=by rw [W6,hl]; omega
 by_cases him:i < m
 ·obtain ⟨b,hb⟩:∃ b,os[i]? = some b:=⟨_,Qq (by omega)⟩
  have hd:os.getD i 0 = b:=by rw [Jp,hb]; rfl
  have hxc:=hcell i b hb
  have h2:((i:Int) < (m:Int)):=by omega
  have hadd:=Qjf hy' (hos b (Zt hb)) hc
  rw [hd]
  simp only [Qc6,Rc,J2,Xp,Xx,Kb,Jq,Xy,Z7,Kc,Xz,Kj,guardOf,Zb,opd,Yo,Kz,Kh,Env.get,Env.put,Vo,Qf,Q2,Q3,Xk,Va,Xm,Jm,St.after,Env.keep,if_true,if_false,ite_true,ite_false,Yh,Vi,unV,Ve,Kg,packed,reduceCtorEq,Zj,Zm,Zd,Qj,Qc,Qi,Zh,Zg,Zp,beq_self_eq_true,J6,Jb,Xs,Xr,Xi,X8,Xt,Xd,X9,X7,Xe,Ko,Xv,Jj,X5,Ka,Xg,Xf,Z5,Xh,Zr,Zx,Zw,Jh,Z3,Jf,Z2,Zv,Ji,Jg,Jw,Z4,Xq,Jy,Xu,X6,Jx,Xw,Jk,Ob.fresh,Ym,Yy,Yx,Zo,and_self,true_and,and_true,Zu,Xb,Kq,Vv,Kp,Jl,Vu,Jo,Jz,false_and,decide_true,decide_false,Z1,Qp,Qn,Qo,Qd,Qm,Qh,Yd,Jv,Vp,J8,J0,J1,Za,Q9,Ub,Ua,W9,W8,Q8,Xn,Z9,Xj,J7,Kl,Jc,h1,h2,ho',hxc,hyc,e10,h5,Ur,Bu,hadd]
 ·have hd:os.getD i 0 = 0:=by rw [Jp,Xl (by omega)]; rfl
  have h2:¬ ((i:Int) < (m:Int)):=by omega
  have hadd:Vl T 63 [.int .u32 (y:Nat),.int .u32 0,.int .u32 (c:Nat)] [] = _:=Qjf hy' (by decide:0 < 4294967296) hc
  rw [hd]
  simp only [Qc6,Rc,J2,Xp,Xx,Kb,Jq,Xy,Z7,Kc,Xz,Kj,guardOf,Zb,opd,Yo,Kz,Kh,Env.get,Env.put,Vo,Qf,Q2,Q3,Xk,Va,Xm,Jm,St.after,Env.keep,if_true,if_false,ite_true,ite_false,Yh,Vi,unV,Ve,Kg,packed,reduceCtorEq,Zj,Zm,Zd,Qj,Qc,Qi,Zh,Zg,Zp,beq_self_eq_true,J6,Jb,Xs,Xr,Xi,X8,Xt,Xd,X9,X7,Xe,Ko,Xv,Jj,X5,Ka,Xg,Xf,Z5,Xh,Zr,Zx,Zw,Jh,Z3,Jf,Z2,Zv,Ji,Jg,Jw,Z4,Xq,Jy,Xu,X6,Jx,Xw,Jk,Ob.fresh,Ym,Yy,Yx,Zo,and_self,true_and,and_true,Zu,Xb,Kq,Vv,Kp,Jl,Vu,Jo,Jz,false_and,decide_true,decide_false,Z1,Qp,Qn,Qo,Qd,Qm,Qh,Yd,Jv,Vp,J8,J0,J1,Za,Q9,Ub,Ua,W9,W8,Q8,Xn,Z9,Xj,J7,Kl,Jc,h1,h2,hyc,e10,h5,Ur,Bu,hadd]
theorem Qst {ws:List Nat} {n:Nat} (hn:ws.length = n):splice (J9 (dig 4294967296 (n + 1) 0)) 0 (J9 ws) = J9 (ws ++ [0]):=by
 rw [Gy _ _ _ (by rw [W6,W6,Ku]; omega),W6,hn,Qi2]
 simp only [Zf,Q2,Zh,J9,Uu,List.map_replicate,List.drop_replicate]
 rw [show n + 1 - n = 1 by omega]; rfl
theorem Qss {ws:List Nat} {n:Nat} (hn:ws.length = n):splice (J9 (ws ++ [0])) n [.int .u32 0] = J9 (ws ++ [0]):=by
 rw [Jo]
 apply Yu
 intro i
 by_cases hi:i = n
 ·subst hi
  rw [Km (by rw [W6,Zn,hn]; simp),W7 (x:=0) (by rw [Ze (by omega),hn]; simp)]; rfl
 ·rw [Xc (Ne.symm hi)]
theorem Qsw {H:List Ob} {id1 off1 c1 n:Nat} {ws:List Nat} (hr1:Row .u32 H id1 off1 ws) (hn:ws.length = n) (hn0:0 < n) (hN:n < 2 ^ 40) :
  Yp 1 4 (H ++ [⟨J9 (dig 4294967296 (n + 1) 0),true,true,true,1⟩]) (.slice (some ⟨H.length,0,none⟩) 0 (n + 1)) (.slice (some ⟨id1,off1,none⟩) n c1) = some (.slice (some ⟨H.length,0,none⟩) n (n + 1),H ++ [⟨J9 (ws ++ [0]),true,true,true,1⟩],none,[H.length]):=by
 have h:=Qbz (H:=H) (r:=[]) (es:=1) (bytes:=4) (len:=0) (cap:=n + 1) (cs:=J9 (dig 4294967296 (n + 1) 0)) (x := .slice (some ⟨id1,off1,none⟩) n c1) (n:=n) (new:=J9 ws) rfl (by rw [← hn]; exact (hr1.app).elems (by omega)) hn0 (by omega) (by omega) (by decide) (by decide) (by rw [W6,W6,Ku]; omega)
 rw [J7,Qst hn,Zh] at h
 exact h
theorem Qsv {H:List Ob} {n:Nat} {ws:List Nat} (hn:ws.length = n) (hN:n < 2 ^ 40) :
  Yp 1 4 (H ++ [⟨J9 (ws ++ [0]),true,true,true,1⟩,⟨[.int .u32 0],true,true,true,1⟩]) (.slice (some ⟨H.length,0,none⟩) n (n + 1)) (.slice (some ⟨H.length + 1,0,none⟩) 1 1) = some (.slice (some ⟨H.length,0,none⟩) (n + 1) (n + 1),H ++ [⟨J9 (ws ++ [0]),true,true,true,1⟩,⟨[.int .u32 0],true,true,true,1⟩],none,[H.length]):=by
 have h:=Qbz (H:=H) (r:=[⟨[.int .u32 0],true,true,true,1⟩]) (es:=1) (bytes:=4) (len:=n) (cap:=n + 1) (cs:=J9 (ws ++ [0])) (x := .slice (some ⟨H.length + 1,0,none⟩) 1 1) (n:=1) (new:=[.int .u32 0]) rfl (by simp [elemsOf,Yy]) (by decide) (by omega) (by omega) (by decide) (by decide) (by rw [W6,Zn,hn]; simp)
 rw [Xb,Qss hn] at h
 exact h
theorem Qps {n m A:Nat} {os out:List Nat} {c:Nat} (hinv:PlusInv n (n + 1) A os out c) (hm:os.length = m) (hmn:m ≤ n) (hA:A < 4294967296 ^ n) (hos:∀ x ∈ os,x < 4294967296):dig 4294967296 (n + 1) (A + num 4294967296 os) = out:=by
  have h1:=hinv.eq
  rw [show os.take (n + 1) = os from Zq (by omega)] at h1
  have h3:=num_lt hos
  rw [hm] at h3
  have h4:4294967296 ^ m ≤ 4294967296 ^ n:=Kx (by decide) hmn
  have h5:c = 0:=by
   have hc:=hinv.cle
   rcases Vr 0 c with h | h
   ·have:c = 1:=by omega
    subst this
    rw [K8] at h1
    omega
   ·omega
  subst h5
  rw [J7,Z1] at h1
  rw [← h1,← hinv.len,Mc (by decide) hinv.lt]
theorem Qmu {H:List Ob} {id1 off1 id2 off2 c2 n m:Nat} {ws os:List Nat} (hr1:Row .u32 H id1 off1 ws) (hr2:Row .u32 H id2 off2 os) (hn:ws.length = n) (hm:os.length = m) (hn0:0 < n) (hmn:m ≤ n) (hN:n < 2 ^ 40) (hws:∀ x ∈ ws,x < 4294967296) (hos:∀ x ∈ os,x < 4294967296) :
  ∃ out c,Xa T H.length (.block 0 (.loop Rc)) ⟨[(1,.slice (some ⟨id2,off2,none⟩) m c2),(5,.slice (some ⟨H.length,0,none⟩) (n + 1) (n + 1)),(6,.int .u32 0),(19,.int .i64 ((n + 1:Nat):Int)),(20,.int .i64 0)],H ++ [⟨J9 (ws ++ [0]),true,true,true,1⟩,⟨[.int .u32 0],true,true,true,1⟩],[]⟩ = some (.normal,⟨[(1,.slice (some ⟨id2,off2,none⟩) m c2),(5,.slice (some ⟨H.length,0,none⟩) (n + 1) (n + 1)),(6,.int .u32 (c:Nat)),(19,.int .i64 ((n + 1:Nat):Int)),(20,.int .i64 ((n + 1:Nat):Int)),(21,.bool false)],H ++ [⟨J9 out,true,true,true,1⟩,⟨[.int .u32 0],true,true,true,1⟩],[]⟩) ∧ PlusInv n (n + 1) (num 4294967296 ws) os out c:=by
 have h0:PlusInv n 0 (num 4294967296 ws) os (ws ++ [0]) 0:=⟨by simp [hn],fun x hx => by
  rcases Kf.1 hx with h | h
  ·exact hws x h
  ·simp at h; omega,by decide,by rw [G8]; simp [num]⟩
 obtain ⟨s',hb,out,c,rfl,hinv⟩:=Yn (T:=T) (base:=H.length) (id:=0) (body:=Rc)
  (fun i s => ∃ out c,s = Qc6 H (.slice (some ⟨id2,off2,none⟩) m c2) n i c out ∧ PlusInv n i (num 4294967296 ws) os out c)
  (Q:=fun s => ∃ out c,s = ⟨[(1,.slice (some ⟨id2,off2,none⟩) m c2),(5,.slice (some ⟨H.length,0,none⟩) (n + 1) (n + 1)),(6,.int .u32 (c:Nat)),(19,.int .i64 ((n + 1:Nat):Int)),(20,.int .i64 ((n + 1:Nat):Int)),(21,.bool false)],H ++ [⟨J9 out,true,true,true,1⟩,⟨[.int .u32 0],true,true,true,1⟩],[]⟩ ∧ PlusInv n (n + 1) (num 4294967296 ws) os out c)
  (n + 1) ⟨_,_,rfl,h0⟩
  (fun i s hi hs => by
   obtain ⟨out,c,rfl,hI⟩:=hs
   obtain ⟨y,hy⟩:∃ y,out[i]? = some y:=⟨_,Qq (by rw [hI.len]; omega)⟩
   exact ⟨_,Qmv hr2 hm hN (by omega) hi hos hI.len hy (hI.lt y (Zt hy)) hI.cle,_,_,rfl,hI.step hos hy⟩)
  (fun s hs => by
   obtain ⟨out,c,rfl,hI⟩:=hs
   have h1:¬ (((n + 1:Nat):Int) < ((n + 1:Nat):Int)):=by omega
   refine ⟨_,?_,out,c,rfl,hI⟩
   simp only [Qc6,Rc,J2,Xp,Xx,Kb,Jq,Xy,Z7,Kc,Xz,Kj,guardOf,Zb,opd,Yo,Kz,Kh,Env.get,Env.put,Vo,Qf,Q2,Q3,Xk,Va,Xm,Jm,St.after,Env.keep,if_true,if_false,ite_true,ite_false,Yh,Vi,unV,Ve,Kg,packed,reduceCtorEq,Zj,Zm,Zd,Qj,Qc,Qi,Zh,Zg,Zp,beq_self_eq_true,J6,Jb,Xs,Xr,Xi,X8,Xt,Xd,X9,X7,Xe,Ko,Xv,Jj,X5,Ka,Xg,Xf,Z5,Xh,Zr,Zx,Zw,Jh,Z3,Jf,Z2,Zv,Ji,Jg,Jw,Z4,Xq,Jy,Xu,X6,Jx,Xw,Jk,Ob.fresh,Ym,Yy,Yx,Zo,and_self,true_and,and_true,Zu,Xb,Kq,Vv,Kp,Jl,Vu,Jo,Jz,false_and,decide_true,decide_false,Z1,Qp,Qn,Qo,Qd,Qm,Qh,Yd,Jv,Vp,J8,J0,J1,Za,Q9,Ub,Ua,W9,W8,Q8,Xn,Z9,Xj,J7,Kl,Jc,h1])
 rw [show Qc6 H (.slice (some ⟨id2,off2,none⟩) m c2) n 0 0 (ws ++ [0]) = ⟨[(1,.slice (some ⟨id2,off2,none⟩) m c2),(5,.slice (some ⟨H.length,0,none⟩) (n + 1) (n + 1)),(6,.int .u32 0),(19,.int .i64 ((n + 1:Nat):Int)),(20,.int .i64 0)],H ++ [⟨J9 (ws ++ [0]),true,true,true,1⟩,⟨[.int .u32 0],true,true,true,1⟩],[]⟩ from rfl] at hb
 exact ⟨out,c,hb,hinv⟩
theorem Qx8 {k:Nat} (h:k < 2 ^ 41):((k:Nat):Int) * ((4:Nat):Int) ≤ 2 ^ 47:=by omega
theorem Qpt {H:List Ob} {k n m c:Nat} {id1 off1 c1 id2 off2 c2:Nat} {ws out:List Nat} (e1:IntKind.i64.wrap ((n:Int) + 1) = ((k:Nat):Int)) (h1:((k:Nat):Int) * ((4:Nat):Int) ≤ 2 ^ 47)
  (ha1:Yp 1 4 (H ++ [⟨J9 (dig 4294967296 k 0),true,true,true,1⟩]) (.slice (some ⟨H.length,0,none⟩) 0 k) (.slice (some ⟨id1,off1,none⟩) n c1) = some (.slice (some ⟨H.length,0,none⟩) n k,H ++ [⟨J9 (ws ++ [0]),true,true,true,1⟩],none,[H.length]))
  (ha2:Yp 1 4 (H ++ [⟨J9 (ws ++ [0]),true,true,true,1⟩,⟨[.int .u32 0],true,true,true,1⟩]) (.slice (some ⟨H.length,0,none⟩) n k) (.slice (some ⟨H.length + 1,0,none⟩) 1 1) = some (.slice (some ⟨H.length,0,none⟩) k k,H ++ [⟨J9 (ws ++ [0]),true,true,true,1⟩,⟨[.int .u32 0],true,true,true,1⟩],none,[H.length]))
  (hb:Xa T H.length (.block 0 (.loop Rc)) ⟨[(1,.slice (some ⟨id2,off2,none⟩) m c2),(5,.slice (some ⟨H.length,0,none⟩) (k) (k)),(6,.int .u32 0),(19,.int .i64 ((k:Nat):Int)),(20,.int .i64 0)],H ++ [⟨J9 (ws ++ [0]),true,true,true,1⟩,⟨[.int .u32 0],true,true,true,1⟩],[]⟩ = some (.normal,⟨[(1,.slice (some ⟨id2,off2,none⟩) m c2),(5,.slice (some ⟨H.length,0,none⟩) (k) (k)),(6,.int .u32 (c:Nat)),(19,.int .i64 ((k:Nat):Int)),(20,.int .i64 ((k:Nat):Int)),(21,.bool false)],H ++ [⟨J9 out,true,true,true,1⟩,⟨[.int .u32 0],true,true,true,1⟩],[]⟩)) :
  Vl T 40 [.slice (some ⟨id1,off1,none⟩) n c1,.slice (some ⟨id2,off2,none⟩) m c2] H = some (.slice (some ⟨H.length,0,none⟩) k k,H ++ [⟨J9 out,true,true,true,1⟩,⟨[.int .u32 0],true,true,true,1⟩],[]):=by
 have h2:(0:Nat) < 4:=by decide
 have hfill:fillL [Value.int .u32 0] [(0,1,.int .u32 0)] = some [.int .u32 0]:=rfl
 rw [J3 (fn:=a45) rfl]
 simp only [a45,J2,Xp,Xx,Kb,Jq,Xy,Z7,Kc,Xz,Kj,guardOf,Zb,opd,Yo,Kz,Kh,Env.get,Env.put,Vo,Qf,Q2,Q3,Xk,Va,Xm,Jm,St.after,Env.keep,if_true,if_false,ite_true,ite_false,Yh,Vi,unV,Ve,Kg,packed,reduceCtorEq,Zj,Zm,Zd,Qj,Qc,Qi,Zh,Zg,Zp,beq_self_eq_true,J6,Jb,Xs,Xr,Xi,X8,Xt,Xd,X9,X7,Xe,Ko,Xv,Jj,X5,Ka,Xg,Xf,Z5,Xh,Zr,Zx,Zw,Jh,Z3,Jf,Z2,Zv,Ji,Jg,Jw,Z4,Xq,Jy,Xu,X6,Jx,Xw,Jk,Ob.fresh,Ym,Yy,Yx,Zo,and_self,true_and,and_true,Zu,Xb,Kq,Vv,Kp,Jl,Vu,Jo,Jz,false_and,decide_true,decide_false,Z1,Qp,Qn,Qo,Qd,Qm,Qh,Yd,Jv,Vp,J8,J0,J1,Za,Q9,Ub,Ua,W9,W8,Q8,Xn,Z9,Xj,J7,Kl,Jc,e1,h1,h2,Xn,Dr,Qaw,hfill,Zn,X1,ha1,ha2,hb]
theorem Qsu {H:List Ob} {id1 off1 c1 id2 off2 c2 n m:Nat} {ws os:List Nat} (hr1:Row .u32 H id1 off1 ws) (hr2:Row .u32 H id2 off2 os) (hn:ws.length = n) (hm:os.length = m) (hn0:0 < n) (hmn:m ≤ n) (hN:n < 2 ^ 40) (hws:∀ x ∈ ws,x < 4294967296) (hos:∀ x ∈ os,x < 4294967296) :
  Vl T 40 [.slice (some ⟨id1,off1,none⟩) n c1,.slice (some ⟨id2,off2,none⟩) m c2] H = some (.slice (some ⟨H.length,0,none⟩) (n + 1) (n + 1),H ++ [⟨J9 (dig 4294967296 (n + 1) (num 4294967296 ws + num 4294967296 os)),true,true,true,1⟩,⟨[.int .u32 0],true,true,true,1⟩],[]):=by
 obtain ⟨out,c,hb,hinv⟩:=Qmu (c2:=c2) hr1 hr2 hn hm hn0 hmn hN hws hos
 have hout:=Qps hinv hm hmn (by rw [← hn]; exact num_lt hws) hos
 rw [hout]
 exact Qpt (Vt (n:=n + 1) (by omega)) (Qx8 (by omega)) (Qsw hr1 hn hn0 hN) (Qsv hn hN) hb
def ell:Nat:=7237005577332262213973186563042994240857116359379907606001950938285454250989
theorem Ql6:num 4294967296 orderW = ell:=by decide
theorem T1:∀ x ∈ orderW,x < 4294967296:=by decide
structure ShInv (k c0:Nat) (r0 r:List Nat) (c:Nat):Prop where
 len:r.length = 8
 lt:∀ x ∈ r,x < 4294967296
 cle:c ≤ 1
 eq:num 4294967296 r + c * 4294967296 ^ k = num 4294967296 r0 + num 4294967296 (r0.take k) + c0
 rest:∀ j,k ≤ j → r[j]? = r0[j]?
theorem ShInv.step {k c0 c x:Nat} {r0 r:List Nat} (h:ShInv k c0 r0 r c) (hx:r[k]? = some x):ShInv (k + 1) c0 r0 (r.set k ((2 * x + c) % 4294967296)) (x / 2147483648):=by
 have hx':x < 4294967296:=h.lt x (Zt hx)
 have hc:=h.cle
 refine ⟨by rw [X3]; exact h.len,D4 h.lt (Jn _ (by decide)),by omega,?_,?_⟩
 ·have h1:=Hr (B:=4294967296) ((2 * x + c) % 4294967296) hx
  have h2:=h.eq
  rw [Wx (by rw [← h.rest k (Q8 _)]; exact hx)]
  have h3:4294967296 * (x / 2147483648) + (2 * x + c) % 4294967296 = 2 * x + c:=by omega
  generalize (2 * x + c) % 4294967296 = y at *
  generalize x / 2147483648 = q at *
  have e2:q * 4294967296 ^ (k + 1) = 4294967296 * q * 4294967296 ^ k:=by
   rw [K8]; simp only [V4,Yg,K9]
  have e3:(4294967296 * q + y) * 4294967296 ^ k = (2 * x + c) * 4294967296 ^ k:=by rw [h3]
  rw [Kr,Kr,V4 2] at e3
  rw [e2]
  omega
 ·intro j hj
  rw [Xc (by omega)]
  exact h.rest j (by omega)
structure SbInv (k:Nat) (r nx:List Nat) (b:Nat):Prop where
 len:nx.length = 8
 lt:∀ x ∈ nx,x < 4294967296
 ble:b ≤ 1
 eq:num 4294967296 (r.take k) + b * 4294967296 ^ k = num 4294967296 (orderW.take k) + num 4294967296 (nx.take k)
theorem Qeh {l:List Nat} {k y:Nat}:(l.set k y).take k = l.take k:=by
 apply Yu
 intro i
 rw [Kt,Kt]
 by_cases h:i < k
 ·rw [if_pos h,if_pos h,Xc (by omega)]
 ·rw [if_neg h,if_neg h]
theorem SbInv.step {k b x l:Nat} {r nx:List Nat} (h:SbInv k r nx b) (hr:∀ x ∈ r,x < 4294967296) (hk:k < 8) (hx:r[k]? = some x) (hl:orderW[k]? = some l):SbInv (k + 1) r (nx.set k (R0 x l b)) (R1 x l b):=by
 have hx':x < 4294967296:=hr x (Zt hx)
 have hl':l < 4294967296:=T1 l (Zt hl)
 have hb:=h.ble
 have hd:R0 x l b < 4294967296 ∧ x + 4294967296 * R1 x l b = l + b + R0 x l b ∧ R1 x l b ≤ 1:=by
  unfold R0 R1; split <;> omega
 refine ⟨by rw [X3]; exact h.len,D4 h.lt hd.1,hd.2.2,?_⟩
 have h2:=h.eq
 have hy:(nx.set k (R0 x l b))[k]? = some (R0 x l b):=Km (by rw [h.len]; exact hk)
 rw [Wx hx,Wx hl,Wx hy,Qeh]
 have h3:=hd.2.1
 generalize R0 x l b = d at *
 generalize R1 x l b = q at *
 have e2:q * 4294967296 ^ (k + 1) = 4294967296 * q * 4294967296 ^ k:=by
  rw [K8]; simp only [V4,Yg,K9]
 have e3:(x + 4294967296 * q) * 4294967296 ^ k = (l + b + d) * 4294967296 ^ k:=by rw [h3]
 rw [Kr,Kr,Kr] at e3
 rw [e2]
 omega
theorem Qo5 {H:List Ob} {s v:Value} {k c x:Nat} {r nx:List Nat} (hk:k < 8) (hl:r.length = 8) (hx:r[k]? = some x) (hx':x < 4294967296) (hc:c ≤ 1) :
  Xa T H.length Hg (⟨[(0,s),(3,(.slice (some ⟨H.length,0,none⟩) 8 8)),(4,(.slice (some ⟨H.length + 1,0,none⟩) 8 8)),(5,(.slice (some ⟨(H.length + 2),0,none⟩) 8 8)),(6,v),(7,.int .u32 ((c:Nat))),(32,.int .i64 8),(33,.int .i64 ((k:Nat)))],H ++ [⟨J9 (r),true,true,true,1⟩,⟨J9 orderW,true,true,true,1⟩,⟨J9 (nx),true,true,true,1⟩],[]⟩:St) = some (.normal,(⟨[(0,s),(3,(.slice (some ⟨H.length,0,none⟩) 8 8)),(4,(.slice (some ⟨H.length + 1,0,none⟩) 8 8)),(5,(.slice (some ⟨(H.length + 2),0,none⟩) 8 8)),(6,v),(7,.int .u32 (((x / 2147483648:Nat):Int))),(32,.int .i64 8),(33,.int .i64 (((k + 1:Nat):Int)))],H ++ [⟨J9 (r.set k ((2 * x + c) % 4294967296)),true,true,true,1⟩,⟨J9 orderW,true,true,true,1⟩,⟨J9 (nx),true,true,true,1⟩],[]⟩:St)):=by
 have hxc:=W7 hx
 have h1:((k:Int) < (8:Int)):=by omega
 have h1':((k:Int) < ((8:Nat):Int)):=by omega
 have e1:IntKind.u32.wrap ((x:Int) * 2 ^ min 1 IntKind.u32.bits) = ((2 * x % 4294967296:Nat):Int):=by
  rw [wrap_u32,show min 1 IntKind.u32.bits = 1 from rfl]; omega
 have e2:Vj .or .u32 ((2 * x % 4294967296:Nat):Int) (c:Int) = (((2 * x + c) % 4294967296:Nat):Int):=by
  rw [B0 (k := .u32) (a:=2 * x % 4294967296) (b:=c) rfl (Jn _ (by decide)) (by show c < 2 ^ 32; omega)]
  congr 1
  have h2:2 * x % 4294967296 = 2 ^ 1 * (x % 2147483648):=by omega
  rw [h2,← Bl (by omega:c < 2 ^ 1)]
  omega
 have e3:Mo (x:Int) (2 ^ min 31 IntKind.u32.bits) = ((x / 2147483648:Nat):Int):=by
  rw [Yj _ (by decide)]; rfl
 have e10:IntKind.i64.wrap ((k:Int) + 1) = ((k + 1:Nat):Int):=Vt (n:=k + 1) (by omega)
 have h5:k + 1 ≤ (J9 r).length:=by rw [W6,hl]; omega
 simp only [Hg,J2,Xp,Xx,Kb,Jq,Xy,Z7,Kc,Xz,Kj,guardOf,Zb,opd,Yo,Kz,Kh,Env.get,Env.put,Vo,Qf,Q2,Q3,Xk,Va,Xm,Jm,St.after,Env.keep,if_true,if_false,ite_true,ite_false,Yh,Vi,unV,Ve,Kg,packed,reduceCtorEq,Zj,Zm,Zd,Qj,Qc,Qi,Zh,Zg,Zp,beq_self_eq_true,J6,Jb,Xs,Xr,Xi,X8,Xt,Xd,X9,X7,Xe,Ko,Xv,Jj,X5,Ka,Xg,Xf,Z5,Xh,Zr,Zx,Zw,Jh,Z3,Jf,Z2,Zv,Ji,Jg,Jw,Z4,Xq,Jy,Xu,X6,Jx,Xw,Jk,Ob.fresh,Ym,Yy,Yx,Zo,and_self,true_and,and_true,Zu,Xb,Kq,Vv,Kp,Jl,Vu,Jo,Jz,false_and,decide_true,decide_false,Z1,Qp,Qn,Qo,Qd,Qm,Qh,Yd,Jv,Vp,J8,J0,J1,Za,Q9,Ub,Ua,W9,W8,Q8,Xn,Z9,Xj,J7,Kl,Jc,h1,h1',hxc,e1,e2,e3,e10,h5,Ur,Bu]
theorem Qpb {H:List Ob} {s v:Value} {k b x l:Nat} {r nx:List Nat} (hk:k < 8) (hl:nx.length = 8) (hx:r[k]? = some x) (hx':x < 4294967296) (ho:orderW[k]? = some l) (hb:b ≤ 1) :
  Xa T H.length Hh (⟨[(0,s),(3,(.slice (some ⟨H.length,0,none⟩) 8 8)),(4,(.slice (some ⟨H.length + 1,0,none⟩) 8 8)),(5,(.slice (some ⟨(H.length + 2),0,none⟩) 8 8)),(6,v),(9,.int .u32 ((b:Nat))),(53,.int .i64 8),(54,.int .i64 ((k:Nat)))],H ++ [⟨J9 (r),true,true,true,1⟩,⟨J9 orderW,true,true,true,1⟩,⟨J9 (nx),true,true,true,1⟩],[]⟩:St) = some (.normal,(⟨[(0,s),(3,(.slice (some ⟨H.length,0,none⟩) 8 8)),(4,(.slice (some ⟨H.length + 1,0,none⟩) 8 8)),(5,(.slice (some ⟨(H.length + 2),0,none⟩) 8 8)),(6,v),(9,.int .u32 (((R1 x l b:Nat):Int))),(53,.int .i64 8),(54,.int .i64 (((k + 1:Nat):Int)))],H ++ [⟨J9 (r),true,true,true,1⟩,⟨J9 orderW,true,true,true,1⟩,⟨J9 (nx.set k (R0 x l b)),true,true,true,1⟩],[]⟩:St)):=by
 have hxc:=W7 hx
 have hlc:=W7 ho
 have h1:((k:Int) < (8:Int)):=by omega
 have h1':((k:Int) < ((8:Nat):Int)):=by omega
 have hsub:=Qcv hx' (T1 l (Zt ho)) hb
 have e10:IntKind.i64.wrap ((k:Int) + 1) = ((k + 1:Nat):Int):=Vt (n:=k + 1) (by omega)
 have h5:k + 1 ≤ (J9 nx).length:=by rw [W6,hl]; omega
 simp only [Hh,J2,Xp,Xx,Kb,Jq,Xy,Z7,Kc,Xz,Kj,guardOf,Zb,opd,Yo,Kz,Kh,Env.get,Env.put,Vo,Qf,Q2,Q3,Xk,Va,Xm,Jm,St.after,Env.keep,if_true,if_false,ite_true,ite_false,Yh,Vi,unV,Ve,Kg,packed,reduceCtorEq,Zj,Zm,Zd,Qj,Qc,Qi,Zh,Zg,Zp,beq_self_eq_true,J6,Jb,Xs,Xr,Xi,X8,Xt,Xd,X9,X7,Xe,Ko,Xv,Jj,X5,Ka,Xg,Xf,Z5,Xh,Zr,Zx,Zw,Jh,Z3,Jf,Z2,Zv,Ji,Jg,Jw,Z4,Xq,Jy,Xu,X6,Jx,Xw,Jk,Ob.fresh,Ym,Yy,Yx,Zo,and_self,true_and,and_true,Zu,Xb,Kq,Vv,Kp,Jl,Vu,Jo,Jz,false_and,decide_true,decide_false,Z1,Qp,Qn,Qo,Qd,Qm,Qh,Yd,Jv,Vp,J8,J0,J1,Za,Q9,Ub,Ua,W9,W8,Q8,Xn,Z9,Xj,J7,Kl,Jc,h1,h1',hxc,hlc,hsub,e10,h5,Qhl,Bu]
theorem Qo3 {H:List Ob} {s v:Value} {c:Nat} {r nx:List Nat} (hl:r.length = 8) (hr:∀ x ∈ r,x < 4294967296) (hc:c ≤ 1) :
  ∃ r' c',Xa T H.length (.block 2 (.loop Hg)) (⟨[(0,s),(3,(.slice (some ⟨H.length,0,none⟩) 8 8)),(4,(.slice (some ⟨H.length + 1,0,none⟩) 8 8)),(5,(.slice (some ⟨(H.length + 2),0,none⟩) 8 8)),(6,v),(7,.int .u32 ((c:Nat))),(32,.int .i64 8),(33,.int .i64 (0))],H ++ [⟨J9 (r),true,true,true,1⟩,⟨J9 orderW,true,true,true,1⟩,⟨J9 (nx),true,true,true,1⟩],[]⟩:St) = some (.normal,(⟨[(0,s),(3,(.slice (some ⟨H.length,0,none⟩) 8 8)),(4,(.slice (some ⟨H.length + 1,0,none⟩) 8 8)),(5,(.slice (some ⟨(H.length + 2),0,none⟩) 8 8)),(6,v),(7,.int .u32 ((c':Nat))),(32,.int .i64 8),(33,.int .i64 (8)),(34,.bool false)],H ++ [⟨J9 (r'),true,true,true,1⟩,⟨J9 orderW,true,true,true,1⟩,⟨J9 (nx),true,true,true,1⟩],[]⟩:St)) ∧ ShInv 8 c r r' c':=by
 obtain ⟨s',hb,r',c',rfl,hinv⟩:=Yn (T:=T) (base:=H.length) (id:=2) (body:=Hg)
  (fun k s1 => ∃ r' c',s1 = (⟨[(0,s),(3,(.slice (some ⟨H.length,0,none⟩) 8 8)),(4,(.slice (some ⟨H.length + 1,0,none⟩) 8 8)),(5,(.slice (some ⟨(H.length + 2),0,none⟩) 8 8)),(6,v),(7,.int .u32 ((c':Nat))),(32,.int .i64 8),(33,.int .i64 ((k:Nat)))],H ++ [⟨J9 (r'),true,true,true,1⟩,⟨J9 orderW,true,true,true,1⟩,⟨J9 (nx),true,true,true,1⟩],[]⟩:St) ∧ ShInv k c r r' c')
  (Q:=fun s1 => ∃ r' c',s1 = (⟨[(0,s),(3,(.slice (some ⟨H.length,0,none⟩) 8 8)),(4,(.slice (some ⟨H.length + 1,0,none⟩) 8 8)),(5,(.slice (some ⟨(H.length + 2),0,none⟩) 8 8)),(6,v),(7,.int .u32 ((c':Nat))),(32,.int .i64 8),(33,.int .i64 (8)),(34,.bool false)],H ++ [⟨J9 (r'),true,true,true,1⟩,⟨J9 orderW,true,true,true,1⟩,⟨J9 (nx),true,true,true,1⟩],[]⟩:St) ∧ ShInv 8 c r r' c')
  8 (s:=(⟨[(0,s),(3,(.slice (some ⟨H.length,0,none⟩) 8 8)),(4,(.slice (some ⟨H.length + 1,0,none⟩) 8 8)),(5,(.slice (some ⟨(H.length + 2),0,none⟩) 8 8)),(6,v),(7,.int .u32 ((c:Nat))),(32,.int .i64 8),(33,.int .i64 (((0:Nat):Int)))],H ++ [⟨J9 (r),true,true,true,1⟩,⟨J9 orderW,true,true,true,1⟩,⟨J9 (nx),true,true,true,1⟩],[]⟩:St)) ⟨_,_,rfl,⟨hl,hr,hc,by simp [num],fun _ _ => rfl⟩⟩
  (fun k s1 hk hs => by
   obtain ⟨r',c',rfl,hI⟩:=hs
   obtain ⟨x,hx⟩:∃ x,r'[k]? = some x:=⟨_,Qq (by rw [hI.len]; omega)⟩
   exact ⟨_,Qo5 hk hI.len hx (hI.lt x (Zt hx)) hI.cle,_,_,rfl,hI.step hx⟩)
  (fun s1 hs => by
   obtain ⟨r',c',rfl,hI⟩:=hs
   have h1:¬ (((8:Nat):Int) < (8:Int)):=by omega
   refine ⟨_,?_,r',c',rfl,hI⟩
   simp only [Hg,J2,Xp,Xx,Kb,Jq,Xy,Z7,Kc,Xz,Kj,guardOf,Zb,opd,Yo,Kz,Kh,Env.get,Env.put,Vo,Qf,Q2,Q3,Xk,Va,Xm,Jm,St.after,Env.keep,if_true,if_false,ite_true,ite_false,Yh,Vi,unV,Ve,Kg,packed,reduceCtorEq,Zj,Zm,Zd,Qj,Qc,Qi,Zh,Zg,Zp,beq_self_eq_true,J6,Jb,Xs,Xr,Xi,X8,Xt,Xd,X9,X7,Xe,Ko,Xv,Jj,X5,Ka,Xg,Xf,Z5,Xh,Zr,Zx,Zw,Jh,Z3,Jf,Z2,Zv,Ji,Jg,Jw,Z4,Xq,Jy,Xu,X6,Jx,Xw,Jk,Ob.fresh,Ym,Yy,Yx,Zo,and_self,true_and,and_true,Zu,Xb,Kq,Vv,Kp,Jl,Vu,Jo,Jz,false_and,decide_true,decide_false,Z1,Qp,Qn,Qo,Qd,Qm,Qh,Yd,Jv,Vp,J8,J0,J1,Za,Q9,Ub,Ua,W9,W8,Q8,Xn,Z9,Xj,J7,Kl,Jc,h1]
   rfl)
 exact ⟨r',c',hb,hinv⟩
theorem Qo9 {H:List Ob} {s v:Value} {r nx:List Nat} (hl:r.length = 8) (hr:∀ x ∈ r,x < 4294967296) (hl2:nx.length = 8) (hr2:∀ x ∈ nx,x < 4294967296) :
  ∃ nx' b,Xa T H.length (.block 4 (.loop Hh)) (⟨[(0,s),(3,(.slice (some ⟨H.length,0,none⟩) 8 8)),(4,(.slice (some ⟨H.length + 1,0,none⟩) 8 8)),(5,(.slice (some ⟨(H.length + 2),0,none⟩) 8 8)),(6,v),(9,.int .u32 (0)),(53,.int .i64 8),(54,.int .i64 (0))],H ++ [⟨J9 (r),true,true,true,1⟩,⟨J9 orderW,true,true,true,1⟩,⟨J9 (nx),true,true,true,1⟩],[]⟩:St) = some (.normal,(⟨[(0,s),(3,(.slice (some ⟨H.length,0,none⟩) 8 8)),(4,(.slice (some ⟨H.length + 1,0,none⟩) 8 8)),(5,(.slice (some ⟨(H.length + 2),0,none⟩) 8 8)),(6,v),(9,.int .u32 ((b:Nat))),(53,.int .i64 8),(54,.int .i64 (8)),(55,.bool false)],H ++ [⟨J9 (r),true,true,true,1⟩,⟨J9 orderW,true,true,true,1⟩,⟨J9 (nx'),true,true,true,1⟩],[]⟩:St)) ∧ SbInv 8 r nx' b:=by
 obtain ⟨s',hb,nx',b,rfl,hinv⟩:=Yn (T:=T) (base:=H.length) (id:=4) (body:=Hh)
  (fun k s1 => ∃ nx' b,s1 = (⟨[(0,s),(3,(.slice (some ⟨H.length,0,none⟩) 8 8)),(4,(.slice (some ⟨H.length + 1,0,none⟩) 8 8)),(5,(.slice (some ⟨(H.length + 2),0,none⟩) 8 8)),(6,v),(9,.int .u32 ((b:Nat))),(53,.int .i64 8),(54,.int .i64 ((k:Nat)))],H ++ [⟨J9 (r),true,true,true,1⟩,⟨J9 orderW,true,true,true,1⟩,⟨J9 (nx'),true,true,true,1⟩],[]⟩:St) ∧ SbInv k r nx' b)
  (Q:=fun s1 => ∃ nx' b,s1 = (⟨[(0,s),(3,(.slice (some ⟨H.length,0,none⟩) 8 8)),(4,(.slice (some ⟨H.length + 1,0,none⟩) 8 8)),(5,(.slice (some ⟨(H.length + 2),0,none⟩) 8 8)),(6,v),(9,.int .u32 ((b:Nat))),(53,.int .i64 8),(54,.int .i64 (8)),(55,.bool false)],H ++ [⟨J9 (r),true,true,true,1⟩,⟨J9 orderW,true,true,true,1⟩,⟨J9 (nx'),true,true,true,1⟩],[]⟩:St) ∧ SbInv 8 r nx' b)
  8 (s:=(⟨[(0,s),(3,(.slice (some ⟨H.length,0,none⟩) 8 8)),(4,(.slice (some ⟨H.length + 1,0,none⟩) 8 8)),(5,(.slice (some ⟨(H.length + 2),0,none⟩) 8 8)),(6,v),(9,.int .u32 (((0:Nat):Int))),(53,.int .i64 8),(54,.int .i64 (((0:Nat):Int)))],H ++ [⟨J9 (r),true,true,true,1⟩,⟨J9 orderW,true,true,true,1⟩,⟨J9 (nx),true,true,true,1⟩],[]⟩:St)) ⟨_,_,rfl,⟨hl2,hr2,by decide,by simp [num]⟩⟩
  (fun k s1 hk hs => by
   obtain ⟨nx',b,rfl,hI⟩:=hs
   obtain ⟨x,hx⟩:∃ x,r[k]? = some x:=⟨_,Qq (by omega)⟩
   obtain ⟨l,hlk⟩:∃ l,orderW[k]? = some l:=⟨_,Qq (show k < orderW.length from hk)⟩
   exact ⟨_,Qpb hk hI.len hx (hr x (Zt hx)) hlk hI.ble,_,_,rfl,hI.step hr hk hx hlk⟩)
  (fun s1 hs => by
   obtain ⟨nx',b,rfl,hI⟩:=hs
   have h1:¬ (((8:Nat):Int) < (8:Int)):=by omega
   refine ⟨_,?_,nx',b,rfl,hI⟩
   simp only [Hh,J2,Xp,Xx,Kb,Jq,Xy,Z7,Kc,Xz,Kj,guardOf,Zb,opd,Yo,Kz,Kh,Env.get,Env.put,Vo,Qf,Q2,Q3,Xk,Va,Xm,Jm,St.after,Env.keep,if_true,if_false,ite_true,ite_false,Yh,Vi,unV,Ve,Kg,packed,reduceCtorEq,Zj,Zm,Zd,Qj,Qc,Qi,Zh,Zg,Zp,beq_self_eq_true,J6,Jb,Xs,Xr,Xi,X8,Xt,Xd,X9,X7,Xe,Ko,Xv,Jj,X5,Ka,Xg,Xf,Z5,Xh,Zr,Zx,Zw,Jh,Z3,Jf,Z2,Zv,Ji,Jg,Jw,Z4,Xq,Jy,Xu,X6,Jx,Xw,Jk,Ob.fresh,Ym,Yy,Yx,Zo,and_self,true_and,and_true,Zu,Xb,Kq,Vv,Kp,Jl,Vu,Jo,Jz,false_and,decide_true,decide_false,Z1,Qp,Qn,Qo,Qd,Qm,Qh,Yd,Jv,Vp,J8,J0,J1,Za,Q9,Ub,Ua,W9,W8,Q8,Xn,Z9,Xj,J7,Kl,Jc,h1]
   rfl)
 exact ⟨nx',b,hb,hinv⟩
theorem Qo4 {H:List Ob} {s v:Value} {k c x:Nat} {r nx:List Nat} (hk:k < 8) (hl:r.length = 8) (hx:r[k]? = some x) (hx':x < 4294967296) (hc:c ≤ 1) :
  Xa T H.length Hg (⟨[(0,s),(3,(.slice (some ⟨(H.length + 2),0,none⟩) 8 8)),(4,(.slice (some ⟨H.length + 1,0,none⟩) 8 8)),(5,(.slice (some ⟨H.length,0,none⟩) 8 8)),(6,v),(7,.int .u32 ((c:Nat))),(32,.int .i64 8),(33,.int .i64 ((k:Nat)))],H ++ [⟨J9 (nx),true,true,true,1⟩,⟨J9 orderW,true,true,true,1⟩,⟨J9 (r),true,true,true,1⟩],[]⟩:St) = some (.normal,(⟨[(0,s),(3,(.slice (some ⟨(H.length + 2),0,none⟩) 8 8)),(4,(.slice (some ⟨H.length + 1,0,none⟩) 8 8)),(5,(.slice (some ⟨H.length,0,none⟩) 8 8)),(6,v),(7,.int .u32 (((x / 2147483648:Nat):Int))),(32,.int .i64 8),(33,.int .i64 (((k + 1:Nat):Int)))],H ++ [⟨J9 (nx),true,true,true,1⟩,⟨J9 orderW,true,true,true,1⟩,⟨J9 (r.set k ((2 * x + c) % 4294967296)),true,true,true,1⟩],[]⟩:St)):=by
 have hxc:=W7 hx
 have h1:((k:Int) < (8:Int)):=by omega
 have h1':((k:Int) < ((8:Nat):Int)):=by omega
 have e1:IntKind.u32.wrap ((x:Int) * 2 ^ min 1 IntKind.u32.bits) = ((2 * x % 4294967296:Nat):Int):=by
  rw [wrap_u32,show min 1 IntKind.u32.bits = 1 from rfl]; omega
 have e2:Vj .or .u32 ((2 * x % 4294967296:Nat):Int) (c:Int) = (((2 * x + c) % 4294967296:Nat):Int):=by
  rw [B0 (k := .u32) (a:=2 * x % 4294967296) (b:=c) rfl (Jn _ (by decide)) (by show c < 2 ^ 32; omega)]
  congr 1
  have h2:2 * x % 4294967296 = 2 ^ 1 * (x % 2147483648):=by omega
  rw [h2,← Bl (by omega:c < 2 ^ 1)]
  omega
 have e3:Mo (x:Int) (2 ^ min 31 IntKind.u32.bits) = ((x / 2147483648:Nat):Int):=by
  rw [Yj _ (by decide)]; rfl
 have e10:IntKind.i64.wrap ((k:Int) + 1) = ((k + 1:Nat):Int):=Vt (n:=k + 1) (by omega)
 have h5:k + 1 ≤ (J9 r).length:=by rw [W6,hl]; omega
 simp only [Hg,J2,Xp,Xx,Kb,Jq,Xy,Z7,Kc,Xz,Kj,guardOf,Zb,opd,Yo,Kz,Kh,Env.get,Env.put,Vo,Qf,Q2,Q3,Xk,Va,Xm,Jm,St.after,Env.keep,if_true,if_false,ite_true,ite_false,Yh,Vi,unV,Ve,Kg,packed,reduceCtorEq,Zj,Zm,Zd,Qj,Qc,Qi,Zh,Zg,Zp,beq_self_eq_true,J6,Jb,Xs,Xr,Xi,X8,Xt,Xd,X9,X7,Xe,Ko,Xv,Jj,X5,Ka,Xg,Xf,Z5,Xh,Zr,Zx,Zw,Jh,Z3,Jf,Z2,Zv,Ji,Jg,Jw,Z4,Xq,Jy,Xu,X6,Jx,Xw,Jk,Ob.fresh,Ym,Yy,Yx,Zo,and_self,true_and,and_true,Zu,Xb,Kq,Vv,Kp,Jl,Vu,Jo,Jz,false_and,decide_true,decide_false,Z1,Qp,Qn,Qo,Qd,Qm,Qh,Yd,Jv,Vp,J8,J0,J1,Za,Q9,Ub,Ua,W9,W8,Q8,Xn,Z9,Xj,J7,Kl,Jc,h1,h1',hxc,e1,e2,e3,e10,h5,Qhl,Bu]
theorem Qpa {H:List Ob} {s v:Value} {k b x l:Nat} {r nx:List Nat} (hk:k < 8) (hl:nx.length = 8) (hx:r[k]? = some x) (hx':x < 4294967296) (ho:orderW[k]? = some l) (hb:b ≤ 1) :
  Xa T H.length Hh (⟨[(0,s),(3,(.slice (some ⟨(H.length + 2),0,none⟩) 8 8)),(4,(.slice (some ⟨H.length + 1,0,none⟩) 8 8)),(5,(.slice (some ⟨H.length,0,none⟩) 8 8)),(6,v),(9,.int .u32 ((b:Nat))),(53,.int .i64 8),(54,.int .i64 ((k:Nat)))],H ++ [⟨J9 (nx),true,true,true,1⟩,⟨J9 orderW,true,true,true,1⟩,⟨J9 (r),true,true,true,1⟩],[]⟩:St) = some (.normal,(⟨[(0,s),(3,(.slice (some ⟨(H.length + 2),0,none⟩) 8 8)),(4,(.slice (some ⟨H.length + 1,0,none⟩) 8 8)),(5,(.slice (some ⟨H.length,0,none⟩) 8 8)),(6,v),(9,.int .u32 (((R1 x l b:Nat):Int))),(53,.int .i64 8),(54,.int .i64 (((k + 1:Nat):Int)))],H ++ [⟨J9 (nx.set k (R0 x l b)),true,true,true,1⟩,⟨J9 orderW,true,true,true,1⟩,⟨J9 (r),true,true,true,1⟩],[]⟩:St)):=by
 have hxc:=W7 hx
 have hlc:=W7 ho
 have h1:((k:Int) < (8:Int)):=by omega
 have h1':((k:Int) < ((8:Nat):Int)):=by omega
 have hsub:=Qcv hx' (T1 l (Zt ho)) hb
 have e10:IntKind.i64.wrap ((k:Int) + 1) = ((k + 1:Nat):Int):=Vt (n:=k + 1) (by omega)
 have h5:k + 1 ≤ (J9 nx).length:=by rw [W6,hl]; omega
 simp only [Hh,J2,Xp,Xx,Kb,Jq,Xy,Z7,Kc,Xz,Kj,guardOf,Zb,opd,Yo,Kz,Kh,Env.get,Env.put,Vo,Qf,Q2,Q3,Xk,Va,Xm,Jm,St.after,Env.keep,if_true,if_false,ite_true,ite_false,Yh,Vi,unV,Ve,Kg,packed,reduceCtorEq,Zj,Zm,Zd,Qj,Qc,Qi,Zh,Zg,Zp,beq_self_eq_true,J6,Jb,Xs,Xr,Xi,X8,Xt,Xd,X9,X7,Xe,Ko,Xv,Jj,X5,Ka,Xg,Xf,Z5,Xh,Zr,Zx,Zw,Jh,Z3,Jf,Z2,Zv,Ji,Jg,Jw,Z4,Xq,Jy,Xu,X6,Jx,Xw,Jk,Ob.fresh,Ym,Yy,Yx,Zo,and_self,true_and,and_true,Zu,Xb,Kq,Vv,Kp,Jl,Vu,Jo,Jz,false_and,decide_true,decide_false,Z1,Qp,Qn,Qo,Qd,Qm,Qh,Yd,Jv,Vp,J8,J0,J1,Za,Q9,Ub,Ua,W9,W8,Q8,Xn,Z9,Xj,J7,Kl,Jc,h1,h1',hxc,hlc,hsub,e10,h5,Ur,Bu]
theorem Qo2 {H:List Ob} {s v:Value} {c:Nat} {r nx:List Nat} (hl:r.length = 8) (hr:∀ x ∈ r,x < 4294967296) (hc:c ≤ 1) :
  ∃ r' c',Xa T H.length (.block 2 (.loop Hg)) (⟨[(0,s),(3,(.slice (some ⟨(H.length + 2),0,none⟩) 8 8)),(4,(.slice (some ⟨H.length + 1,0,none⟩) 8 8)),(5,(.slice (some ⟨H.length,0,none⟩) 8 8)),(6,v),(7,.int .u32 ((c:Nat))),(32,.int .i64 8),(33,.int .i64 (0))],H ++ [⟨J9 (nx),true,true,true,1⟩,⟨J9 orderW,true,true,true,1⟩,⟨J9 (r),true,true,true,1⟩],[]⟩:St) = some (.normal,(⟨[(0,s),(3,(.slice (some ⟨(H.length + 2),0,none⟩) 8 8)),(4,(.slice (some ⟨H.length + 1,0,none⟩) 8 8)),(5,(.slice (some ⟨H.length,0,none⟩) 8 8)),(6,v),(7,.int .u32 ((c':Nat))),(32,.int .i64 8),(33,.int .i64 (8)),(34,.bool false)],H ++ [⟨J9 (nx),true,true,true,1⟩,⟨J9 orderW,true,true,true,1⟩,⟨J9 (r'),true,true,true,1⟩],[]⟩:St)) ∧ ShInv 8 c r r' c':=by
 obtain ⟨s',hb,r',c',rfl,hinv⟩:=Yn (T:=T) (base:=H.length) (id:=2) (body:=Hg)
  (fun k s1 => ∃ r' c',s1 = (⟨[(0,s),(3,(.slice (some ⟨(H.length + 2),0,none⟩) 8 8)),(4,(.slice (some ⟨H.length + 1,0,none⟩) 8 8)),(5,(.slice (some ⟨H.length,0,none⟩) 8 8)),(6,v),(7,.int .u32 ((c':Nat))),(32,.int .i64 8),(33,.int .i64 ((k:Nat)))],H ++ [⟨J9 (nx),true,true,true,1⟩,⟨J9 orderW,true,true,true,1⟩,⟨J9 (r'),true,true,true,1⟩],[]⟩:St) ∧ ShInv k c r r' c')
  (Q:=fun s1 => ∃ r' c',s1 = (⟨[(0,s),(3,(.slice (some ⟨(H.length + 2),0,none⟩) 8 8)),(4,(.slice (some ⟨H.length + 1,0,none⟩) 8 8)),(5,(.slice (some ⟨H.length,0,none⟩) 8 8)),(6,v),(7,.int .u32 ((c':Nat))),(32,.int .i64 8),(33,.int .i64 (8)),(34,.bool false)],H ++ [⟨J9 (nx),true,true,true,1⟩,⟨J9 orderW,true,true,true,1⟩,⟨J9 (r'),true,true,true,1⟩],[]⟩:St) ∧ ShInv 8 c r r' c')
  8 (s:=(⟨[(0,s),(3,(.slice (some ⟨(H.length + 2),0,none⟩) 8 8)),(4,(.slice (some ⟨H.length + 1,0,none⟩) 8 8)),(5,(.slice (some ⟨H.length,0,none⟩) 8 8)),(6,v),(7,.int .u32 ((c:Nat))),(32,.int .i64 8),(33,.int .i64 (((0:Nat):Int)))],H ++ [⟨J9 (nx),true,true,true,1⟩,⟨J9 orderW,true,true,true,1⟩,⟨J9 (r),true,true,true,1⟩],[]⟩:St)) ⟨_,_,rfl,⟨hl,hr,hc,by simp [num],fun _ _ => rfl⟩⟩
  (fun k s1 hk hs => by
   obtain ⟨r',c',rfl,hI⟩:=hs
   obtain ⟨x,hx⟩:∃ x,r'[k]? = some x:=⟨_,Qq (by rw [hI.len]; omega)⟩
   exact ⟨_,Qo4 hk hI.len hx (hI.lt x (Zt hx)) hI.cle,_,_,rfl,hI.step hx⟩)
  (fun s1 hs => by
   obtain ⟨r',c',rfl,hI⟩:=hs
   have h1:¬ (((8:Nat):Int) < (8:Int)):=by omega
   refine ⟨_,?_,r',c',rfl,hI⟩
   simp only [Hg,J2,Xp,Xx,Kb,Jq,Xy,Z7,Kc,Xz,Kj,guardOf,Zb,opd,Yo,Kz,Kh,Env.get,Env.put,Vo,Qf,Q2,Q3,Xk,Va,Xm,Jm,St.after,Env.keep,if_true,if_false,ite_true,ite_false,Yh,Vi,unV,Ve,Kg,packed,reduceCtorEq,Zj,Zm,Zd,Qj,Qc,Qi,Zh,Zg,Zp,beq_self_eq_true,J6,Jb,Xs,Xr,Xi,X8,Xt,Xd,X9,X7,Xe,Ko,Xv,Jj,X5,Ka,Xg,Xf,Z5,Xh,Zr,Zx,Zw,Jh,Z3,Jf,Z2,Zv,Ji,Jg,Jw,Z4,Xq,Jy,Xu,X6,Jx,Xw,Jk,Ob.fresh,Ym,Yy,Yx,Zo,and_self,true_and,and_true,Zu,Xb,Kq,Vv,Kp,Jl,Vu,Jo,Jz,false_and,decide_true,decide_false,Z1,Qp,Qn,Qo,Qd,Qm,Qh,Yd,Jv,Vp,J8,J0,J1,Za,Q9,Ub,Ua,W9,W8,Q8,Xn,Z9,Xj,J7,Kl,Jc,h1]
   rfl)
 exact ⟨r',c',hb,hinv⟩
theorem Qo8 {H:List Ob} {s v:Value} {r nx:List Nat} (hl:r.length = 8) (hr:∀ x ∈ r,x < 4294967296) (hl2:nx.length = 8) (hr2:∀ x ∈ nx,x < 4294967296) :
  ∃ nx' b,Xa T H.length (.block 4 (.loop Hh)) (⟨[(0,s),(3,(.slice (some ⟨(H.length + 2),0,none⟩) 8 8)),(4,(.slice (some ⟨H.length + 1,0,none⟩) 8 8)),(5,(.slice (some ⟨H.length,0,none⟩) 8 8)),(6,v),(9,.int .u32 (0)),(53,.int .i64 8),(54,.int .i64 (0))],H ++ [⟨J9 (nx),true,true,true,1⟩,⟨J9 orderW,true,true,true,1⟩,⟨J9 (r),true,true,true,1⟩],[]⟩:St) = some (.normal,(⟨[(0,s),(3,(.slice (some ⟨(H.length + 2),0,none⟩) 8 8)),(4,(.slice (some ⟨H.length + 1,0,none⟩) 8 8)),(5,(.slice (some ⟨H.length,0,none⟩) 8 8)),(6,v),(9,.int .u32 ((b:Nat))),(53,.int .i64 8),(54,.int .i64 (8)),(55,.bool false)],H ++ [⟨J9 (nx'),true,true,true,1⟩,⟨J9 orderW,true,true,true,1⟩,⟨J9 (r),true,true,true,1⟩],[]⟩:St)) ∧ SbInv 8 r nx' b:=by
 obtain ⟨s',hb,nx',b,rfl,hinv⟩:=Yn (T:=T) (base:=H.length) (id:=4) (body:=Hh)
  (fun k s1 => ∃ nx' b,s1 = (⟨[(0,s),(3,(.slice (some ⟨(H.length + 2),0,none⟩) 8 8)),(4,(.slice (some ⟨H.length + 1,0,none⟩) 8 8)),(5,(.slice (some ⟨H.length,0,none⟩) 8 8)),(6,v),(9,.int .u32 ((b:Nat))),(53,.int .i64 8),(54,.int .i64 ((k:Nat)))],H ++ [⟨J9 (nx'),true,true,true,1⟩,⟨J9 orderW,true,true,true,1⟩,⟨J9 (r),true,true,true,1⟩],[]⟩:St) ∧ SbInv k r nx' b)
  (Q:=fun s1 => ∃ nx' b,s1 = (⟨[(0,s),(3,(.slice (some ⟨(H.length + 2),0,none⟩) 8 8)),(4,(.slice (some ⟨H.length + 1,0,none⟩) 8 8)),(5,(.slice (some ⟨H.length,0,none⟩) 8 8)),(6,v),(9,.int .u32 ((b:Nat))),(53,.int .i64 8),(54,.int .i64 (8)),(55,.bool false)],H ++ [⟨J9 (nx'),true,true,true,1⟩,⟨J9 orderW,true,true,true,1⟩,⟨J9 (r),true,true,true,1⟩],[]⟩:St) ∧ SbInv 8 r nx' b)
  8 (s:=(⟨[(0,s),(3,(.slice (some ⟨(H.length + 2),0,none⟩) 8 8)),(4,(.slice (some ⟨H.length + 1,0,none⟩) 8 8)),(5,(.slice (some ⟨H.length,0,none⟩) 8 8)),(6,v),(9,.int .u32 (((0:Nat):Int))),(53,.int .i64 8),(54,.int .i64 (((0:Nat):Int)))],H ++ [⟨J9 (nx),true,true,true,1⟩,⟨J9 orderW,true,true,true,1⟩,⟨J9 (r),true,true,true,1⟩],[]⟩:St)) ⟨_,_,rfl,⟨hl2,hr2,by decide,by simp [num]⟩⟩
  (fun k s1 hk hs => by
   obtain ⟨nx',b,rfl,hI⟩:=hs
   obtain ⟨x,hx⟩:∃ x,r[k]? = some x:=⟨_,Qq (by omega)⟩
   obtain ⟨l,hlk⟩:∃ l,orderW[k]? = some l:=⟨_,Qq (show k < orderW.length from hk)⟩
   exact ⟨_,Qpa hk hI.len hx (hr x (Zt hx)) hlk hI.ble,_,_,rfl,hI.step hr hk hx hlk⟩)
  (fun s1 hs => by
   obtain ⟨nx',b,rfl,hI⟩:=hs
   have h1:¬ (((8:Nat):Int) < (8:Int)):=by omega
   refine ⟨_,?_,nx',b,rfl,hI⟩
   simp only [Hh,J2,Xp,Xx,Kb,Jq,Xy,Z7,Kc,Xz,Kj,guardOf,Zb,opd,Yo,Kz,Kh,Env.get,Env.put,Vo,Qf,Q2,Q3,Xk,Va,Xm,Jm,St.after,Env.keep,if_true,if_false,ite_true,ite_false,Yh,Vi,unV,Ve,Kg,packed,reduceCtorEq,Zj,Zm,Zd,Qj,Qc,Qi,Zh,Zg,Zp,beq_self_eq_true,J6,Jb,Xs,Xr,Xi,X8,Xt,Xd,X9,X7,Xe,Ko,Xv,Jj,X5,Ka,Xg,Xf,Z5,Xh,Zr,Zx,Zw,Jh,Z3,Jf,Z2,Zv,Ji,Jg,Jw,Z4,Xq,Jy,Xu,X6,Jx,Xw,Jk,Ob.fresh,Ym,Yy,Yx,Zo,and_self,true_and,and_true,Zu,Xb,Kq,Vv,Kp,Jl,Vu,Jo,Jz,false_and,decide_true,decide_false,Z1,Qp,Qn,Qo,Qd,Qm,Qh,Yd,Jv,Vp,J8,J0,J1,Za,Q9,Ub,Ua,W9,W8,Q8,Xn,Z9,Xj,J7,Kl,Jc,h1]
   rfl)
 exact ⟨nx',b,hb,hinv⟩
end Go.Ev.Ytgacigcbglflkaa

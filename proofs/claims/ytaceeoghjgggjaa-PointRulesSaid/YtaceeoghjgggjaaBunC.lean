/-
  The evaluator's equations, a constructor at a time; and an evaluator with a purse, which the kernel can run.
-/
import Derived.Test.YtaceeoghjgggjaaBunA
import Derived.Test.YtaceeoghjgggjaaBunB
import Derived.ChangeArms
set_option linter.unusedSimpArgs false
set_option linter.unusedVariables false
namespace Go.Ev
section
variable {T : Tab}

def AOp.noCall : AOp → Bool
  | .call .. | .callv .. => false
  | _ => true
theorem evOper_simple {o : AOp} {e : Env} {H : List Ob} (h : o.noCall = true) : evOper T o e H = simpleOp H e o := by
  rw [evOper.eq_def]
  cases o <;> first | rfl | (simp [AOp.noCall] at h)

theorem evOper_move {e : Env} {H : List Ob} {x : Operand} : evOper T (.move x) e H = simpleOp H e (.move x) := evOper_simple rfl
theorem evOper_pick {e : Env} {H : List Ob} {c a b : Operand} : evOper T (.pick c a b) e H = simpleOp H e (.pick c a b) := evOper_simple rfl
theorem evOper_alloc {e : Env} {H : List Ob} {zero : List Value} : evOper T (.alloc zero) e H = simpleOp H e (.alloc zero) := evOper_simple rfl
theorem evOper_box {e : Env} {H : List Ob} {x : Operand} : evOper T (.box x) e H = simpleOp H e (.box x) := evOper_simple rfl
theorem evOper_load {e : Env} {H : List Ob} {n : Option Nat} {a : Operand} : evOper T (.load n a) e H = simpleOp H e (.load n a) := evOper_simple rfl
theorem evOper_store {e : Env} {H : List Ob} {n : Nat} {a v : Operand} : evOper T (.store n a v) e H = simpleOp H e (.store n a v) := evOper_simple rfl
theorem evOper_bin {e : Env} {H : List Ob} {op : BinOp} {x y : Operand} : evOper T (.bin op x y) e H = simpleOp H e (.bin op x y) := evOper_simple rfl
theorem evOper_eqv {e : Env} {H : List Ob} {ks : Option (List Bool)} {neg : Bool} {x y : Operand} : evOper T (.eqv ks neg x y) e H = simpleOp H e (.eqv ks neg x y) := evOper_simple rfl
theorem evOper_isNil {e : Env} {H : List Ob} {k : Nat} {neg : Bool} {x : Operand} : evOper T (.isNil k neg x) e H = simpleOp H e (.isNil k neg x) := evOper_simple rfl
theorem evOper_un {e : Env} {H : List Ob} {op : UnOp} {x : Operand} : evOper T (.un op x) e H = simpleOp H e (.un op x) := evOper_simple rfl
theorem evOper_conv {e : Env} {H : List Ob} {k : IntKind} {x : Operand} : evOper T (.conv k x) e H = simpleOp H e (.conv k x) := evOper_simple rfl
theorem evOper_convStr {e : Env} {H : List Ob} {x : Operand} : evOper T (.convStr x) e H = simpleOp H e (.convStr x) := evOper_simple rfl
theorem evOper_s2b {e : Env} {H : List Ob} {x : Operand} : evOper T (.s2b x) e H = simpleOp H e (.s2b x) := evOper_simple rfl
theorem evOper_b2s {e : Env} {H : List Ob} {x : Operand} : evOper T (.b2s x) e H = simpleOp H e (.b2s x) := evOper_simple rfl
theorem evOper_field {e : Env} {H : List Ob} {n : Option Nat} {off : Nat} {x : Operand} : evOper T (.field n off x) e H = simpleOp H e (.field n off x) := evOper_simple rfl
theorem evOper_index {e : Env} {H : List Ob} {n : Option Nat} {len es : Nat} {x i : Operand} : evOper T (.index n len es x i) e H = simpleOp H e (.index n len es x i) := evOper_simple rfl
theorem evOper_indexStr {e : Env} {H : List Ob} {x i : Operand} : evOper T (.indexStr x i) e H = simpleOp H e (.indexStr x i) := evOper_simple rfl
theorem evOper_build {e : Env} {H : List Ob} {zero : List Value} {parts : List (Nat × Nat × Operand)} : evOper T (.build zero parts) e H = simpleOp H e (.build zero parts) := evOper_simple rfl
theorem evOper_buildSlice {e : Env} {H : List Ob} {cells : List Value} {len : Nat} {parts : List (Nat × Nat × Operand)} : evOper T (.buildSlice cells len parts) e H = simpleOp H e (.buildSlice cells len parts) := evOper_simple rfl
theorem evOper_fieldAddr {e : Env} {H : List Ob} {off : Nat} {x : Operand} : evOper T (.fieldAddr off x) e H = simpleOp H e (.fieldAddr off x) := evOper_simple rfl
theorem evOper_indexAddr {e : Env} {H : List Ob} {len es : Nat} {x i : Operand} : evOper T (.indexAddr len es x i) e H = simpleOp H e (.indexAddr len es x i) := evOper_simple rfl
theorem evOper_indexSl {e : Env} {H : List Ob} {es : Nat} {x i : Operand} : evOper T (.indexSl es x i) e H = simpleOp H e (.indexSl es x i) := evOper_simple rfl
theorem evOper_sliceArr {e : Env} {H : List Ob} {n es : Nat} {x : Operand} {lo hi mx : Option Operand} : evOper T (.sliceArr n es x lo hi mx) e H = simpleOp H e (.sliceArr n es x lo hi mx) := evOper_simple rfl
theorem evOper_sliceSl {e : Env} {H : List Ob} {es : Nat} {x : Operand} {lo hi mx : Option Operand} : evOper T (.sliceSl es x lo hi mx) e H = simpleOp H e (.sliceSl es x lo hi mx) := evOper_simple rfl
theorem evOper_sliceStr {e : Env} {H : List Ob} {x : Operand} {lo hi : Option Operand} : evOper T (.sliceStr x lo hi) e H = simpleOp H e (.sliceStr x lo hi) := evOper_simple rfl
theorem evOper_makeSlice {e : Env} {H : List Ob} {zero : List Value} {bytes : Nat} {l c : Operand} : evOper T (.makeSlice zero bytes l c) e H = simpleOp H e (.makeSlice zero bytes l c) := evOper_simple rfl
theorem evOper_extract {e : Env} {H : List Ob} {x : Operand} {i : Nat} : evOper T (.extract x i) e H = simpleOp H e (.extract x i) := evOper_simple rfl
theorem evOper_mkIface {e : Env} {H : List Ob} {t : TypeId} {x : Operand} : evOper T (.mkIface t x) e H = simpleOp H e (.mkIface t x) := evOper_simple rfl
theorem evOper_mkFunc {e : Env} {H : List Ob} {fn : Fn} {first captured : List Operand} : evOper T (.mkFunc fn first captured) e H = simpleOp H e (.mkFunc fn first captured) := evOper_simple rfl
theorem evOper_nilCheck {e : Env} {H : List Ob} {x : Operand} : evOper T (.nilCheck x) e H = simpleOp H e (.nilCheck x) := evOper_simple rfl
theorem evOper_s2ap {e : Env} {H : List Ob} {n : Nat} {x : Operand} : evOper T (.s2ap n x) e H = simpleOp H e (.s2ap n x) := evOper_simple rfl
theorem evOper_append {e : Env} {H : List Ob} {es bytes : Nat} {s x : Operand} : evOper T (.append es bytes s x) e H = simpleOp H e (.append es bytes s x) := evOper_simple rfl
theorem evOper_copy {e : Env} {H : List Ob} {es : Nat} {d s : Operand} : evOper T (.copy es d s) e H = simpleOp H e (.copy es d s) := evOper_simple rfl
theorem evOper_len {e : Env} {H : List Ob} {str : Bool} {x : Operand} : evOper T (.len str x) e H = simpleOp H e (.len str x) := evOper_simple rfl
theorem evOper_minmax {e : Env} {H : List Ob} {max : Bool} {x y : Operand} : evOper T (.minmax max x y) e H = simpleOp H e (.minmax max x y) := evOper_simple rfl
theorem evOper_call {e : Env} {H : List Ob} {f : FuncId} {xs : List Operand} : evOper T (.call f xs false) e H = (opds e xs).bind fun args => (evFun T f args H).bind fun r => some (r.1, r.2.1, none, r.2.2) := by
  rw [evOper.eq_def]; dsimp only; cases opds e xs <;> rfl
theorem evOper_callVal {e : Env} {H : List Ob} {f : FuncId} {xs : List Operand} : evOper T (.call f xs true) e H = (opds e xs).bind fun args => if args.all rf then (evFun T f args []).bind fun r => if rf r.1 then some (r.1, H, some [], []) else none else none := by
  rw [evOper.eq_def]; dsimp only; cases opds e xs <;> rfl
theorem evCode_skip {base : Nat} {s : St} : evCode T base .skip s = some (.normal, s) := by rw [evCode.eq_def]
theorem evCode_exit {base id : Nat} {s : St} : evCode T base (.exit id) s = some (.exit id, s) := by rw [evCode.eq_def]
theorem evCode_ret {base : Nat} {s : St} : evCode T base .ret s = some (.ret, s) := by rw [evCode.eq_def]
theorem evCode_region {base : Nat} {ops : List AOper} {keep : Option (List Nat)} {pairs : List (Nat × Nat)} {s : St} : evCode T base (.region ops keep pairs) s =
    (evOps T base ops s []).bind fun r => if pairsOk r.2 pairs then some (.normal, r.1.after keep) else none := by rw [evCode.eq_def]; rfl
theorem evCode_seq {base : Nat} {a b : ACode} {s : St} : evCode T base (.seq a b) s = (evCode T base a s).bind fun r => match r.1 with
    | .normal => evCode T base b r.2
    | x => some (x, r.2) := by rw [evCode.eq_def]; rfl
theorem evCode_cond {base : Nat} {c : Operand} {a b : ACode} {s : St} : evCode T base (.cond c a b) s = match opd s.env c with
    | some (.bool true) => evCode T base a s
    | some (.bool false) => evCode T base b s
    | _ => none := by rw [evCode.eq_def]; rfl
theorem evCode_block {base id : Nat} {b : ACode} {s : St} : evCode T base (.block id b) s = (evCode T base b s).bind fun r => match r.1 with
    | .exit i => if i = id then some (.normal, r.2) else some (.exit i, r.2)
    | x => some (x, r.2) := by rw [evCode.eq_def]; rfl
theorem evCode_loop {base : Nat} {b : ACode} {s : St} : evCode T base (.loop b) s = (evCode T base b s).bind fun r => match r.1 with
    | .normal => evCode T base (.loop b) r.2
    | x => some (x, r.2) := by rw [evCode.eq_def]; rfl

theorem evOps_nil {base : Nat} {s : St} {recs : List Rec} : evOps T base [] s recs = some (s, recs) := by rw [evOps.eq_def]
theorem evOps_cons {base : Nat} {o : AOper} {r : List AOper} {s : St} {recs : List Rec} : evOps T base (o :: r) s recs = match guardOf s.env o.guard with
      | some true => (evOper T o.op s.env s.h).bind fun x => evOps T base r ⟨s.env.put o.dst x.1, x.2.1, inMerge base s.log x.2.2.2⟩ (recs ++ [(x.2.2.1, x.2.2.2)])
      | some false => evOps T base r ⟨s.env.put o.dst undef, s.h, s.log⟩ (recs ++ [(some [], [])])
      | none => none := by rw [evOps.eq_def]; rfl
end
theorem bind_congr1 {α β : Type} {x y : Option α} (f : α → Option β) (h : x = y) : x.bind f = y.bind f := by rw [h]

/-! The evaluator with a purse. -/
abbrev FunE := Nat → List Value → List Ob → Option (Value × List Ob × List Nat)

def operW (F : FunE) (o : AOp) (e : Env) (H : List Ob) : Step :=
  match o with
  | .call f xs byVal =>
      if byVal then
        (opds e xs).bind fun args => if args.all rf then (F f args []).bind fun r => if rf r.1 then some (r.1, H, some [], []) else none else none
      else (opds e xs).bind fun args => (F f args H).bind fun r => some (r.1, r.2.1, none, r.2.2)
  | .callv f xs =>
      match opd e f, opds e xs with
      | some (.func (.func f) first captured), some args => (F f (first.toList ++ args ++ captured.toList) H).bind fun r => some (r.1, r.2.1, none, r.2.2)
      | _, _ => none
  | o => simpleOp H e o

def opsW (F : FunE) (base : Nat) : List AOper → St → List Rec → Option (St × List Rec)
  | [], s, recs => some (s, recs)
  | o :: r, s, recs => match guardOf s.env o.guard with
      | some true => (operW F o.op s.env s.h).bind fun x => opsW F base r ⟨s.env.put o.dst x.1, x.2.1, inMerge base s.log x.2.2.2⟩ (recs ++ [(x.2.2.1, x.2.2.2)])
      | some false => opsW F base r ⟨s.env.put o.dst undef, s.h, s.log⟩ (recs ++ [(some [], [])])
      | none => none

def iterW (g : St → Option (AExit × St)) : Nat → St → Option (AExit × St)
  | 0, _ => none
  | n + 1, s => (g s).bind fun r => match r.1 with
    | .normal => iterW g n r.2
    | x => some (x, r.2)

def codeW (F : FunE) (L base : Nat) : ACode → St → Option (AExit × St)
  | .skip, s => some (.normal, s)
  | .region ops keep pairs, s => (opsW F base ops s []).bind fun r => if pairsOk r.2 pairs then some (.normal, r.1.after keep) else none
  | .seq a b, s => (codeW F L base a s).bind fun r => match r.1 with
    | .normal => codeW F L base b r.2
    | x => some (x, r.2)
  | .cond c a b, s => match opd s.env c with
    | some (.bool true) => codeW F L base a s
    | some (.bool false) => codeW F L base b s
    | _ => none
  | .block id b, s => (codeW F L base b s).bind fun r => match r.1 with
    | .exit i => if i = id then some (.normal, r.2) else some (.exit i, r.2)
    | x => some (x, r.2)
  | .loop b, s => iterW (codeW F L base b) L s
  | .exit id, s => some (.exit id, s)
  | .ret, s => some (.ret, s)

def runFun (T : Tab) (L : Nat) : Nat → FunE
  | 0, _, _, _ => none
  | d + 1, f, args, H => match T.fn f with
    | some fn => (codeW (runFun T L d) L H.length fn.body ⟨envOf 0 args, H, []⟩).bind fun xs => match xs.1 with
      | .exit _ => none
      | _ => (resultOf xs.2.env xs.2.h fn.results).bind fun vs => some (packed vs, xs.2.h, xs.2.log)
    | none => if args.all rf then (T.ext f args).bind fun v => some (v, H, []) else none

def FLe (T : Tab) (F : FunE) : Prop := ∀ f args H r, F f args H = some r → evFun T f args H = some r
section
variable {T : Tab} {F : FunE}

theorem operW_le (hF : FLe T F) {o : AOp} {e : Env} {H : List Ob} {r} (h : operW F o e H = some r) : evOper T o e H = some r := by
  rw [evOper.eq_def]
  cases o with
  | call f xs b =>
    cases b with
    | true =>
      simp only [operW, if_true, Option.bind_eq_some_iff] at h
      obtain ⟨args, h1, h2⟩ := h
      dsimp only
      rw [h1]
      simp only [if_true]
      split at h2
      · rename_i ha
        rw [if_pos ha]
        simp only [Option.bind_eq_some_iff] at h2
        obtain ⟨r1, h3, h4⟩ := h2
        simp only [hF _ _ _ _ h3, Option.bind_eq_bind, Option.bind_some]
        exact h4
      · cases h2
    | false =>
      simp only [operW, Bool.false_eq_true, if_false, Option.bind_eq_some_iff] at h
      obtain ⟨args, h1, r1, h2, h3⟩ := h
      dsimp only
      rw [h1]
      simp only [Bool.false_eq_true, if_false, hF _ _ _ _ h2, Option.bind_eq_bind, Option.bind_some]
      exact h3
  | callv f xs =>
    simp only [operW] at h
    dsimp only
    split at h
    · rename_i h1 h2
      rw [h1, h2]
      simp only [Option.bind_eq_some_iff] at h
      obtain ⟨r1, h3, h4⟩ := h
      simp only [hF _ _ _ _ h3, Option.bind_eq_bind, Option.bind_some]
      exact h4
    · cases h
  | _ => exact h

theorem opsW_le (hF : FLe T F) {base : Nat} : ∀ {ops : List AOper} {s : St} {recs : List Rec} {r}, opsW F base ops s recs = some r → evOps T base ops s recs = some r
  | [], _, _, _, h => by rw [evOps_nil]; exact h
  | o :: ops, s, recs, r, h => by
    rw [evOps_cons]
    simp only [opsW] at h
    cases hg : guardOf s.env o.guard with
    | none => simp only [hg] at h; cases h
    | some b =>
      cases b with
      | true =>
        simp only [hg, Option.bind_eq_some_iff] at h ⊢
        obtain ⟨x, h1, h2⟩ := h
        exact ⟨x, operW_le hF h1, opsW_le hF h2⟩
      | false =>
        simp only [hg] at h ⊢
        exact opsW_le hF h

theorem iterW_le {base : Nat} {b : ACode} {g : St → Option (AExit × St)} (hg : ∀ s r, g s = some r → evCode T base b s = some r) : ∀ (n : Nat) (s : St) (r : AExit × St), iterW g n s = some r → evCode T base (.loop b) s = some r
  | 0, _, _, h => by cases h
  | n + 1, s, r, h => by
    rw [evCode_loop]
    simp only [iterW, Option.bind_eq_some_iff] at h ⊢
    obtain ⟨⟨x, s1⟩, h1, h2⟩ := h
    refine ⟨_, hg _ _ h1, ?_⟩
    cases x with
    | normal => exact iterW_le hg n _ _ h2
    | exit id => exact h2
    | ret => exact h2

theorem codeW_le (hF : FLe T F) {L base : Nat} : ∀ {c : ACode} {s : St} {r}, codeW F L base c s = some r → evCode T base c s = some r
  | .skip, _, _, h => by rw [evCode_skip]; exact h
  | .exit _, _, _, h => by rw [evCode_exit]; exact h
  | .ret, _, _, h => by rw [evCode_ret]; exact h
  | .region ops keep pairs, s, r, h => by
    rw [evCode_region]
    simp only [codeW, Option.bind_eq_some_iff] at h ⊢
    obtain ⟨x, h1, h2⟩ := h
    exact ⟨x, opsW_le hF h1, h2⟩
  | .seq a b, s, r, h => by
    rw [evCode_seq]
    simp only [codeW, Option.bind_eq_some_iff] at h ⊢
    obtain ⟨⟨x, s1⟩, h1, h2⟩ := h
    refine ⟨_, codeW_le hF h1, ?_⟩
    cases x with
    | normal => exact codeW_le hF h2
    | exit id => exact h2
    | ret => exact h2
  | .cond c a b, s, r, h => by
    rw [evCode_cond]
    simp only [codeW] at h
    split at h
    · exact codeW_le hF h
    · exact codeW_le hF h
    · cases h
  | .block id b, s, r, h => by
    rw [evCode_block]
    simp only [codeW, Option.bind_eq_some_iff] at h ⊢
    obtain ⟨⟨x, s1⟩, h1, h2⟩ := h
    refine ⟨_, codeW_le hF h1, ?_⟩
    cases x with
    | normal => exact h2
    | exit i => exact h2
    | ret => exact h2
  | .loop b, s, r, h => by
    simp only [codeW] at h
    exact iterW_le (fun s1 r1 h1 => codeW_le hF h1) L s r h

theorem runFun_le (L : Nat) : ∀ d, FLe T (runFun T L d)
  | 0, _, _, _, _, h => by cases h
  | d + 1, f, args, H, r, h => by
    rw [evFun.eq_def]
    simp only [runFun] at h
    split at h
    · rename_i fn hfn
      rw [hfn]
      simp only [Option.bind_eq_some_iff] at h
      obtain ⟨⟨x, s1⟩, h1, h2⟩ := h
      simp only [Option.bind_eq_bind, codeW_le (runFun_le L d) h1, Option.bind_some]
      cases x with
      | normal => exact h2
      | exit i => exact h2
      | ret => exact h2
    · rename_i hfn
      rw [hfn]
      exact h

/-- One step into a function that has a text. -/
theorem evFun_fn {f : Nat} {args : List Value} {H : List Ob} {fn : AFun} (hfn : T.fn f = some fn) : evFun T f args H = (evCode T H.length fn.body ⟨envOf 0 args, H, []⟩).bind fun xs => match xs.1 with
      | .exit _ => none
      | _ => (resultOf xs.2.env xs.2.h fn.results).bind fun vs => some (packed vs, xs.2.h, xs.2.log) := by
  rw [evFun.eq_def, hfn]; rfl
end
end Go.Ev

/-
  What the program's small operations on machine numbers say of numbers.
-/
set_option linter.unusedSimpArgs false
set_option linter.unusedVariables false
namespace Go.Ev
theorem wrap_u32 (x : Int) : IntKind.u32.wrap x = x % 4294967296 := rfl
theorem wrap_u64 (x : Int) : IntKind.u64.wrap x = x % 18446744073709551616 := rfl
theorem wrap_u8 (x : Int) : IntKind.u8.wrap x = x % 256 := rfl
theorem wrap_u16 (x : Int) : IntKind.u16.wrap x = x % 65536 := rfl
theorem wrapI64_small {x : Int} (h : -9223372036854775808 ≤ x) (k : x < 9223372036854775808) : IntKind.i64.wrap x = x := by
  simp [IntKind.wrap, IntKind.signed, IntKind.bits]
  omega

theorem wrap_small {k : IntKind} (hk : k.signed = false) {n : Nat} (h : n < 2 ^ k.bits) : k.wrap (n : Int) = n := by
  simp only [IntKind.wrap, hk, Bool.false_and, if_false, Bool.false_eq_true]
  rw [Int.emod_eq_of_lt (Int.natCast_nonneg _)]
  exact_mod_cast h

theorem ofInt_nat {w a : Nat} : BitVec.ofInt w (a : Int) = BitVec.ofNat w a := by simp

theorem bits_and {k : IntKind} (hk : k.signed = false) {a b : Nat} (ha : a < 2 ^ k.bits) (hb : b < 2 ^ k.bits) : bitsOp .and k a b = ((a &&& b : Nat) : Int) := by
  simp only [bitsOp, ofInt_nat]
  rw [BitVec.toNat_and, BitVec.toNat_ofNat, BitVec.toNat_ofNat, Nat.mod_eq_of_lt ha, Nat.mod_eq_of_lt hb, wrap_small hk (Nat.and_lt_two_pow _ hb)]
theorem bits_or {k : IntKind} (hk : k.signed = false) {a b : Nat} (ha : a < 2 ^ k.bits) (hb : b < 2 ^ k.bits) : bitsOp .or k a b = ((a ||| b : Nat) : Int) := by
  simp only [bitsOp, ofInt_nat]
  rw [BitVec.toNat_or, BitVec.toNat_ofNat, BitVec.toNat_ofNat, Nat.mod_eq_of_lt ha, Nat.mod_eq_of_lt hb, wrap_small hk (Nat.or_lt_two_pow ha hb)]
theorem bits_xor {k : IntKind} (hk : k.signed = false) {a b : Nat} (ha : a < 2 ^ k.bits) (hb : b < 2 ^ k.bits) : bitsOp .xor k a b = ((a ^^^ b : Nat) : Int) := by
  simp only [bitsOp, ofInt_nat]
  rw [BitVec.toNat_xor, BitVec.toNat_ofNat, BitVec.toNat_ofNat, Nat.mod_eq_of_lt ha, Nat.mod_eq_of_lt hb, wrap_small hk (Nat.xor_lt_two_pow ha hb)]

/-! Bits of 32. -/
theorem bits32 (op : BinOp) (a b : Int) : (bitsOp .and .u32 a b = ((BitVec.ofInt 32 a &&& BitVec.ofInt 32 b).toNat : Int)) ∧ (bitsOp .or .u32 a b = ((BitVec.ofInt 32 a ||| BitVec.ofInt 32 b).toNat : Int)) ∧ (bitsOp .xor .u32 a b = ((BitVec.ofInt 32 a ^^^ BitVec.ofInt 32 b).toNat : Int)) :=
  ⟨wrap_small (k := .u32) rfl (BitVec.isLt _), wrap_small (k := .u32) rfl (BitVec.isLt _), wrap_small (k := .u32) rfl (BitVec.isLt _)⟩
theorem ofInt_toNat32 (v : BitVec 32) : BitVec.ofInt 32 (v.toNat : Int) = v := by simp

theorem top32 (v : BitVec 32) : ((v.toNat : Int).fdiv (2 ^ 31)) = if v.msb then 1 else 0 := by
  have h := v.isLt
  rw [BitVec.msb_eq_decide]
  have e : ((v.toNat : Int).fdiv (2 ^ 31)) = ((v.toNat / 2147483648 : Nat) : Int) := by
    rw [Int.fdiv_eq_ediv_of_nonneg _ (by decide)]; rfl
  rw [e]
  by_cases hv : 2 ^ (32 - 1) ≤ v.toNat
  · simp only [hv, decide_true, if_true]; omega
  · simp only [hv, decide_false, Bool.false_eq_true, if_false]; omega

theorem msb_ofInt32 (x : Int) : (BitVec.ofInt 32 x).msb = decide (2147483648 ≤ x % 4294967296) := by
  rw [BitVec.msb_eq_decide, BitVec.toNat_ofInt]
  by_cases h : 2147483648 ≤ x % 4294967296
  · simp only [h, decide_true, decide_eq_true_eq]; omega
  · simp only [h, decide_false, decide_eq_false_iff_not]; omega

/-- The borrow of a difference of three. -/
theorem borrow32 {x y c : Nat} (hx : x < 4294967296) (hy : y < 4294967296) (hc : c ≤ 1) :
    (bitsOp .or .u32 (bitsOp .and .u32 (bitsOp .xor .u32 IntKind.u32.max x) y) (bitsOp .and .u32 (bitsOp .xor .u32 IntKind.u32.max (bitsOp .xor .u32 x y)) (((x : Int) - y - c) % 4294967296))).fdiv (2 ^ 31) = if x < y + c then 1 else 0 := by
  have hm : BitVec.ofInt 32 IntKind.u32.max = BitVec.allOnes 32 := by decide
  simp only [(bits32 .and _ _).1, (bits32 .and _ _).2.1, (bits32 .and _ _).2.2, ofInt_toNat32, top32, hm]
  simp only [BitVec.msb_or, BitVec.msb_and, BitVec.msb_xor, msb_ofInt32, BitVec.msb_allOnes (by decide : 0 < 32)]
  by_cases a : (2147483648 : Int) ≤ (x : Int) % 4294967296 <;> by_cases b : (2147483648 : Int) ≤ (y : Int) % 4294967296 <;> by_cases d : (2147483648 : Int) ≤ ((x : Int) - y - c) % 4294967296 % 4294967296 <;> simp [a, b, d] <;> omega

/-- The carry of a sum of three. -/
theorem carry32 {x y c : Nat} (hx : x < 4294967296) (hy : y < 4294967296) (hc : c ≤ 1) : ((x : Int) + y + c).fdiv (2 ^ 32) = if 4294967296 ≤ x + y + c then 1 else 0 := by
  rw [Int.fdiv_eq_ediv_of_nonneg _ (by decide)]
  by_cases h : 4294967296 ≤ x + y + c <;> simp [h] <;> omega
end Go.Ev

/-
  Loops of the evaluator, and what lies where in a heap with new objects at its end.
-/
set_option linter.unusedSimpArgs false
set_option linter.unusedVariables false
namespace Go.Ev
section
variable {T : Tab}

/-- A loop that goes so many rounds and is then left. -/
theorem loop_run {base : Nat} {body : ACode} (I : Nat → St) {r : AExit × St} (hr : r.1 ≠ .normal) : ∀ (n i : Nat), (∀ j, i ≤ j → j < i + n → evCode T base body (I j) = some (.normal, I (j + 1))) → evCode T base body (I (i + n)) = some r →
    evCode T base (.loop body) (I i) = some r
  | 0, i, _, hl => by
    rw [evCode_loop, show i = i + 0 from rfl, hl]
    obtain ⟨x, s⟩ := r
    cases x with
    | normal => exact absurd rfl hr
    | exit id => rfl
    | ret => rfl
  | n + 1, i, hs, hl => by
    rw [evCode_loop, hs i (Nat.le_refl _) (by omega)]
    exact loop_run I hr n (i + 1) (fun j h1 h2 => hs j (by omega) (by omega)) (by rw [show i + 1 + n = i + (n + 1) by omega]; exact hl)

theorem block_loop {base id : Nat} {body : ACode} (I : Nat → St) {s' : St} (n : Nat) (hs : ∀ j, j < n → evCode T base body (I j) = some (.normal, I (j + 1))) (hl : evCode T base body (I n) = some (.exit id, s')) :
    evCode T base (.block id (.loop body)) (I 0) = some (.normal, s') := by
  rw [evCode_block, loop_run (r := (.exit id, s')) I (by simp) n 0 (fun j _ h => hs j (by omega)) (by simpa using hl)]
  simp
end

section
variable {T : Tab}
/-- A loop with an invariant, its rounds counted. -/
theorem loop_inv {base : Nat} {body : ACode} {I : Nat → St → Prop} {x : AExit} (hx : x ≠ .normal) {Q : St → Prop} (n : Nat) (hs : ∀ j s, j < n → I j s → ∃ s', evCode T base body s = some (.normal, s') ∧ I (j + 1) s') (hl : ∀ s, I n s → ∃ s', evCode T base body s = some (x, s') ∧ Q s') :
    ∀ (k i : Nat), i + k = n → ∀ s, I i s → ∃ s', evCode T base (.loop body) s = some (x, s') ∧ Q s'
  | 0, i, hi, s, h => by
    obtain ⟨s', h1, h2⟩ := hl s (by rw [← hi]; exact h)
    refine ⟨s', ?_, h2⟩
    rw [evCode_loop, h1]
    cases x with
    | normal => exact absurd rfl hx
    | exit id => rfl
    | ret => rfl
  | k + 1, i, hi, s, h => by
    obtain ⟨s1, h1, h2⟩ := hs i s (by omega) h
    obtain ⟨s', h3, h4⟩ := loop_inv hx n hs hl k (i + 1) (by omega) s1 h2
    exact ⟨s', by rw [evCode_loop, h1]; exact h3, h4⟩

theorem block_inv {base id : Nat} {body : ACode} (I : Nat → St → Prop) {Q : St → Prop} (n : Nat) {s : St} (h0 : I 0 s) (hs : ∀ j s, j < n → I j s → ∃ s', evCode T base body s = some (.normal, s') ∧ I (j + 1) s') (hl : ∀ s, I n s → ∃ s', evCode T base body s = some (.exit id, s') ∧ Q s') :
    ∃ s', evCode T base (.block id (.loop body)) s = some (.normal, s') ∧ Q s' := by
  obtain ⟨s', h1, h2⟩ := loop_inv (T := T) (x := .exit id) (by simp) n hs hl n 0 (by omega) s h0
  exact ⟨s', by rw [evCode_block, h1]; simp, h2⟩
end

theorem at0 {H r : List Ob} {a : Ob} : (H ++ a :: r)[H.length]? = some a := by simp
theorem at1 {H r : List Ob} {a b : Ob} : (H ++ a :: b :: r)[H.length + 1]? = some b := by simp
theorem at2 {H r : List Ob} {a b c : Ob} : (H ++ a :: b :: c :: r)[H.length + 2]? = some c := by simp
theorem set0 {H r : List Ob} {a x : Ob} : (H ++ a :: r).set H.length x = H ++ x :: r := by simp
theorem set1 {H r : List Ob} {a b x : Ob} : (H ++ a :: b :: r).set (H.length + 1) x = H ++ a :: x :: r := by simp
theorem set2 {H r : List Ob} {a b c x : Ob} : (H ++ a :: b :: c :: r).set (H.length + 2) x = H ++ a :: b :: x :: r := by simp

theorem liveAt_some {H : List Ob} {id : Nat} {o : Ob} (h : H[id]? = some o) (hl : o.live = true) : liveAt H id = some o := by simp [liveAt, h, hl]

/-- Numbers of a kind lie in a row in an object. -/
def Row (k : IntKind) (H : List Ob) (id off : Nat) (xs : List Nat) : Prop := ∃ o, liveAt H id = some o ∧ ∀ i x, xs[i]? = some x → o.cells[off + i]? = some (.int k (x : Nat))

theorem liveAt_app {H l : List Ob} {id : Nat} {o : Ob} (h : liveAt H id = some o) : liveAt (H ++ l) id = some o := by
  simp only [liveAt, Option.bind_eq_some_iff] at h ⊢
  obtain ⟨o', h1, h2⟩ := h
  refine ⟨o', ?_, h2⟩
  rw [List.getElem?_append_left (List.getElem?_eq_some_iff.1 h1).1]
  exact h1

theorem Row.app {k : IntKind} {H l : List Ob} {id off : Nat} {xs : List Nat} (h : Row k H id off xs) : Row k (H ++ l) id off xs := by
  obtain ⟨o, h1, h2⟩ := h
  exact ⟨o, liveAt_app h1, h2⟩

/-- A number is read. -/
theorem Row.load {k : IntKind} {H : List Ob} {id off i x : Nat} {xs : List Nat} {e : Env} {a : Operand} (h : Row k H id off xs) (hi : xs[i]? = some x) (ha : opd e a = some (.pointer (some ⟨id, off + i, none⟩))) :
    simpleOp H e (.load none a) = some (.int k (x : Nat), H, some [id], []) := by
  obtain ⟨o, h1, h2⟩ := h
  simp [simpleOp, ha, h1, partL, h2 i x hi]

theorem live0 {H r : List Ob} {cs : List Value} {o e : Bool} {n : Nat} : liveAt (H ++ ⟨cs, true, o, e, n⟩ :: r) H.length = some ⟨cs, true, o, e, n⟩ := by simp [liveAt]
theorem live1 {H r : List Ob} {a : Ob} {cs : List Value} {o e : Bool} {n : Nat} : liveAt (H ++ a :: ⟨cs, true, o, e, n⟩ :: r) (H.length + 1) = some ⟨cs, true, o, e, n⟩ := by simp [liveAt]
theorem live2 {H r : List Ob} {a b : Ob} {cs : List Value} {o e : Bool} {n : Nat} : liveAt (H ++ a :: b :: ⟨cs, true, o, e, n⟩ :: r) (H.length + 2) = some ⟨cs, true, o, e, n⟩ := by simp [liveAt]

def u32s (l : List Nat) : List Value := l.map fun n => .int .u32 (n : Nat)
def u8s (l : List Nat) : List Value := l.map fun n => .int .u8 (n : Nat)
theorem u32s_len (l : List Nat) : (u32s l).length = l.length := by simp [u32s]
theorem u8s_len (l : List Nat) : (u8s l).length = l.length := by simp [u8s]
theorem u32s_set (l : List Nat) (i n : Nat) : (u32s l).set i (.int .u32 (n : Nat)) = u32s (l.set i n) := by simp [u32s, List.map_set]
theorem u8s_set (l : List Nat) (i n : Nat) : (u8s l).set i (.int .u8 (n : Nat)) = u8s (l.set i n) := by simp [u8s, List.map_set]
theorem u32s_get {l : List Nat} {i x : Nat} (h : l[i]? = some x) : (u32s l)[i]? = some (.int .u32 (x : Nat)) := by simp [u32s, h]
theorem u8s_get {l : List Nat} {i x : Nat} (h : l[i]? = some x) : (u8s l)[i]? = some (.int .u8 (x : Nat)) := by simp [u8s, h]
theorem cells_int (k : IntKind) (n : Int) : (Value.int k n).cells.toList = [.int k n] := rfl
theorem cells_int_size (k : IntKind) (n : Int) : (Value.int k n).cells.size = 1 := rfl
theorem storeAt0 {H r : List Ob} {cs : List Value} {e : Bool} {s off : Nat} {v : List Value} (h : off + v.length ≤ cs.length) : storeAt (H ++ ⟨cs, true, true, e, s⟩ :: r) ⟨H.length, off, none⟩ v = some (H ++ ⟨splice cs off v, true, true, e, s⟩ :: r) := by
  simp [storeAt, live0, h]
theorem storeAt1 {H r : List Ob} {a : Ob} {cs : List Value} {e : Bool} {s off : Nat} {v : List Value} (h : off + v.length ≤ cs.length) : storeAt (H ++ a :: ⟨cs, true, true, e, s⟩ :: r) ⟨H.length + 1, off, none⟩ v = some (H ++ a :: ⟨splice cs off v, true, true, e, s⟩ :: r) := by
  simp [storeAt, live1, h]
theorem storeAt2 {H r : List Ob} {a b : Ob} {cs : List Value} {e : Bool} {s off : Nat} {v : List Value} (h : off + v.length ≤ cs.length) : storeAt (H ++ a :: b :: ⟨cs, true, true, e, s⟩ :: r) ⟨H.length + 2, off, none⟩ v = some (H ++ a :: b :: ⟨splice cs off v, true, true, e, s⟩ :: r) := by
  simp [storeAt, live2, h]
theorem addr_add (b o n : Nat) : (⟨b, o, none⟩ : Addr).add n = ⟨b, o + n, none⟩ := by
  unfold Addr.add
  split <;> simp_all
theorem wrap_nat {n : Nat} (h : n < 9223372036854775808) : IntKind.i64.wrap (n : Int) = n := wrapI64_small (by omega) (by omega)
theorem splice_single (cs : List Value) (off : Nat) (x : Value) : splice cs off [x] = cs.set off x := rfl
theorem cells_agg (l : List Value) : (Value.agg l.toArray).cells.toList = l := rfl
theorem cells_agg_size (l : List Value) : (Value.agg l.toArray).cells.size = l.length := rfl
theorem nlt1 (n : Nat) : (n + 1 < n) = False := by simp
theorem nlt2 (n : Nat) : (n + 2 < n) = False := by simp
theorem nlt3 (n : Nat) : (n + 3 < n) = False := by simp
theorem nlt4 (n : Nat) : (n + 4 < n) = False := by simp
theorem rf_int (k : IntKind) (n : Int) : rf (.int k n) = true := rfl
theorem rf_tuple_ints (k j : IntKind) (a b : Int) : rf (.tuple #[.int k a, .int j b]) = true := rfl
theorem toList2 (a b : Value) : (#[a, b] : Array Value).toList = [a, b] := rfl

theorem Row.elems {k : IntKind} {H : List Ob} {id off n c : Nat} {xs : List Nat} (h : Row k H id off xs) (hx : 0 < xs.length) : elemsOf H 1 xs.length (.slice (some ⟨id, off, none⟩) n c) = some (xs.map fun (x : Nat) => Value.int k x) := by
  obtain ⟨o, h1, h2⟩ := h
  have hl : off + xs.length ≤ o.cells.length := by
    have := h2 (xs.length - 1) _ (List.getElem?_eq_getElem (by omega))
    have := (List.getElem?_eq_some_iff.1 this).1
    omega
  simp only [elemsOf, h1, Option.bind_some, Option.isNone_none, Nat.mul_one, hl, and_self, if_true, Option.some.injEq]
  apply List.ext_getElem?
  intro i
  rw [List.getElem?_take]
  by_cases hi : i < xs.length
  · rw [if_pos hi, List.getElem?_drop, h2 i _ (List.getElem?_eq_getElem hi), List.getElem?_map, List.getElem?_eq_getElem hi]; rfl
  · rw [if_neg hi, List.getElem?_eq_none (by simp; omega)]

theorem splice_gen (cs : List Value) (off : Nat) (v : List Value) (h : off + v.length ≤ cs.length) : splice cs off v = cs.take off ++ (v ++ cs.drop (off + v.length)) := by
  unfold splice
  split
  · rename_i x
    simp only [List.length_cons, List.length_nil, Nat.zero_add] at h
    rw [List.set_eq_take_append_cons_drop, if_pos (by omega)]
    simp
  · rfl

/-- What fits is put behind what is there. -/
theorem append_fits {H r : List Ob} {es bytes len cap n : Nat} {cs new : List Value} {x : Value} (hl : lenV x = some n) (hx : elemsOf (H ++ ⟨cs, true, true, true, es⟩ :: r) es n x = some new) (hn : 0 < n) (hc : len + n ≤ cap) (hb : (len + n) * bytes ≤ 2 ^ 47) (hb0 : 0 < bytes) (he : 0 < es) (hf : len * es + new.length ≤ cs.length) :
    appendV es bytes (H ++ ⟨cs, true, true, true, es⟩ :: r) (.slice (some ⟨H.length, 0, none⟩) len cap) x = some (.slice (some ⟨H.length, 0, none⟩) (len + n) cap, H ++ ⟨splice cs (len * es) new, true, true, true, es⟩ :: r, none, [H.length]) := by
  have h1 : ¬ n = 0 := by omega
  have h2 : 0 + len * es ≤ cs.length := by omega
  have h3 : (len + n) * bytes ≤ 2 ^ 47 ∧ 0 < bytes ∧ 0 < es := ⟨hb, hb0, he⟩
  have hold : elemsOf (H ++ ⟨cs, true, true, true, es⟩ :: r) es len (.slice (some ⟨H.length, 0, none⟩) len cap) = some ((cs.drop 0).take (len * es)) := by
    simp only [elemsOf, live0, Option.bind_some, Option.isNone_none, h2, and_self, if_true]
  simp only [appendV, hl, hx, Option.bind_some, if_neg h1, h3, and_self, not_true_eq_false, if_false, live0, hold, if_true, hc, addr_add, Nat.zero_add, storeAt0 hf]
end Go.Ev

/-
  Numbers and their digits. No program.
-/
set_option linter.unusedSimpArgs false
set_option linter.unusedVariables false
namespace Go.Ev
def num (B : Nat) : List Nat → Nat
  | [] => 0
  | x :: r => x + B * num B r
def dig (B n v : Nat) : List Nat := (List.range n).map fun i => v / B ^ i % B

theorem dig_len (B n v : Nat) : (dig B n v).length = n := by simp [dig]
theorem dig_get {B n v i : Nat} (h : i < n) : (dig B n v)[i]? = some (v / B ^ i % B) := by simp [dig, h]
theorem dig_lt {B n v x : Nat} (hB : 0 < B) (h : x ∈ dig B n v) : x < B := by
  simp only [dig, List.mem_map] at h
  obtain ⟨i, _, rfl⟩ := h
  exact Nat.mod_lt _ hB
theorem dig_ext {B n v : Nat} {l : List Nat} (hl : l.length = n) (h : ∀ i, i < n → l[i]? = some (v / B ^ i % B)) : l = dig B n v := by
  apply List.ext_getElem?
  intro i
  by_cases hi : i < n
  · rw [h i hi, dig_get hi]
  · rw [List.getElem?_eq_none (by omega), List.getElem?_eq_none (by rw [dig_len]; omega)]

theorem num_lt {B : Nat} : ∀ {l : List Nat}, (∀ x ∈ l, x < B) → num B l < B ^ l.length
  | [], _ => by simp [num]
  | x :: r, h => by
    have h1 : x < B := h x (by simp)
    have h2 := num_lt (l := r) fun y hy => h y (by simp [hy])
    simp only [num, List.length_cons, Nat.pow_succ]
    have h3 : B * (num B r + 1) ≤ B * B ^ r.length := Nat.mul_le_mul_left _ h2
    rw [Nat.mul_add, Nat.mul_one] at h3
    rw [Nat.mul_comm (B ^ r.length) B]
    omega
theorem num_append (B : Nat) : ∀ (a b : List Nat), num B (a ++ b) = num B a + B ^ a.length * num B b
  | [], b => by simp [num]
  | x :: r, b => by
    simp only [num, List.cons_append, num_append B r b, List.length_cons, Nat.pow_succ, Nat.mul_add]
    rw [← Nat.mul_assoc, Nat.mul_comm B (B ^ r.length)]
    omega
theorem num_take {B : Nat} {l : List Nat} {j x : Nat} (h : l[j]? = some x) : num B (l.take (j + 1)) = num B (l.take j) + x * B ^ j := by
  have hj : j < l.length := (List.getElem?_eq_some_iff.1 h).1
  rw [List.take_add_one, h, num_append]
  simp [num, Nat.min_eq_left (Nat.le_of_lt hj), Nat.mul_comm]
theorem num_get {B : Nat} (hB : 0 < B) : ∀ {l : List Nat} {i x : Nat}, (∀ x ∈ l, x < B) → l[i]? = some x → num B l / B ^ i % B = x
  | [], i, x, _, h => by simp at h
  | y :: r, 0, x, hl, h => by
    simp at h; subst h
    have := hl y (by simp)
    simp only [num, Nat.pow_zero, Nat.div_one, Nat.add_mul_mod_self_left]
    exact Nat.mod_eq_of_lt this
  | y :: r, i + 1, x, hl, h => by
    have := hl y (by simp)
    simp only [num, Nat.pow_succ, Nat.mul_comm (B ^ i) B]
    rw [← Nat.div_div_eq_div_mul, Nat.add_mul_div_left _ _ hB, Nat.div_eq_of_lt this, Nat.zero_add]
    exact num_get hB (fun z hz => hl z (by simp [hz])) (by simpa using h)
theorem dig_num {B : Nat} (hB : 0 < B) {l : List Nat} (h : ∀ x ∈ l, x < B) : dig B l.length (num B l) = l := by
  symm
  exact dig_ext rfl fun i hi => by rw [num_get hB h (List.getElem?_eq_getElem hi)]; exact List.getElem?_eq_getElem hi
theorem dig_succ (B n v : Nat) : dig B (n + 1) v = v % B :: dig B n (v / B) := by
  simp only [dig, List.range_succ_eq_map, List.map_cons, List.map_map, Nat.pow_zero, Nat.div_one]
  congr 1
  apply List.map_congr_left
  intro i _
  simp only [Function.comp, Nat.succ_eq_add_one, Nat.pow_succ, Nat.div_div_eq_div_mul, Nat.mul_comm (B ^ i) B]
theorem num_dig {B : Nat} (hB : 0 < B) : ∀ (n v : Nat), num B (dig B n v) = v % B ^ n
  | 0, v => by simp [dig, num, Nat.mod_one]
  | n + 1, v => by
    rw [dig_succ, num, num_dig hB n, Nat.pow_succ, Nat.mul_comm (B ^ n) B, Nat.mod_mul]

theorem num_set {B : Nat} : ∀ {l : List Nat} {i x : Nat} (y : Nat), l[i]? = some x → num B (l.set i y) + x * B ^ i = num B l + y * B ^ i
  | [], i, x, y, h => by simp at h
  | z :: r, 0, x, y, h => by
    simp at h; subst h
    simp only [List.set_cons_zero, num, Nat.pow_zero]
    omega
  | z :: r, i + 1, x, y, h => by
    have := num_set (B := B) (l := r) (i := i) y (by simpa using h)
    simp only [List.set_cons_succ, num, Nat.pow_succ]
    have e : B * (num B (r.set i y) + x * B ^ i) = B * (num B r + y * B ^ i) := by rw [this]
    rw [Nat.mul_add, Nat.mul_add] at e
    rw [show x * (B ^ i * B) = B * (x * B ^ i) by simp only [Nat.mul_assoc, Nat.mul_left_comm, Nat.mul_comm], show y * (B ^ i * B) = B * (y * B ^ i) by simp only [Nat.mul_assoc, Nat.mul_left_comm, Nat.mul_comm]]
    omega
theorem set_lt {B : Nat} {l : List Nat} {i y : Nat} (h : ∀ x ∈ l, x < B) (hy : y < B) : ∀ x ∈ l.set i y, x < B := by
  intro x hx
  rcases List.mem_or_eq_of_mem_set hx with h1 | h1
  · exact h x h1
  · rw [h1]; exact hy

/-- A byte more is put to the words. -/
theorem dig_byte {m j x N : Nat} (hj : j / 4 < m) (hN : N < 256 ^ j) (hx : x < 256) :
    (dig 4294967296 m N).set (j / 4) ((dig 4294967296 m N).getD (j / 4) 0 ||| x * 2 ^ (8 * (j % 4))) = dig 4294967296 m (N + x * 256 ^ j) := by
  have e256 : (256 : Nat) = 2 ^ 8 := rfl
  have eW : (4294967296 : Nat) = 2 ^ 32 := rfl
  have hpow : (256 : Nat) ^ j = 2 ^ (8 * (j % 4)) * 4294967296 ^ (j / 4) := by
    rw [e256, eW, ← Nat.pow_mul, ← Nat.pow_mul, ← Nat.pow_add]
    congr 1; omega
  have hWq : 0 < 4294967296 ^ (j / 4) := Nat.pow_pos (by decide)
  have hdiv : N / 4294967296 ^ (j / 4) < 2 ^ (8 * (j % 4)) := by
    rw [Nat.div_lt_iff_lt_mul hWq, ← hpow]; exact hN
  have h24 : (2 : Nat) ^ (8 * (j % 4)) ≤ 2 ^ 24 := Nat.pow_le_pow_right (by decide) (by omega)
  have hx24 : (x + 1) * 2 ^ (8 * (j % 4)) ≤ 256 * 2 ^ 24 := Nat.mul_le_mul (by omega) h24
  rw [Nat.add_mul, Nat.one_mul] at hx24
  have hsum : N / 4294967296 ^ (j / 4) + x * 2 ^ (8 * (j % 4)) < 4294967296 := by show _ < 4294967296; omega
  apply dig_ext (by rw [List.length_set, dig_len])
  intro i hi
  by_cases hq : i = j / 4
  · subst hq
    rw [List.getElem?_set_self (by rw [dig_len]; exact hi), List.getD_eq_getElem?_getD, dig_get hi]
    rw [hpow, ← Nat.mul_assoc, Nat.add_mul_div_right _ _ hWq]
    simp only [Option.getD_some]
    rw [Nat.mod_eq_of_lt (a := N / _) (by omega), Nat.mod_eq_of_lt hsum, Nat.add_comm, Nat.mul_comm x, Nat.two_pow_add_eq_or_of_lt hdiv, Nat.or_comm]
  · rw [List.getElem?_set_ne (Ne.symm hq), dig_get hi]
    congr 1
    by_cases hlt : i < j / 4
    · have : 4294967296 ^ (j / 4) = 4294967296 * 4294967296 ^ (j / 4 - i - 1) * 4294967296 ^ i := by
        rw [Nat.mul_assoc, ← Nat.pow_add, ← Nat.pow_add_one']; congr 1; omega
      rw [hpow, this]
      rw [show x * (2 ^ (8 * (j % 4)) * (4294967296 * 4294967296 ^ (j / 4 - i - 1) * 4294967296 ^ i)) = (x * 2 ^ (8 * (j % 4)) * 4294967296 ^ (j / 4 - i - 1) * 4294967296) * 4294967296 ^ i by simp only [Nat.mul_assoc, Nat.mul_left_comm, Nat.mul_comm]]
      rw [Nat.add_mul_div_right _ _ (Nat.pow_pos (by decide)), Nat.add_mul_mod_self_right]
    · have hle : 4294967296 ^ (j / 4 + 1) ≤ 4294967296 ^ i := Nat.pow_le_pow_right (by decide) (by omega)
      have h1 : N + x * 256 ^ j < 4294967296 ^ i := by
        refine Nat.lt_of_lt_of_le ?_ hle
        have : (256 : Nat) ^ (j + 1) ≤ 4294967296 ^ (j / 4 + 1) := by
          rw [e256, eW, ← Nat.pow_mul, ← Nat.pow_mul]; exact Nat.pow_le_pow_right (by decide) (by omega)
        refine Nat.lt_of_lt_of_le ?_ this
        rw [Nat.pow_succ]
        have : x * 256 ^ j ≤ 255 * 256 ^ j := Nat.mul_le_mul_right _ (by omega)
        omega
      rw [Nat.div_eq_of_lt h1, Nat.div_eq_of_lt (by omega)]
end Go.Ev

/-
  Slices of numbers, those that are only read and those that grow; heaps that only get longer.
-/
set_option linter.unusedSimpArgs false
set_option linter.unusedVariables false
namespace Go.Ev

def ns (k : IntKind) (l : List Nat) : List Value := l.map fun n => .int k (n : Nat)
theorem ns_len (k : IntKind) (l : List Nat) : (ns k l).length = l.length := by simp [ns]
theorem ns_set (k : IntKind) (l : List Nat) (i n : Nat) : (ns k l).set i (.int k (n : Nat)) = ns k (l.set i n) := by simp [ns, List.map_set]
theorem ns_get {k : IntKind} {l : List Nat} {i x : Nat} (h : l[i]? = some x) : (ns k l)[i]? = some (.int k (x : Nat)) := by simp [ns, h]
theorem ns_append (k : IntKind) (a b : List Nat) : ns k (a ++ b) = ns k a ++ ns k b := by simp [ns]

theorem liveAt_lt {H : List Ob} {id : Nat} {o : Ob} (h : liveAt H id = some o) : id < H.length := by
  simp only [liveAt, Option.bind_eq_some_iff] at h
  obtain ⟨o', h1, _⟩ := h
  exact (List.getElem?_eq_some_iff.1 h1).1
theorem liveAt_congr {H H' : List Ob} {id : Nat} (h : H'[id]? = H[id]?) : liveAt H' id = liveAt H id := by simp only [liveAt, h]

/-- A slice that holds these numbers. -/
inductive Sl (k : IntKind) (H : List Ob) : Value → List Nat → Prop
  | nil : Sl k H (.slice none 0 0) []
  | mk {id off c : Nat} {o : Ob} {l : List Nat} : liveAt H id = some o → off + l.length ≤ o.cells.length → (∀ (i x : Nat), l[i]? = some x → o.cells[off + i]? = some (.int k (x : Nat))) → Sl k H (.slice (some ⟨id, off, none⟩) l.length c) l

theorem Sl.of_row {k : IntKind} {H : List Ob} {id off c : Nat} {l : List Nat} (h : Row k H id off l) (hl : 0 < l.length) : Sl k H (.slice (some ⟨id, off, none⟩) l.length c) l := by
  obtain ⟨o, h1, h2⟩ := h
  refine .mk h1 ?_ h2
  have := h2 (l.length - 1) _ (List.getElem?_eq_getElem (by omega))
  have := (List.getElem?_eq_some_iff.1 this).1
  omega
theorem Sl.row {k : IntKind} {H : List Ob} {v : Value} {l : List Nat} (h : Sl k H v l) (hl : 0 < l.length) : ∃ id off c, v = .slice (some ⟨id, off, none⟩) l.length c ∧ Row k H id off l := by
  cases h with
  | nil => simp at hl
  | mk h1 h2 h3 => exact ⟨_, _, _, rfl, _, h1, h3⟩
theorem Sl.congr {k : IntKind} {H H' : List Ob} {v : Value} {l : List Nat} (h : Sl k H v l) (hH : ∀ id, id < H.length → H'[id]? = H[id]?) : Sl k H' v l := by
  cases h with
  | nil => exact .nil
  | mk h1 h2 h3 => exact .mk (by rw [liveAt_congr (hH _ (liveAt_lt h1))]; exact h1) h2 h3
theorem Sl.app {k : IntKind} {H l' : List Ob} {v : Value} {l : List Nat} (h : Sl k H v l) : Sl k (H ++ l') v l :=
  h.congr fun id hid => List.getElem?_append_left hid
theorem Sl.lenV {k : IntKind} {H : List Ob} {v : Value} {l : List Nat} (h : Sl k H v l) : lenV v = some l.length := by
  cases h <;> rfl
theorem Sl.elems {k : IntKind} {H : List Ob} {v : Value} {l : List Nat} (h : Sl k H v l) : elemsOf H 1 l.length v = some (ns k l) := by
  cases h with
  | nil => rfl
  | mk h1 h2 h3 =>
    simp only [elemsOf, h1, Option.bind_some, Option.isNone_none, Nat.mul_one, h2, and_self, if_true, Option.some.injEq]
    apply List.ext_getElem?
    intro i
    rw [List.getElem?_take]
    by_cases hi : i < l.length
    · rw [if_pos hi, List.getElem?_drop, h3 i _ (List.getElem?_eq_getElem hi), ns_get (List.getElem?_eq_getElem hi)]
    · rw [if_neg hi, List.getElem?_eq_none (by rw [ns_len]; omega)]

/-- Numbers that an own, grown object holds, or none; the object isn't among the first B. -/
inductive Grown (k : IntKind) (B : Nat) (H : List Ob) : Value → List Nat → Prop
  | nil : Grown k B H (.slice none 0 0) []
  | own {id : Nat} {bs : List Nat} : B ≤ id → 0 < bs.length → H[id]? = some (Ob.grown 1 (ns k bs)) → Grown k B H (.slice (some ⟨id, 0, none⟩) bs.length bs.length) bs
  | new {id : Nat} {bs : List Nat} : B ≤ id → 0 < bs.length → H[id]? = some (Ob.fresh (ns k bs)) → Grown k B H (.slice (some ⟨id, 0, none⟩) bs.length bs.length) bs

theorem Grown.sl {k : IntKind} {B : Nat} {H : List Ob} {v : Value} {l : List Nat} (h : Grown k B H v l) : Sl k H v l := by
  cases h with
  | nil => exact .nil
  | own h1 h2 h3 => exact .mk (liveAt_some h3 rfl) (by simp [Ob.grown, ns_len]) (fun i x hx => by rw [Nat.zero_add]; exact ns_get hx)
  | new h1 h2 h3 => exact .mk (liveAt_some h3 rfl) (by simp [Ob.fresh, ns_len]) (fun i x hx => by rw [Nat.zero_add]; exact ns_get hx)
theorem Grown.app {k : IntKind} {B : Nat} {H l' : List Ob} {v : Value} {l : List Nat} (h : Grown k B H v l) : Grown k B (H ++ l') v l := by
  cases h with
  | nil => exact .nil
  | own h1 h2 h3 => exact .own h1 h2 (by rw [List.getElem?_append_left (List.getElem?_eq_some_iff.1 h3).1]; exact h3)
  | new h1 h2 h3 => exact .new h1 h2 (by rw [List.getElem?_append_left (List.getElem?_eq_some_iff.1 h3).1]; exact h3)

/-- What is appended to them. -/
theorem Grown.append {k : IntKind} {B bytes : Nat} {H : List Ob} {s x : Value} {bs new : List Nat} (h : Grown k B H s bs) (hB : B ≤ H.length) (hl : Go.Ev.lenV x = some new.length) (he : elemsOf H 1 new.length x = some (ns k new)) (hb : (bs.length + new.length) * bytes ≤ 2 ^ 47) (hb0 : 0 < bytes) :
    ∃ s' H' M, appendV 1 bytes H s x = some (s', H', none, M) ∧ Grown k B H' s' (bs ++ new) ∧ (∀ i ∈ M, B ≤ i) ∧ H.length ≤ H'.length ∧ ∀ i, i < B → H'[i]? = H[i]? := by
  rcases Nat.eq_zero_or_pos new.length with hn | hn
  · have : new = [] := List.eq_nil_of_length_eq_zero hn
    subst this
    rw [List.append_nil]
    refine ⟨s, H, [], ?_, h, by simp, Nat.le_refl _, fun _ _ => rfl⟩
    rw [List.length_nil] at hl he
    cases h <;> simp only [appendV, hl, he, Option.bind_some, if_true]
  · cases h with
    | nil =>
      refine ⟨.slice (some ⟨H.length, 0, none⟩) new.length new.length, H ++ [Ob.grown 1 (ns k new)], [], ?_, ?_, by simp, by simp, ?_⟩
      · have h1 : ¬ new.length = 0 := by omega
        have h2 : (0 + new.length) * bytes ≤ 2 ^ 47 ∧ 0 < bytes ∧ 0 < 1 := ⟨by simpa using hb, hb0, by decide⟩
        simp only [appendV, hl, he, Option.bind_some, if_neg h1, h2, and_self, not_true_eq_false, if_false, if_true]
      · rw [List.nil_append]
        exact .own hB hn (by simp)
      · intro i hi
        rw [List.getElem?_append_left (by omega)]
    | @own id0 _ h1 h2 h3 =>
      refine ⟨.slice (some ⟨H.length, 0, none⟩) (bs.length + new.length) (bs.length + new.length), (H.set id0 Ob.dead) ++ [Ob.grown 1 (ns k (bs ++ new))], [id0], ?_, ?_, by simpa using h1, by simp, ?_⟩
      · have h4 : liveAt H id0 = some (Ob.grown 1 (ns k bs)) := liveAt_some h3 rfl
        have h5 : ¬ new.length = 0 := by omega
        have h6 : (bs.length + new.length) * bytes ≤ 2 ^ 47 ∧ 0 < bytes ∧ 0 < 1 := ⟨hb, hb0, by decide⟩
        have h7 : ¬ (bs.length + new.length ≤ bs.length) := by omega
        have h8 : elemsOf H 1 bs.length (.slice (some ⟨id0, 0, none⟩) bs.length bs.length) = some (ns k bs) := (Grown.own h1 h2 h3).sl.elems
        simp only [appendV, hl, he, Option.bind_some, if_neg h5, h6, and_self, not_true_eq_false, if_false, if_true, h4, h8]
        simp only [Ob.grown, not_true_eq_false, if_false, if_neg h7, Bool.false_eq_true, Nat.le_refl, if_true, ← ns_append]
      · have := Grown.own (k := k) (B := B) (H := (H.set id0 Ob.dead) ++ [Ob.grown 1 (ns k (bs ++ new))]) (id := H.length) (bs := bs ++ new) hB (by simp; omega) (by simp)
        rwa [List.length_append] at this
      · intro i hi
        rw [List.getElem?_append_left (by simp; have := (List.getElem?_eq_some_iff.1 h3).1; omega), List.getElem?_set_ne (by omega)]
    | @new id0 _ h1 h2 h3 =>
      refine ⟨.slice (some ⟨H.length, 0, none⟩) (bs.length + new.length) (bs.length + new.length), H ++ [Ob.grown 1 (ns k (bs ++ new))], [], ?_, ?_, by simp, by simp, ?_⟩
      · have h4 : liveAt H id0 = some (Ob.fresh (ns k bs)) := liveAt_some h3 rfl
        have h5 : ¬ new.length = 0 := by omega
        have h6 : (bs.length + new.length) * bytes ≤ 2 ^ 47 ∧ 0 < bytes ∧ 0 < 1 := ⟨hb, hb0, by decide⟩
        have h7 : ¬ (bs.length + new.length ≤ bs.length) := by omega
        have h8 : elemsOf H 1 bs.length (.slice (some ⟨id0, 0, none⟩) bs.length bs.length) = some (ns k bs) := (Grown.new h1 h2 h3).sl.elems
        simp only [appendV, hl, he, Option.bind_some, if_neg h5, h6, and_self, not_true_eq_false, if_false, if_true, h4, h8]
        simp only [Ob.fresh, not_true_eq_false, if_false, if_neg h7, Bool.false_eq_true, Nat.le_refl, if_true, ← ns_append]
      · have := Grown.own (k := k) (B := B) (H := H ++ [Ob.grown 1 (ns k (bs ++ new))]) (id := H.length) (bs := bs ++ new) hB (by simp; omega) (by simp)
        rwa [List.length_append] at this
      · intro i hi
        rw [List.getElem?_append_left (by omega)]

theorem ext_app {H H' : List Ob} (h1 : H.length ≤ H'.length) (h2 : ∀ i, i < H.length → H'[i]? = H[i]?) : ∃ l, H' = H ++ l := by
  refine ⟨H'.drop H.length, ?_⟩
  apply List.ext_getElem?
  intro i
  by_cases hi : i < H.length
  · rw [List.getElem?_append_left hi, h2 i hi]
  · rw [List.getElem?_append_right (by omega), List.getElem?_drop]
    congr 1; omega
/-- What lies ahead of a place isn't told. -/
theorem inMerge_ge {base : Nat} : ∀ {log M : List Nat}, (∀ i ∈ M, base ≤ i) → inMerge base log M = log
  | log, [], _ => rfl
  | log, i :: r, h => by
    have h1 : ¬ i < base := by have := h i (by simp); omega
    simp only [inMerge, h1, false_and, if_false]
    exact inMerge_ge fun j hj => h j (by simp [hj])
end Go.Ev

/-
  The evaluator's regions, an operation at a time, without the notes that only open orders need.
-/
set_option linter.unusedSimpArgs false
set_option linter.unusedVariables false
namespace Go.Ev
/-! Choices whose arms simp leaves alone until it knows which. -/
def gate {α : Type} (p : Prop) [Decidable p] (x : Option α) : Option α := if p then x else none
theorem gate_congr {α : Type} {p p' : Prop} [Decidable p] [Decidable p'] (x : Option α) (h : ∀ _ : Unit, p = p') : gate p x = gate p' x := by
  have h := h (); subst h; unfold gate; congr
/-- The head first: the dummy lets simp take a head that is changed by definition alone as changed. -/
theorem bind_congr2 {α β : Type} {x y : Option α} (f : α → Option β) (h : ∀ _ : Unit, x = y) : x.bind f = y.bind f := by rw [h ()]
theorem ite_congr2 {α : Type} {c c' : Prop} [Decidable c] [Decidable c'] (x y : α) (h : ∀ _ : Unit, c = c') : (if c then x else y) = (if c' then x else y) := by
  have h := h (); subst h; congr
theorem gate_neg {α : Type} (b : Bool) (x : Option α) : (if b = true then none else x) = gate (b = false) x := by cases b <;> rfl
theorem gate_true {α : Type} [Decidable True] {x : Option α} : gate True x = x := by simp [gate]
def guardV {α : Type} (v : Value) (w : Bool) (x y : Option α) : Option α := match v with
  | .bool c => if c = w then x else y
  | _ => none
theorem guardV_congr {α : Type} {v v' : Value} (w : Bool) (x y : Option α) (h : ∀ _ : Unit, v = v') : guardV v w x y = guardV v' w x y := by rw [h ()]
theorem guardV_tt {α : Type} {x y : Option α} : guardV (.bool true) true x y = x := rfl
theorem guardV_ff {α : Type} {x y : Option α} : guardV (.bool false) false x y = x := rfl
theorem guardV_tf {α : Type} {x y : Option α} : guardV (.bool true) false x y = y := rfl
theorem guardV_ft {α : Type} {x y : Option α} : guardV (.bool false) true x y = y := rfl
def keepV (t : Nat) (v : Option Value) (l : Env) : Env := match v with
  | some v => (t, v) :: l
  | none => l
theorem keepV_some {t : Nat} {v : Value} {l : Env} : keepV t (some v) l = (t, v) :: l := rfl
theorem keep_nil {e : Env} : Env.keep e [] = [] := rfl
theorem keep_cons {e : Env} {t : Nat} {r : List Nat} : Env.keep e (t :: r) = keepV t (e.get t) (Env.keep e r) := rfl
theorem fs_cond {T : Tab} {base : Nat} {c : Operand} {a b : ACode} {s : St} : evCode T base (.cond c a b) s = (opd s.env c).bind fun v => guardV v true (evCode T base a s) (evCode T base b s) := by
  rw [evCode_cond]
  cases opd s.env c with
  | none => rfl
  | some v =>
    cases v <;> try rfl
    rename_i c
    cases c <;> rfl

/-- q: nothing that was there may be changed. -/
def steps (T : Tab) (b : Nat) (q : Bool) : List AOper → St → Option St
  | [], s => some s
  | o :: r, s => match guardOf s.env o.guard with
    | some true => (evOper T o.op s.env s.h).bind fun x => if (q && !x.2.2.2.isEmpty) = true then none else steps T b q r ⟨s.env.put o.dst x.1, x.2.1, inMerge b s.log x.2.2.2⟩
    | some false => steps T b q r ⟨s.env.put o.dst undef, s.h, s.log⟩
    | none => none
section
variable {T : Tab} {b : Nat} {q : Bool}
theorem evOps_steps : ∀ (ops : List AOper) (s : St) (recs : List Rec), (evOps T b ops s recs).map (·.1) = steps T b false ops s
  | [], s, recs => by rw [evOps_nil]; rfl
  | o :: r, s, recs => by
    rw [evOps_cons]
    unfold steps
    cases hg : guardOf s.env o.guard with
    | none => rfl
    | some g =>
      cases g with
      | false => exact evOps_steps r _ _
      | true =>
        cases hx : evOper T o.op s.env s.h with
        | none => simp [hx]
        | some x =>
          simp only [hx, Option.bind_some, Bool.false_and, Bool.false_eq_true, if_false]
          exact evOps_steps r _ _
theorem evOps_quiet : ∀ (ops : List AOper) (s : St) (recs : List Rec) (s' : St), steps T b true ops s = some s' → (∀ r ∈ recs, r.2 = []) → ∃ recs', evOps T b ops s recs = some (s', recs') ∧ (∀ r ∈ recs', r.2 = []) ∧ recs'.length = recs.length + ops.length
  | [], s, recs, s', h, hr => by
    simp only [steps, Option.some.injEq] at h
    subst h
    exact ⟨recs, evOps_nil, hr, rfl⟩
  | o :: r, s, recs, s', h, hr => by
    rw [evOps_cons]
    unfold steps at h
    cases hg : guardOf s.env o.guard with
    | none => simp only [hg] at h; cases h
    | some g =>
      simp only [hg] at h
      cases g with
      | false =>
        obtain ⟨recs', h1, h2, h3⟩ := evOps_quiet r _ (recs ++ [(some [], [])]) s' h (fun x hx => by
          rcases List.mem_append.1 hx with h | h
          · exact hr x h
          · simp at h; subst h; rfl)
        exact ⟨recs', h1, h2, by rw [h3]; simp; omega⟩
      | true =>
        cases hx : evOper T o.op s.env s.h with
        | none => simp [hx] at h
        | some x =>
          simp only [hx, Option.bind_some] at h
          split at h
          · cases h
          · rename_i hq
            have hq' : x.2.2.2 = [] := by simpa using hq
            obtain ⟨recs', h1, h2, h3⟩ := evOps_quiet r _ (recs ++ [(x.2.2.1, x.2.2.2)]) s' h (fun y hy => by
              rcases List.mem_append.1 hy with h | h
              · exact hr y h
              · simp at h; subst h; exact hq')
            exact ⟨recs', h1, h2, by rw [h3]; simp; omega⟩
theorem fs_region {ops : List AOper} {keep : Option (List Nat)} {s : St} : evCode T b (.region ops keep []) s = (steps T b false ops s).bind fun s' => some (.normal, s'.after keep) := by
  rw [evCode_region, ← evOps_steps ops s []]
  cases evOps T b ops s [] <;> rfl
def qElse {α : Type} (x y : Option α) : Option α := match x with
  | some v => some v
  | none => y
theorem qElse_some {α : Type} {v : α} {y : Option α} : qElse (some v) y = some v := rfl
theorem qElse_congr {α : Type} {x x' : Option α} (y : Option α) (h : ∀ _ : Unit, x = x') : qElse x y = qElse x' y := by rw [h ()]
def quiet (T : Tab) (b : Nat) (ops : List AOper) (pairs : List (Nat × Nat)) (s : St) : Option St :=
  match (pairs.all fun p => decide (p.1 < ops.length) && decide (p.2 < ops.length)) with
  | true => steps T b true ops s
  | false => none
theorem pairsOk_quiet {recs : List Rec} (hr : ∀ r ∈ recs, r.2 = []) : ∀ {pairs : List (Nat × Nat)}, (pairs.all fun p => decide (p.1 < recs.length) && decide (p.2 < recs.length)) = true → pairsOk recs pairs = true
  | [], _ => rfl
  | (i, j) :: ps, h => by
    simp only [List.all_cons, Bool.and_eq_true, decide_eq_true_eq] at h
    have ih := pairsOk_quiet hr (pairs := ps) h.2
    simp only [pairsOk, List.all_cons, Bool.and_eq_true] at ih ⊢
    refine ⟨?_, ih⟩
    rw [List.getElem?_eq_getElem h.1.1, List.getElem?_eq_getElem h.1.2]
    simp only [apartOf, hr _ (List.getElem_mem h.1.1), hr _ (List.getElem_mem h.1.2), List.isEmpty_nil, Bool.true_or, Bool.and_self]
def inText (T : Tab) (b : Nat) (c : ACode) (s : St) : Option (AExit × St) := evCode T b c s
/-- Where an order is open: if nothing that was there is changed, it is as in the order of the text. -/
theorem fs_regionP {ops : List AOper} {keep : Option (List Nat)} {p : Nat × Nat} {ps : List (Nat × Nat)} {s : St} : evCode T b (.region ops keep (p :: ps)) s = qElse ((quiet T b ops (p :: ps) s).bind fun s' => some (.normal, s'.after keep)) (inText T b (.region ops keep (p :: ps)) s) := by
  cases hq : quiet T b ops (p :: ps) s with
  | none => rfl
  | some s' =>
    simp only [Option.bind_some, qElse]
    unfold quiet at hq
    split at hq
    · rename_i hp
      obtain ⟨recs, h1, h2, h3⟩ := evOps_quiet ops s [] s' hq (by simp)
      simp only [List.length_nil, Nat.zero_add] at h3
      rw [evCode_region, h1]
      simp only [Option.bind_some]
      rw [if_pos (pairsOk_quiet h2 (by rw [h3]; exact hp))]
    · cases hq
theorem fs_nil {s : St} : steps T b q [] s = some s := rfl
theorem fs_guard {o : AOp} {d : Option Nat} {t : Nat} {w : Bool} {r : List AOper} {e : Env} {H : List Ob} {l : List Nat} : steps T b q (⟨d, o, some (t, w)⟩ :: r) ⟨e, H, l⟩ = (e.get t).bind fun v => guardV v w (steps T b q (⟨d, o, none⟩ :: r) ⟨e, H, l⟩) (steps T b q r ⟨e.put d undef, H, l⟩) := by
  simp only [steps, guardOf]
  cases e.get t with
  | none => rfl
  | some v =>
    cases v <;> try rfl
    rename_i c
    cases c <;> cases w <;> rfl

/-- A value, and the rest. -/
theorem fs_pure {o : AOp} {d : Nat} {r : List AOper} {e : Env} {H : List Ob} {l : List Nat} {v : Option Value} (h : evOper T o e H = pureV H v) : steps T b q (⟨some d, o, none⟩ :: r) ⟨e, H, l⟩ = v.bind fun v => steps T b q r ⟨(d, v) :: e, H, l⟩ := by
  simp only [steps, guardOf, h, pureV]
  cases v <;> cases q <;> rfl

theorem fs_blockS {base id : Nat} {x y : ACode} {s : St} : evCode T base (.block id (.seq x y)) s = (evCode T base (.seq x y) s).bind fun r => match r.1 with
    | .exit i => if i = id then some (.normal, r.2) else some (.exit i, r.2)
    | z => some (z, r.2) := evCode_block
theorem fs_blockR {base id : Nat} {ops : List AOper} {keep : Option (List Nat)} {pairs : List (Nat × Nat)} {s : St} : evCode T base (.block id (.region ops keep pairs)) s = (evCode T base (.region ops keep pairs) s).bind fun r => match r.1 with
    | .exit i => if i = id then some (.normal, r.2) else some (.exit i, r.2)
    | z => some (z, r.2) := evCode_block
theorem fs_blockC {base id : Nat} {c : Operand} {x y : ACode} {s : St} : evCode T base (.block id (.cond c x y)) s = (evCode T base (.cond c x y) s).bind fun r => match r.1 with
    | .exit i => if i = id then some (.normal, r.2) else some (.exit i, r.2)
    | z => some (z, r.2) := evCode_block
theorem fs_blockK {base id : Nat} {s : St} : evCode T base (.block id .skip) s = some (.normal, s) := by rw [evCode_block, evCode_skip]; rfl
theorem fs_blockB {base id id2 : Nat} {x : ACode} {s : St} : evCode T base (.block id (.block id2 x)) s = (evCode T base (.block id2 x) s).bind fun r => match r.1 with
    | .exit i => if i = id then some (.normal, r.2) else some (.exit i, r.2)
    | z => some (z, r.2) := evCode_block
def vPick : Value → Value → Value → Option Value
  | .bool t, a, b => some (if t then a else b)
  | _, _, _ => none
def vEq (ks : Option (List Bool)) (neg : Bool) (x y : Value) : Option Value :=
  (match ks, x, y with
    | some ks, .agg a, .agg b => cellsEq ks a.toList b.toList
    | none, .bool a, .bool b => some (a == b)
    | _, _, _ => none).bind fun b => some (.bool (if neg then !b else b))
def vConv (k : IntKind) : Value → Option Value
  | .int _ n => some (.int k (k.wrap n))
  | _ => none
def vStr : Value → Option Value
  | .string s => some (.string s)
  | _ => none
def vField (n : Option Nat) (off : Nat) : Value → Option Value
  | .agg cs => partL n cs.toList off
  | _ => none
def vIndex (n : Option Nat) (len es : Nat) : Value → Value → Option Value
  | .agg cs, .int _ i => if 0 ≤ i ∧ i < len then partL n cs.toList (i.toNat * es) else none
  | _, _ => none
def vIndexStr : Value → Value → Option Value
  | .string s, .int _ i => if 0 ≤ i then (s.data.toList[i.toNat]?).bind fun b => some (.int .u8 b.toNat) else none
  | _, _ => none
def vFieldAddr (off : Nat) : Value → Option Value
  | .pointer (some a) => some (.pointer (some (a.add off)))
  | _ => none
def vIndexAddr (len es : Nat) : Value → Value → Option Value
  | .pointer (some a), .int _ i => if 0 ≤ i ∧ i < len then some (.pointer (some (a.add (i.toNat * es)))) else none
  | _, _ => none
def vIndexSl (es : Nat) : Value → Value → Option Value
  | .slice (some a) len _, .int _ i => if 0 ≤ i ∧ i < len then some (.pointer (some (a.add (i.toNat * es)))) else none
  | _, _ => none
def vSliceArr (n es : Nat) (lo hi mx : Option Value) : Value → Option Value
  | .pointer (some a) => (bounds3 n n lo hi mx).bind fun r => some (.slice (some (a.add (r.1 * es))) (r.2.1 - r.1) (r.2.2 - r.1))
  | _ => none
def vSliceSl (H : List Ob) (es : Nat) (lo hi mx : Option Value) : Value → Option Value
  | .slice (some a) len cap => (bounds3 len cap lo hi mx).bind fun r => (liveAt H a.block).bind fun o =>
        if o.exact ∨ ¬ o.own ∨ es ≤ o.es then some (.slice (some (a.add (r.1 * es))) (r.2.1 - r.1) (r.2.2 - r.1)) else none
  | .slice none 0 0 => (bounds3 0 0 lo hi mx).bind fun _ => some (.slice none 0 0)
  | _ => none
def vSliceStr (lo hi : Option Value) : Value → Option Value
  | .string s => (bounds3 s.size s.size lo hi none).bind fun r => some (.string (s.extract r.1 r.2.1))
  | _ => none
def vExtract (i : Nat) : Value → Option Value
  | .tuple vs => vs.toList[i]?
  | _ => none
def vNilCheck : Value → Option Value
  | .pointer (some a) => some (.pointer (some a))
  | _ => none
def vS2ap (n : Nat) : Value → Option Value
  | .slice (some a) len _ => if n ≤ len ∧ 0 < n then some (.pointer (some a)) else none
  | _ => none
def vLen (str : Bool) : Value → Option Value
  | .slice _ n _ => if str then none else some (.int .i64 n)
  | .string s => if str then some (.int .i64 s.size) else none
  | _ => none
def vMinmax (mx : Bool) : Value → Value → Option Value
  | .int k a, .int k' b => if k = k' then some (.int k (if mx then (if b > a then b else a) else (if b < a then b else a))) else none
  | _, _ => none
def vLoad (H : List Ob) (n : Option Nat) : Value → Option Value
  | .pointer (some a) => (liveAt H a.block).bind fun o => if a.spot.isNone then partL n o.cells a.off else none
  | _ => none
def vB2s (H : List Ob) (x : Value) : Option Value := match x with
  | .slice _ n _ => (elemsOf H 1 n x).bind fun cs => (bytesOfCells cs).bind fun l => some (.string ⟨l.toArray⟩)
  | _ => none

theorem fs_move {x : Operand} {d : Nat} {r : List AOper} {e : Env} {H : List Ob} {l : List Nat} : steps T b q (⟨some d, .move x, none⟩ :: r) ⟨e, H, l⟩ = (opd e x).bind fun v => steps T b q r ⟨(d, v) :: e, H, l⟩ := fs_pure evOper_move
theorem fs_pick {c x y : Operand} {d : Nat} {r : List AOper} {e : Env} {H : List Ob} {l : List Nat} : steps T b q (⟨some d, .pick c x y, none⟩ :: r) ⟨e, H, l⟩ = (opd e c).bind fun c => (opd e x).bind fun x => (opd e y).bind fun y => (vPick c x y).bind fun v => steps T b q r ⟨(d, v) :: e, H, l⟩ := by
  rw [fs_pure evOper_pick]
  cases opd e c with
  | none => rfl
  | some c =>
    cases opd e x with
    | none => rfl
    | some x =>
      cases opd e y with
      | none => rfl
      | some y => cases c <;> cases q <;> rfl
theorem fs_alloc {zero : List Value} {d : Nat} {r : List AOper} {e : Env} {H : List Ob} {l : List Nat} : steps T b q (⟨some d, .alloc zero, none⟩ :: r) ⟨e, H, l⟩ = steps T b q r ⟨(d, .pointer (some ⟨H.length, 0, none⟩)) :: e, H ++ [⟨zero, true, true, true, 1⟩], l⟩ := by
  simp only [steps, guardOf, evOper_alloc, simpleOp, Option.bind_some, Env.put, inMerge, Ob.fresh]
  cases q <;> rfl
theorem fs_box {x : Operand} {d : Nat} {r : List AOper} {e : Env} {H : List Ob} {l : List Nat} : steps T b q (⟨some d, .box x, none⟩ :: r) ⟨e, H, l⟩ = (opd e x).bind fun v => gate (okVar v = true) (steps T b q r ⟨(d, .pointer (some ⟨H.length, 0, none⟩)) :: e, H ++ [⟨v.cells.toList, true, true, true, 1⟩], l⟩) := by
  simp only [steps, guardOf, evOper_box, simpleOp, Env.put, inMerge, Ob.fresh]
  cases opd e x with
  | none => rfl
  | some v => simp only [Option.bind_some, gate]; split <;> cases q <;> rfl
theorem fs_load {n : Option Nat} {x : Operand} {d : Nat} {r : List AOper} {e : Env} {H : List Ob} {l : List Nat} : steps T b q (⟨some d, .load n x, none⟩ :: r) ⟨e, H, l⟩ = (opd e x).bind fun a => (vLoad H n a).bind fun v => steps T b q r ⟨(d, v) :: e, H, l⟩ := by
  simp only [steps, guardOf, evOper_load, simpleOp, Env.put]
  cases opd e x with
  | none => rfl
  | some v =>
    cases v <;> try rfl
    rename_i p
    cases p with
    | none => rfl
    | some a =>
      simp only [Option.bind_some, vLoad]
      cases liveAt H a.block with
      | none => rfl
      | some o =>
        simp only [Option.bind_some]
        split
        · cases partL n o.cells a.off <;> cases q <;> rfl
        · rfl
def vStore (H : List Ob) (n : Nat) : Value → Value → Option (List Ob)
  | .pointer (some a), v => if v.cells.size = n ∧ okVar v = true then storeAt H a v.cells.toList else none
  | _, _ => none
def baseP : Value → List Nat
  | .pointer (some a) => [a.block]
  | _ => []
theorem fs_store {n : Nat} {a x : Operand} {r : List AOper} {e : Env} {H : List Ob} {l : List Nat} : steps T b q (⟨none, .store n a x, none⟩ :: r) ⟨e, H, l⟩ = (opd e a).bind fun a => (opd e x).bind fun v => (vStore H n a v).bind fun H' => gate (q = false) (steps T b q r ⟨e, H', inMerge b l (baseP a)⟩) := by
  simp only [steps, guardOf, evOper_store, simpleOp, Env.put]
  cases opd e a with
  | none => rfl
  | some av =>
    cases opd e x with
    | none => rfl
    | some v =>
      cases av <;> try rfl
      rename_i p
      cases p with
      | none => rfl
      | some a =>
        simp only [Option.bind_some, vStore, baseP]
        split
        · cases storeAt H a v.cells.toList <;> cases q <;> rfl
        · rfl
theorem fs_bin {op : BinOp} {x y : Operand} {d : Nat} {r : List AOper} {e : Env} {H : List Ob} {l : List Nat} : steps T b q (⟨some d, .bin op x y, none⟩ :: r) ⟨e, H, l⟩ = (opd e x).bind fun x => (opd e y).bind fun y => (binV op x y).bind fun v => steps T b q r ⟨(d, v) :: e, H, l⟩ := by
  rw [fs_pure evOper_bin]
  cases opd e x <;> cases opd e y <;> cases q <;> rfl
theorem fs_eqv {ks : Option (List Bool)} {neg : Bool} {x y : Operand} {d : Nat} {r : List AOper} {e : Env} {H : List Ob} {l : List Nat} : steps T b q (⟨some d, .eqv ks neg x y, none⟩ :: r) ⟨e, H, l⟩ = (opd e x).bind fun x => (opd e y).bind fun y => (vEq ks neg x y).bind fun v => steps T b q r ⟨(d, v) :: e, H, l⟩ := by
  rw [fs_pure evOper_eqv]
  cases opd e x <;> cases opd e y <;> cases q <;> rfl
theorem fs_isNil {k : Nat} {neg : Bool} {x : Operand} {d : Nat} {r : List AOper} {e : Env} {H : List Ob} {l : List Nat} : steps T b q (⟨some d, .isNil k neg x, none⟩ :: r) ⟨e, H, l⟩ = (opd e x).bind fun x => (isNilV k x).bind fun c => steps T b q r ⟨(d, .bool (if neg then !c else c)) :: e, H, l⟩ := by
  rw [fs_pure evOper_isNil]
  cases opd e x with
  | none => rfl
  | some v => simp only [Option.bind_some]; cases isNilV k v <;> cases q <;> rfl
theorem fs_un {op : UnOp} {x : Operand} {d : Nat} {r : List AOper} {e : Env} {H : List Ob} {l : List Nat} : steps T b q (⟨some d, .un op x, none⟩ :: r) ⟨e, H, l⟩ = (opd e x).bind fun x => (unV op x).bind fun v => steps T b q r ⟨(d, v) :: e, H, l⟩ := by
  rw [fs_pure evOper_un]
  cases opd e x <;> cases q <;> rfl
theorem fs_conv {k : IntKind} {x : Operand} {d : Nat} {r : List AOper} {e : Env} {H : List Ob} {l : List Nat} : steps T b q (⟨some d, .conv k x, none⟩ :: r) ⟨e, H, l⟩ = (opd e x).bind fun x => (vConv k x).bind fun v => steps T b q r ⟨(d, v) :: e, H, l⟩ := by
  rw [fs_pure evOper_conv]
  cases opd e x <;> cases q <;> rfl
theorem fs_convStr {x : Operand} {d : Nat} {r : List AOper} {e : Env} {H : List Ob} {l : List Nat} : steps T b q (⟨some d, .convStr x, none⟩ :: r) ⟨e, H, l⟩ = (opd e x).bind fun x => (vStr x).bind fun v => steps T b q r ⟨(d, v) :: e, H, l⟩ := by
  rw [fs_pure evOper_convStr]
  cases opd e x <;> cases q <;> rfl
theorem fs_field {n : Option Nat} {off : Nat} {x : Operand} {d : Nat} {r : List AOper} {e : Env} {H : List Ob} {l : List Nat} : steps T b q (⟨some d, .field n off x, none⟩ :: r) ⟨e, H, l⟩ = (opd e x).bind fun x => (vField n off x).bind fun v => steps T b q r ⟨(d, v) :: e, H, l⟩ := by
  rw [fs_pure evOper_field]
  cases opd e x <;> cases q <;> rfl
theorem fs_index {n : Option Nat} {len es : Nat} {x i : Operand} {d : Nat} {r : List AOper} {e : Env} {H : List Ob} {l : List Nat} : steps T b q (⟨some d, .index n len es x i, none⟩ :: r) ⟨e, H, l⟩ = (opd e x).bind fun x => (opd e i).bind fun i => (vIndex n len es x i).bind fun v => steps T b q r ⟨(d, v) :: e, H, l⟩ := by
  rw [fs_pure evOper_index]
  cases opd e x <;> cases opd e i <;> cases q <;> rfl
theorem fs_indexStr {x i : Operand} {d : Nat} {r : List AOper} {e : Env} {H : List Ob} {l : List Nat} : steps T b q (⟨some d, .indexStr x i, none⟩ :: r) ⟨e, H, l⟩ = (opd e x).bind fun x => (opd e i).bind fun i => (vIndexStr x i).bind fun v => steps T b q r ⟨(d, v) :: e, H, l⟩ := by
  rw [fs_pure evOper_indexStr]
  cases opd e x <;> cases opd e i <;> cases q <;> rfl
theorem fs_build {zero : List Value} {ps : List (Nat × Nat × Operand)} {d : Nat} {r : List AOper} {e : Env} {H : List Ob} {l : List Nat} : steps T b q (⟨some d, .build zero ps, none⟩ :: r) ⟨e, H, l⟩ = (opdParts e ps).bind fun ps => (fillL zero ps).bind fun cs => steps T b q r ⟨(d, .agg cs.toArray) :: e, H, l⟩ := by
  rw [fs_pure evOper_build]
  cases opdParts e ps with
  | none => rfl
  | some v => simp only [Option.bind_some]; cases fillL zero v <;> cases q <;> rfl
theorem fs_buildSlice {cells : List Value} {len : Nat} {ps : List (Nat × Nat × Operand)} {d : Nat} {r : List AOper} {e : Env} {H : List Ob} {l : List Nat} : steps T b q (⟨some d, .buildSlice cells len ps, none⟩ :: r) ⟨e, H, l⟩ = (opdParts e ps).bind fun ps => (fillL cells ps).bind fun cs => steps T b q r ⟨(d, .slice (some ⟨H.length, 0, none⟩) len len) :: e, H ++ [⟨cs, true, true, true, 1⟩], l⟩ := by
  simp only [steps, guardOf, evOper_buildSlice, simpleOp, Env.put, Ob.fresh]
  cases opdParts e ps with
  | none => rfl
  | some v => simp only [Option.bind_some]; cases fillL cells v <;> cases q <;> rfl
theorem fs_fieldAddr {off : Nat} {x : Operand} {d : Nat} {r : List AOper} {e : Env} {H : List Ob} {l : List Nat} : steps T b q (⟨some d, .fieldAddr off x, none⟩ :: r) ⟨e, H, l⟩ = (opd e x).bind fun x => (vFieldAddr off x).bind fun v => steps T b q r ⟨(d, v) :: e, H, l⟩ := by
  rw [fs_pure evOper_fieldAddr]
  cases opd e x <;> cases q <;> rfl
theorem fs_indexAddr {len es : Nat} {x i : Operand} {d : Nat} {r : List AOper} {e : Env} {H : List Ob} {l : List Nat} : steps T b q (⟨some d, .indexAddr len es x i, none⟩ :: r) ⟨e, H, l⟩ = (opd e x).bind fun x => (opd e i).bind fun i => (vIndexAddr len es x i).bind fun v => steps T b q r ⟨(d, v) :: e, H, l⟩ := by
  rw [fs_pure evOper_indexAddr]
  cases opd e x <;> cases opd e i <;> cases q <;> rfl
theorem fs_indexSl {es : Nat} {x i : Operand} {d : Nat} {r : List AOper} {e : Env} {H : List Ob} {l : List Nat} : steps T b q (⟨some d, .indexSl es x i, none⟩ :: r) ⟨e, H, l⟩ = (opd e x).bind fun x => (opd e i).bind fun i => (vIndexSl es x i).bind fun v => steps T b q r ⟨(d, v) :: e, H, l⟩ := by
  rw [fs_pure evOper_indexSl]
  cases opd e x <;> cases opd e i <;> cases q <;> rfl
theorem fs_sliceArr {n es : Nat} {x : Operand} {lo hi mx : Option Operand} {d : Nat} {r : List AOper} {e : Env} {H : List Ob} {l : List Nat} : steps T b q (⟨some d, .sliceArr n es x lo hi mx, none⟩ :: r) ⟨e, H, l⟩ = (opd e x).bind fun x => (opdOpt e lo).bind fun lo => (opdOpt e hi).bind fun hi => (opdOpt e mx).bind fun mx => (vSliceArr n es lo hi mx x).bind fun v => steps T b q r ⟨(d, v) :: e, H, l⟩ := by
  rw [fs_pure evOper_sliceArr]
  cases opd e x <;> cases opdOpt e lo <;> cases opdOpt e hi <;> cases opdOpt e mx <;> cases q <;> rfl
theorem fs_sliceSl {es : Nat} {x : Operand} {lo hi mx : Option Operand} {d : Nat} {r : List AOper} {e : Env} {H : List Ob} {l : List Nat} : steps T b q (⟨some d, .sliceSl es x lo hi mx, none⟩ :: r) ⟨e, H, l⟩ = (opd e x).bind fun x => (opdOpt e lo).bind fun lo => (opdOpt e hi).bind fun hi => (opdOpt e mx).bind fun mx => (vSliceSl H es lo hi mx x).bind fun v => steps T b q r ⟨(d, v) :: e, H, l⟩ := by
  simp only [steps, guardOf, evOper_sliceSl, simpleOp, Env.put]
  cases opd e x with
  | none => rfl
  | some v =>
    cases opdOpt e lo with
    | none => rfl
    | some lo =>
      cases opdOpt e hi with
      | none => rfl
      | some hi =>
        cases opdOpt e mx with
        | none => rfl
        | some mx =>
          simp only [Option.bind_some]
          cases v <;> try rfl
          rename_i base len cap
          cases base with
          | some a =>
            simp only [vSliceSl]
            cases bounds3 len cap lo hi mx with
            | none => rfl
            | some r =>
              simp only [Option.bind_some]
              cases liveAt H a.block with
              | none => rfl
              | some o => simp only [Option.bind_some]; split <;> cases q <;> rfl
          | none =>
            cases len <;> cases cap <;> try rfl
            simp only [vSliceSl]
            cases bounds3 0 0 lo hi mx <;> cases q <;> rfl
theorem fs_sliceStr {x : Operand} {lo hi : Option Operand} {d : Nat} {r : List AOper} {e : Env} {H : List Ob} {l : List Nat} : steps T b q (⟨some d, .sliceStr x lo hi, none⟩ :: r) ⟨e, H, l⟩ = (opd e x).bind fun x => (opdOpt e lo).bind fun lo => (opdOpt e hi).bind fun hi => (vSliceStr lo hi x).bind fun v => steps T b q r ⟨(d, v) :: e, H, l⟩ := by
  rw [fs_pure evOper_sliceStr]
  cases opd e x <;> cases opdOpt e lo <;> cases opdOpt e hi <;> cases q <;> rfl
def vMake (zero : List Value) (bytes : Nat) (id : Nat) : Value → Value → Option (Value × Ob)
  | .int _ l, .int _ c => if 0 ≤ l ∧ l ≤ c ∧ c * bytes ≤ 2 ^ 47 ∧ 0 < bytes ∧ 0 < zero.length then some (.slice (some ⟨id, 0, none⟩) l.toNat c.toNat, ⟨(List.replicate c.toNat zero).flatten, true, true, true, 1⟩) else none
  | _, _ => none
theorem fs_makeSlice {zero : List Value} {bytes : Nat} {x y : Operand} {d : Nat} {r : List AOper} {e : Env} {H : List Ob} {l : List Nat} : steps T b q (⟨some d, .makeSlice zero bytes x y, none⟩ :: r) ⟨e, H, l⟩ = (opd e x).bind fun x => (opd e y).bind fun y => (vMake zero bytes H.length x y).bind fun v => steps T b q r ⟨(d, v.1) :: e, H ++ [v.2], l⟩ := by
  simp only [steps, guardOf, evOper_makeSlice, simpleOp, Env.put]
  cases opd e x with
  | none => rfl
  | some v =>
    cases opd e y with
    | none => rfl
    | some w =>
      simp only [Option.bind_some]
      unfold vMake
      cases v <;> try rfl
      cases w <;> try rfl
      dsimp only
      split <;> cases q <;> rfl
theorem fs_extract {x : Operand} {i d : Nat} {r : List AOper} {e : Env} {H : List Ob} {l : List Nat} : steps T b q (⟨some d, .extract x i, none⟩ :: r) ⟨e, H, l⟩ = (opd e x).bind fun x => (vExtract i x).bind fun v => steps T b q r ⟨(d, v) :: e, H, l⟩ := by
  rw [fs_pure evOper_extract]
  cases opd e x <;> cases q <;> rfl
theorem fs_mkIface {t : TypeId} {x : Operand} {d : Nat} {r : List AOper} {e : Env} {H : List Ob} {l : List Nat} : steps T b q (⟨some d, .mkIface t x, none⟩ :: r) ⟨e, H, l⟩ = (opd e x).bind fun x => steps T b q r ⟨(d, .iface t x) :: e, H, l⟩ := by
  rw [fs_pure evOper_mkIface]
  cases opd e x <;> cases q <;> rfl
theorem fs_mkFunc {fn : Fn} {fs cs : List Operand} {d : Nat} {r : List AOper} {e : Env} {H : List Ob} {l : List Nat} : steps T b q (⟨some d, .mkFunc fn fs cs, none⟩ :: r) ⟨e, H, l⟩ = (opds e fs).bind fun fs => (opds e cs).bind fun cs => steps T b q r ⟨(d, .func fn fs.toArray cs.toArray) :: e, H, l⟩ := by
  rw [fs_pure evOper_mkFunc]
  cases opds e fs <;> cases opds e cs <;> cases q <;> rfl
theorem fs_nilCheck {x : Operand} {d : Nat} {r : List AOper} {e : Env} {H : List Ob} {l : List Nat} : steps T b q (⟨some d, .nilCheck x, none⟩ :: r) ⟨e, H, l⟩ = (opd e x).bind fun x => (vNilCheck x).bind fun v => steps T b q r ⟨(d, v) :: e, H, l⟩ := by
  rw [fs_pure evOper_nilCheck]
  cases opd e x <;> cases q <;> rfl
theorem fs_s2ap {n : Nat} {x : Operand} {d : Nat} {r : List AOper} {e : Env} {H : List Ob} {l : List Nat} : steps T b q (⟨some d, .s2ap n x, none⟩ :: r) ⟨e, H, l⟩ = (opd e x).bind fun x => (vS2ap n x).bind fun v => steps T b q r ⟨(d, v) :: e, H, l⟩ := by
  rw [fs_pure evOper_s2ap]
  cases opd e x <;> cases q <;> rfl
theorem fs_len {str : Bool} {x : Operand} {d : Nat} {r : List AOper} {e : Env} {H : List Ob} {l : List Nat} : steps T b q (⟨some d, .len str x, none⟩ :: r) ⟨e, H, l⟩ = (opd e x).bind fun x => (vLen str x).bind fun v => steps T b q r ⟨(d, v) :: e, H, l⟩ := by
  rw [fs_pure evOper_len]
  cases opd e x <;> cases q <;> rfl
theorem fs_minmax {mx : Bool} {x y : Operand} {d : Nat} {r : List AOper} {e : Env} {H : List Ob} {l : List Nat} : steps T b q (⟨some d, .minmax mx x y, none⟩ :: r) ⟨e, H, l⟩ = (opd e x).bind fun x => (opd e y).bind fun y => (vMinmax mx x y).bind fun v => steps T b q r ⟨(d, v) :: e, H, l⟩ := by
  rw [fs_pure evOper_minmax]
  cases opd e x <;> cases opd e y <;> cases q <;> rfl
def vS2b (id : Nat) : Value → Option (Value × Ob)
  | .string s => if s.size ≤ 2 ^ 47 then some (.slice (some ⟨id, 0, none⟩) s.size s.size, ⟨s.data.toList.map fun b => .int .u8 b.toNat, true, true, false, 1⟩) else none
  | _ => none
theorem fs_s2b {x : Operand} {d : Nat} {r : List AOper} {e : Env} {H : List Ob} {l : List Nat} : steps T b q (⟨some d, .s2b x, none⟩ :: r) ⟨e, H, l⟩ = (opd e x).bind fun x => (vS2b H.length x).bind fun v => steps T b q r ⟨(d, v.1) :: e, H ++ [v.2], l⟩ := by
  simp only [steps, guardOf, evOper_s2b, simpleOp, Env.put, Ob.grown]
  cases opd e x with
  | none => rfl
  | some v =>
    cases v <;> try rfl
    simp only [Option.bind_some, vS2b]
    split <;> cases q <;> rfl
theorem fs_b2s {x : Operand} {d : Nat} {r : List AOper} {e : Env} {H : List Ob} {l : List Nat} : steps T b q (⟨some d, .b2s x, none⟩ :: r) ⟨e, H, l⟩ = (opd e x).bind fun x => (vB2s H x).bind fun v => steps T b q r ⟨(d, v) :: e, H, l⟩ := by
  simp only [steps, guardOf, evOper_b2s, simpleOp, Env.put]
  cases opd e x with
  | none => rfl
  | some v =>
    cases v <;> try rfl
    rename_i base n cap
    simp only [Option.bind_some, vB2s]
    cases elemsOf H 1 n (.slice base n cap) with
    | none => rfl
    | some cs =>
      simp only [Option.bind_some]
      cases bytesOfCells cs <;> cases q <;> rfl
theorem fs_append {es bytes : Nat} {x y : Operand} {d : Nat} {r : List AOper} {e : Env} {H : List Ob} {l : List Nat} : steps T b q (⟨some d, .append es bytes x y, none⟩ :: r) ⟨e, H, l⟩ = (opd e x).bind fun x => (opd e y).bind fun y => (appendV es bytes H x y).bind fun v => gate ((q && !v.2.2.2.isEmpty) = false) (steps T b q r ⟨(d, v.1) :: e, v.2.1, inMerge b l v.2.2.2⟩) := by
  simp only [steps, guardOf, gate_neg, evOper_append, simpleOp, Env.put]
  cases opd e x <;> cases opd e y <;> cases q <;> rfl
def vCopy (H : List Ob) (es : Nat) (d s : Value) : Option (Value × List Ob × List Nat) := match d with
  | .slice base dl _ => (lenV s).bind fun sl => (elemsOf H es (min sl dl) s).bind fun cs => match base with
      | some a => (storeAt H a cs).bind fun H' => some (.int .i64 (min sl dl : Nat), H', [a.block])
      | none => if dl = 0 then some (.int .i64 0, H, []) else none
  | _ => none
theorem fs_copy {es : Nat} {x y : Operand} {d : Option Nat} {r : List AOper} {e : Env} {H : List Ob} {l : List Nat} : steps T b q (⟨d, .copy es x y, none⟩ :: r) ⟨e, H, l⟩ = (opd e x).bind fun x => (opd e y).bind fun y => (vCopy H es x y).bind fun v => gate ((q && !v.2.2.isEmpty) = false) (steps T b q r ⟨e.put d v.1, v.2.1, inMerge b l v.2.2⟩) := by
  simp only [steps, guardOf, gate_neg, evOper_copy, simpleOp]
  cases opd e x with
  | none => rfl
  | some v =>
    cases opd e y with
    | none => rfl
    | some s =>
      simp only [Option.bind_some]
      cases v <;> try rfl
      rename_i base dl cap
      unfold vCopy
      dsimp only
      cases lenV s with
      | none => rfl
      | some sl =>
        simp only [Option.bind_some]
        cases elemsOf H es (min sl dl) s with
        | none => rfl
        | some cs =>
          simp only [Option.bind_some]
          cases base with
          | none => dsimp only; split <;> cases q <;> rfl
          | some a => dsimp only; cases storeAt H a cs <;> cases q <;> rfl

/-- A call by value. -/
theorem fs_callV {f : Nat} {xs : List Operand} {d : Option Nat} {r : List AOper} {e : Env} {H : List Ob} {l : List Nat} : steps T b q (⟨d, .call f xs true, none⟩ :: r) ⟨e, H, l⟩ = (opds e xs).bind fun args => gate (args.all rf = true) ((evFun T f args []).bind fun v => gate (rf v.1 = true) (steps T b q r ⟨e.put d v.1, H, l⟩)) := by
  simp only [steps, guardOf, evOper_callVal]
  cases opds e xs with
  | none => rfl
  | some args =>
    simp only [Option.bind_some]
    cases args.all rf with
    | false => rfl
    | true =>
      simp only [if_true, gate_true]
      cases evFun T f args [] with
      | none => rfl
      | some v =>
        simp only [Option.bind_some]
        cases rf v.1 <;> cases q <;> rfl
theorem fs_callR {f : Nat} {xs : List Operand} {d : Option Nat} {r : List AOper} {e : Env} {H : List Ob} {l : List Nat} : steps T b q (⟨d, .call f xs false, none⟩ :: r) ⟨e, H, l⟩ = (opds e xs).bind fun args => (evFun T f args H).bind fun v => gate ((q && !v.2.2.isEmpty) = false) (steps T b q r ⟨e.put d v.1, v.2.1, inMerge b l v.2.2⟩) := by
  simp only [steps, guardOf, gate_neg, evOper_call]
  cases opds e xs with
  | none => rfl
  | some args =>
    simp only [Bool.false_eq_true, if_false, Option.bind_some]
    cases evFun T f args H <;> cases q <;> rfl
def callee : Value → List Value → Option (Nat × List Value)
  | .func (.func f) first captured, args => some (f, first.toList ++ args ++ captured.toList)
  | _, _ => none
theorem evOper_cv {f : Operand} {xs : List Operand} {e : Env} {H : List Ob} : evOper T (.callv f xs) e H = (opd e f).bind fun f => (opds e xs).bind fun args => (callee f args).bind fun c => (evFun T c.1 c.2 H).bind fun r => some (r.1, r.2.1, none, r.2.2) := by
  rw [evOper.eq_def]
  dsimp only
  cases opd e f with
  | none => rfl
  | some fv =>
    cases opds e xs with
    | none => cases fv <;> try rfl
              rename_i fn _ _
              cases fn <;> rfl
    | some args =>
      cases fv <;> try rfl
      rename_i fn _ _
      cases fn <;> rfl
theorem fs_callv {f : Operand} {xs : List Operand} {d : Option Nat} {r : List AOper} {e : Env} {H : List Ob} {l : List Nat} : steps T b q (⟨d, .callv f xs, none⟩ :: r) ⟨e, H, l⟩ = (opd e f).bind fun f => (opds e xs).bind fun args => (callee f args).bind fun c => (evFun T c.1 c.2 H).bind fun v => gate ((q && !v.2.2.isEmpty) = false) (steps T b q r ⟨e.put d v.1, v.2.1, inMerge b l v.2.2⟩) := by
  simp only [steps, guardOf, gate_neg, evOper_cv]
  cases opd e f with
  | none => rfl
  | some fv =>
    cases opds e xs with
    | none => rfl
    | some args =>
      simp only [Option.bind_some]
      cases callee fv args with
      | none => rfl
      | some c => simp only [Option.bind_some]; cases evFun T c.1 c.2 H <;> cases q <;> rfl
end
theorem hget0 {H l : List Ob} : (H ++ l)[H.length]? = l[0]? := by rw [List.getElem?_append_right (Nat.le_refl _), Nat.sub_self]
theorem hgetK {H l : List Ob} {k : Nat} : (H ++ l)[H.length + k]? = l[k]? := by rw [List.getElem?_append_right (by omega)]; congr 1; omega
theorem hset0 {H l : List Ob} {o : Ob} : (H ++ l).set H.length o = H ++ l.set 0 o := by rw [List.set_append_right _ _ (Nat.le_refl _), Nat.sub_self]
theorem hsetK {H l : List Ob} {o : Ob} {k : Nat} : (H ++ l).set (H.length + k) o = H ++ l.set k o := by rw [List.set_append_right _ _ (by omega)]; congr 2; omega
theorem splice_whole {cs v : List Value} (h : v.length = cs.length) : splice cs 0 v = v := by
  rw [splice_gen _ _ _ (by omega), List.take_zero, List.nil_append, Nat.zero_add, h, List.drop_length, List.append_nil]
theorem take_whole {cs : List Value} {n : Nat} (h : cs.length = n) : (cs.drop 0).take n = cs := by rw [List.drop_zero, List.take_of_length_le (by omega)]
theorem u8s_len' {l : List Nat} {n : Nat} (h : l.length = n) : (u8s l).length = n := by rw [u8s_len, h]
theorem cellsEq_u8 : ∀ {n : Nat} {p q : List Nat}, p.length = n → q.length = n → cellsEq (List.replicate n true) (u8s p) (u8s q) = some (p == q)
  | 0, [], [], _, _ => rfl
  | n + 1, x :: p, y :: q, hp, hq => by
    have := cellsEq_u8 (n := n) (p := p) (q := q) (by simpa using hp) (by simpa using hq)
    simp only [u8s, List.map_cons, List.replicate_succ, cellsEq, cellEq, if_true, Option.bind_some] at this ⊢
    rw [this]
    simp only [Option.bind_some, List.cons_beq_cons]
    congr 2
    by_cases h : x = y
    · subst h; simp
    · have : ¬ ((x : Int) = y) := by omega
      rw [beq_eq_false_iff_ne.2 h, beq_eq_false_iff_ne.2 this]
theorem rf_u8s (l : List Nat) : rf (.agg (u8s l).toArray) = true := by
  show (u8s l).toArray.toList.all scalarRf = true
  rw [show (u8s l).toArray.toList = u8s l from rfl]
  simp [u8s, scalarRf]
theorem rf_bool (b : Bool) : rf (.bool b) = true := rfl
theorem arr_list (l : List Value) : l.toArray.toList = l := rfl
theorem Grown.len {k : IntKind} {B : Nat} {H : List Ob} {s : Value} {bs : List Nat} (h : Grown k B H s bs) : vLen false s = some (.int .i64 bs.length) := by cases h <;> rfl
theorem Sl.len {k : IntKind} {H : List Ob} {s : Value} {bs : List Nat} (h : Sl k H s bs) : vLen false s = some (.int .i64 bs.length) := by cases h <;> rfl
/-! Equations for simp. None is by definition alone in simp's eyes: else it would look into the arms of a bind whose head it has changed. -/
section
variable {e : Env} {H : List Ob}
theorem opd_tmp {t : Nat} : opd e (.tmp t) = e.get t := Eq.trans rfl rfl
theorem opd_const {v : Value} : opd e (.const v) = some v := Eq.trans rfl rfl
theorem opd_func {f : FuncId} : opd e (.func f) = some (.func (.func f) #[] #[]) := Eq.trans rfl rfl
theorem opds_nil : opds e [] = some [] := Eq.trans rfl rfl
theorem opds_cons {x : Operand} {r : List Operand} : opds e (x :: r) = (opd e x).bind fun v => (opds e r).bind fun vs => some (v :: vs) := Eq.trans rfl rfl
theorem opdOpt_none : opdOpt e none = some none := Eq.trans rfl rfl
theorem opdOpt_some {x : Operand} : opdOpt e (some x) = (opd e x).bind fun v => some (some v) := Eq.trans rfl rfl
theorem opdParts_nil : opdParts e [] = some [] := Eq.trans rfl rfl
theorem opdParts_cons {o n : Nat} {x : Operand} {r : List (Nat × Nat × Operand)} : opdParts e ((o, n, x) :: r) = (opd e x).bind fun v => (opdParts e r).bind fun vs => some ((o, n, v) :: vs) := Eq.trans rfl rfl
theorem get_hit {t : Nat} {v : Value} {r : Env} : Env.get ((t, v) :: r) t = some v := by simp [Env.get]
theorem get_miss {t u : Nat} {v : Value} {r : Env} (h : (t = u) = False) : Env.get ((u, v) :: r) t = Env.get r t := by simp [Env.get, h]
theorem vPick_t {a b : Value} : vPick (.bool true) a b = some a := Eq.trans rfl rfl
theorem vPick_f {a b : Value} : vPick (.bool false) a b = some b := Eq.trans rfl rfl
theorem vEq_agg {ks : List Bool} {a b : Array Value} : vEq (some ks) false (.agg a) (.agg b) = (cellsEq ks a.toList b.toList).bind fun c => some (.bool c) := Eq.trans rfl rfl
theorem vEq_aggN {ks : List Bool} {a b : Array Value} : vEq (some ks) true (.agg a) (.agg b) = (cellsEq ks a.toList b.toList).bind fun c => some (.bool !c) := Eq.trans rfl rfl
theorem vEq_bool {a b : Bool} : vEq none false (.bool a) (.bool b) = some (.bool (a == b)) := Eq.trans rfl rfl
theorem vEq_boolN {a b : Bool} : vEq none true (.bool a) (.bool b) = some (.bool !(a == b)) := Eq.trans rfl rfl
theorem vConv_int {k j : IntKind} {n : Int} : vConv k (.int j n) = some (.int k (k.wrap n)) := Eq.trans rfl rfl
theorem vStr_s {s : ByteArray} : vStr (.string s) = some (.string s) := Eq.trans rfl rfl
theorem vField_agg {n : Option Nat} {off : Nat} {cs : Array Value} : vField n off (.agg cs) = partL n cs.toList off := Eq.trans rfl rfl
theorem vIndex_agg {n : Option Nat} {len es : Nat} {cs : Array Value} {k : IntKind} {i : Int} : vIndex n len es (.agg cs) (.int k i) = gate (0 ≤ i ∧ i < len) (partL n cs.toList (i.toNat * es)) := Eq.trans rfl rfl
theorem vIndexStr_s {s : ByteArray} {k : IntKind} {i : Int} : vIndexStr (.string s) (.int k i) = gate (0 ≤ i) ((s.data.toList[i.toNat]?).bind fun b => some (.int .u8 b.toNat)) := Eq.trans rfl rfl
theorem vFieldAddr_p {off b o : Nat} : vFieldAddr off (.pointer (some ⟨b, o, none⟩)) = some (.pointer (some ⟨b, o + off, none⟩)) := by rw [← addr_add]; rfl
theorem vIndexAddr_p {len es b o : Nat} {k : IntKind} {i : Int} : vIndexAddr len es (.pointer (some ⟨b, o, none⟩)) (.int k i) = gate (0 ≤ i ∧ i < len) (some (.pointer (some ⟨b, o + i.toNat * es, none⟩))) := by rw [← addr_add]; rfl
theorem vIndexSl_s {es b o len cap : Nat} {k : IntKind} {i : Int} : vIndexSl es (.slice (some ⟨b, o, none⟩) len cap) (.int k i) = gate (0 ≤ i ∧ i < len) (some (.pointer (some ⟨b, o + i.toNat * es, none⟩))) := by rw [← addr_add]; rfl
theorem vSliceArr_p {n es b o : Nat} {lo hi mx : Option Value} : vSliceArr n es lo hi mx (.pointer (some ⟨b, o, none⟩)) = (bounds3 n n lo hi mx).bind fun r => some (.slice (some ⟨b, o + r.1 * es, none⟩) (r.2.1 - r.1) (r.2.2 - r.1)) := by
  simp only [vSliceArr, addr_add]
theorem vSliceSl_s {es b o len cap : Nat} {lo hi mx : Option Value} : vSliceSl H es lo hi mx (.slice (some ⟨b, o, none⟩) len cap) = (bounds3 len cap lo hi mx).bind fun r => (liveAt H b).bind fun ob => gate (ob.exact ∨ ¬ ob.own ∨ es ≤ ob.es) (some (.slice (some ⟨b, o + r.1 * es, none⟩) (r.2.1 - r.1) (r.2.2 - r.1))) := by
  simp only [vSliceSl, addr_add, gate]
theorem vSliceSl_n {es : Nat} {lo hi mx : Option Value} : vSliceSl H es lo hi mx (.slice none 0 0) = (bounds3 0 0 lo hi mx).bind fun _ => some (.slice none 0 0) := Eq.trans rfl rfl
theorem vSliceStr_s {s : ByteArray} {lo hi : Option Value} : vSliceStr lo hi (.string s) = (bounds3 s.size s.size lo hi none).bind fun r => some (.string (s.extract r.1 r.2.1)) := Eq.trans rfl rfl
theorem vExtract_t {i : Nat} {vs : Array Value} : vExtract i (.tuple vs) = vs.toList[i]? := Eq.trans rfl rfl
theorem vNilCheck_p {a : Addr} : vNilCheck (.pointer (some a)) = some (.pointer (some a)) := Eq.trans rfl rfl
theorem vS2ap_s {n : Nat} {a : Addr} {len cap : Nat} : vS2ap n (.slice (some a) len cap) = gate (n ≤ len ∧ 0 < n) (some (.pointer (some a))) := Eq.trans rfl rfl
theorem vLen_s {a : Option Addr} {n c : Nat} : vLen false (.slice a n c) = some (.int .i64 n) := Eq.trans rfl rfl
theorem vLen_str {s : ByteArray} : vLen true (.string s) = some (.int .i64 s.size) := Eq.trans rfl rfl
theorem vMin_i {k : IntKind} {a b : Int} : vMinmax false (.int k a) (.int k b) = some (.int k (if b < a then b else a)) := by simp [vMinmax]
theorem vMax_i {k : IntKind} {a b : Int} : vMinmax true (.int k a) (.int k b) = some (.int k (if b > a then b else a)) := by simp [vMinmax]
theorem vLoad_p {n : Option Nat} {b o : Nat} : vLoad H n (.pointer (some ⟨b, o, none⟩)) = (liveAt H b).bind fun ob => partL n ob.cells o := by simp [vLoad]
theorem vStore_p {n b o : Nat} {v : Value} : vStore H n (.pointer (some ⟨b, o, none⟩)) v = gate (v.cells.size = n ∧ okVar v = true) (storeAt H ⟨b, o, none⟩ v.cells.toList) := Eq.trans rfl rfl
theorem baseP_p {b o : Nat} : baseP (.pointer (some ⟨b, o, none⟩)) = [b] := rfl
theorem vB2s_s {a : Option Addr} {n c : Nat} : vB2s H (.slice a n c) = (elemsOf H 1 n (.slice a n c)).bind fun cs => (bytesOfCells cs).bind fun l => some (.string ⟨l.toArray⟩) := Eq.trans rfl rfl
theorem vMake_i {zero : List Value} {bytes id : Nat} {k j : IntKind} {l c : Int} : vMake zero bytes id (.int k l) (.int j c) = gate (0 ≤ l ∧ l ≤ c ∧ c * bytes ≤ 2 ^ 47 ∧ 0 < bytes ∧ 0 < zero.length) (some (.slice (some ⟨id, 0, none⟩) l.toNat c.toNat, ⟨(List.replicate c.toNat zero).flatten, true, true, true, 1⟩)) := Eq.trans rfl rfl
theorem vS2b_s {id : Nat} {s : ByteArray} : vS2b id (.string s) = gate (s.size ≤ 2 ^ 47) (some (.slice (some ⟨id, 0, none⟩) s.size s.size, ⟨s.data.toList.map fun b => .int .u8 b.toNat, true, true, false, 1⟩)) := Eq.trans rfl rfl
theorem callee_f {f : FuncId} {a b : Array Value} {args : List Value} : callee (.func (.func f) a b) args = some (f, a.toList ++ args ++ b.toList) := Eq.trans rfl rfl
theorem liveAt_eq {id : Nat} : liveAt H id = (H[id]?).bind fun o => gate (o.live = true) (some o) := Eq.trans rfl rfl
theorem storeAt_eq {b o : Nat} {v : List Value} : storeAt H ⟨b, o, none⟩ v = (liveAt H b).bind fun ob => gate (ob.own = true ∧ o + v.length ≤ ob.cells.length) (some (H.set b ⟨splice ob.cells o v, ob.live, ob.own, ob.exact, ob.es⟩)) := by simp [storeAt, gate]
theorem partL_none {cs : List Value} {off : Nat} : partL none cs off = cs[off]? := Eq.trans rfl rfl
theorem partL_some {n : Nat} {cs : List Value} {off : Nat} : partL (some n) cs off = gate (off + n ≤ cs.length) (some (.agg ((cs.drop off).take n).toArray)) := Eq.trans rfl rfl
theorem natIn_none {y d : Nat} : natIn none y d = some d := Eq.trans rfl rfl
theorem natIn_int {k : IntKind} {i : Int} {y d : Nat} : natIn (some (.int k i)) y d = gate (0 ≤ i ∧ i ≤ y) (some i.toNat) := Eq.trans rfl rfl
theorem bounds3_two {len cap : Nat} {lo hi : Option Value} : bounds3 len cap lo hi none = (natIn hi cap len).bind fun h => (natIn lo h 0).bind fun l => some (l, h, cap) := by simp [bounds3, natIn]
theorem bin_add {k : IntKind} {a b : Int} : binV .add (.int k a) (.int k b) = some (.int k (k.wrap (a + b))) := by simp [binV, intBin]
theorem bin_sub {k : IntKind} {a b : Int} : binV .sub (.int k a) (.int k b) = some (.int k (k.wrap (a - b))) := by simp [binV, intBin]
theorem bin_mul {k : IntKind} {a b : Int} : binV .mul (.int k a) (.int k b) = some (.int k (k.wrap (a * b))) := by simp [binV, intBin]
theorem bin_quo {k : IntKind} {a b : Int} (h : (b = 0) = False) : binV .quo (.int k a) (.int k b) = some (.int k (k.wrap (a.tdiv b))) := by simp [binV, intBin, h]
theorem bin_rem {k : IntKind} {a b : Int} (h : (b = 0) = False) : binV .rem (.int k a) (.int k b) = some (.int k (a.tmod b)) := by simp [binV, intBin, h]
theorem bin_and {k : IntKind} {a b : Int} : binV .and (.int k a) (.int k b) = some (.int k (bitsOp .and k a b)) := by simp [binV, intBin]
theorem bin_or {k : IntKind} {a b : Int} : binV .or (.int k a) (.int k b) = some (.int k (bitsOp .or k a b)) := by simp [binV, intBin]
theorem bin_xor {k : IntKind} {a b : Int} : binV .xor (.int k a) (.int k b) = some (.int k (bitsOp .xor k a b)) := by simp [binV, intBin]
theorem bin_andNot {k : IntKind} {a b : Int} : binV .andNot (.int k a) (.int k b) = some (.int k (bitsOp .andNot k a b)) := by simp [binV, intBin]
theorem bin_eql {k : IntKind} {a b : Int} : binV .eql (.int k a) (.int k b) = some (.bool (a == b)) := by simp [binV, intBin]
theorem bin_neq {k : IntKind} {a b : Int} : binV .neq (.int k a) (.int k b) = some (.bool (a != b)) := by simp [binV, intBin]
theorem bin_lss {k : IntKind} {a b : Int} : binV .lss (.int k a) (.int k b) = some (.bool (decide (a < b))) := by simp [binV, intBin]
theorem bin_leq {k : IntKind} {a b : Int} : binV .leq (.int k a) (.int k b) = some (.bool (decide (a ≤ b))) := by simp [binV, intBin]
theorem bin_gtr {k : IntKind} {a b : Int} : binV .gtr (.int k a) (.int k b) = some (.bool (decide (b < a))) := by simp [binV, intBin]
theorem bin_geq {k : IntKind} {a b : Int} : binV .geq (.int k a) (.int k b) = some (.bool (decide (b ≤ a))) := by simp [binV, intBin]
theorem bin_shl {k j : IntKind} {a b : Int} (h : (b < 0) = False) : binV .shl (.int k a) (.int j b) = some (.int k (k.wrap (a * 2 ^ (min b.toNat k.bits)))) := by simp [binV, shiftOp, h]
theorem bin_shr {k j : IntKind} {a b : Int} (h : (b < 0) = False) : binV .shr (.int k a) (.int j b) = some (.int k (a.fdiv (2 ^ (min b.toNat k.bits)))) := by simp [binV, shiftOp, h]
theorem bin_sadd {a b : ByteArray} : binV .add (.string a) (.string b) = gate (a.size + b.size ≤ 2 ^ 47) (some (.string (a ++ b))) := Eq.trans rfl rfl
theorem bin_seql {a b : ByteArray} : binV .eql (.string a) (.string b) = some (.bool (a.toList == b.toList)) := Eq.trans rfl rfl
theorem bin_sneq {a b : ByteArray} : binV .neq (.string a) (.string b) = some (.bool !(a.toList == b.toList)) := Eq.trans rfl rfl
theorem un_not {b : Bool} : unV .not (.bool b) = some (.bool !b) := Eq.trans rfl rfl
theorem un_neg {k : IntKind} {n : Int} : unV .neg (.int k n) = some (.int k (k.wrap (0 - n))) := Eq.trans rfl rfl
theorem un_xor {k : IntKind} {n : Int} : unV .xor (.int k n) = some (.int k (bitsOp .xor k (if k.signed then -1 else k.max) n)) := Eq.trans rfl rfl
theorem after_some {l : List Nat} {k : List Nat} : St.after ⟨e, H, l⟩ (some k) = ⟨e.keep k, H, l⟩ := rfl
theorem put_some {d : Nat} {v : Value} : Env.put e (some d) v = (d, v) :: e := rfl
theorem put_none {v : Value} : Env.put e none v = e := rfl
theorem res_nil : resultOf e H [] = some [] := Eq.trans rfl rfl
theorem res_val {t : Nat} {r : List (Nat × Option (Option Nat))} : resultOf e H ((t, none) :: r) = (e.get t).bind fun v => (resultOf e H r).bind fun vs => some (v :: vs) := Eq.trans rfl rfl
theorem res_var {t : Nat} {n : Option Nat} {r : List (Nat × Option (Option Nat))} : resultOf e H ((t, some n) :: r) = (e.get t).bind fun p => (vLoad H n p).bind fun v => (resultOf e H r).bind fun vs => some (v :: vs) := Eq.trans rfl rfl
theorem packed_one {v : Value} : packed [v] = v := rfl
theorem packed_two {v w : Value} {r : List Value} : packed (v :: w :: r) = .tuple (v :: w :: r).toArray := rfl
theorem merge_nil {b : Nat} {l : List Nat} : inMerge b l [] = l := rfl
theorem merge_ge {b i : Nat} {l r : List Nat} (h : b ≤ i) : inMerge b l (i :: r) = inMerge b l r := by
  have h1 : ¬ i < b := by omega
  simp only [inMerge, h1, false_and, if_false]
theorem okV_int {k : IntKind} {n : Int} : okVar (.int k n) = true := rfl
theorem okV_bool {b : Bool} : okVar (.bool b) = true := rfl
theorem okV_str {s : ByteArray} : okVar (.string s) = true := rfl
theorem okV_agg {a : Array Value} : okVar (.agg a) = true := rfl
theorem okV_ptr {a : Option Addr} : okVar (.pointer a) = true := rfl
theorem okV_slice {a : Option Addr} {n c : Nat} : okVar (.slice a n c) = true := rfl
theorem okV_func {f : Fn} {a b : Array Value} : okVar (.func f a b) = true := rfl
theorem okV_nilFunc : okVar .nilFunc = true := rfl
theorem okV_iface {t : TypeId} {v : Value} : okVar (.iface t v) = true := rfl
theorem okV_nilIface : okVar .nilIface = true := rfl
theorem cells_bool (b : Bool) : (Value.bool b).cells.toList = [.bool b] := rfl
theorem cells_bool_size (b : Bool) : (Value.bool b).cells.size = 1 := rfl
theorem cells_ptr (a : Option Addr) : (Value.pointer a).cells.toList = [.pointer a] := rfl
theorem cells_ptr_size (a : Option Addr) : (Value.pointer a).cells.size = 1 := rfl
theorem cells_slice (a : Option Addr) (n c : Nat) : (Value.slice a n c).cells.toList = [.slice a n c] := rfl
theorem cells_slice_size (a : Option Addr) (n c : Nat) : (Value.slice a n c).cells.size = 1 := rfl
theorem cells_str (s : ByteArray) : (Value.string s).cells.toList = [.string s] := rfl
theorem cells_str_size (s : ByteArray) : (Value.string s).cells.size = 1 := rfl
theorem rf_tup2 {a b : Value} (h1 : rfIn a = true) (h2 : rfIn b = true) : rf (.tuple #[a, b]) = true := by simp [rf, h1, h2]
theorem rfIn_int {k : IntKind} {n : Int} : rfIn (.int k n) = true := rfl
theorem rfIn_bool {b : Bool} : rfIn (.bool b) = true := rfl
theorem rfIn_u8s (l : List Nat) : rfIn (.agg (u8s l).toArray) = true := rf_u8s l
theorem rf_str {s : ByteArray} : rf (.string s) = true := rfl
theorem rfIn_str {s : ByteArray} : rfIn (.string s) = true := rfl
end
end Go.Ev

/-
  Arguments: an array of bytes.
-/
set_option linter.unusedSimpArgs false
set_option linter.unusedVariables false
namespace Go.Ev
open Go.RowKit Go.WideShapes Go.ChangeShapes

/-- An array of bytes is a row of numbers below 256. -/
theorem open_bytes {P : Program} {w : World} {r : Reach} {base : Nat} {t e : TypeId} {v : Value} {n : Nat} {e' : TypeId} (ht : P.underlying t = some (.array n e')) (hc : P.cellsOf t = n) (hts : P.cellTypes P.depth t = some (List.replicate n e)) (he : P.underlying e = some (.int .u8)) (hn : 0 < n)
    (h : Value.okWide P w r base t v) : ∃ l : List Nat, v = .agg (u8s l).toArray ∧ l.length = n ∧ ∀ x ∈ l, x < 256 := by
  simp only [Value.okWide, ht] at h
  obtain ⟨cs, rfl, h1, ts, h2, -, h3⟩ := h
  rw [hc] at h1
  rw [hts] at h2
  cases h2
  have hcell : ∀ (i : Nat) (v : Value), cs[i]? = some v → ∃ x : Nat, v = Value.int .u8 (x : Nat) ∧ x < 256 := by
    intro i v hv
    obtain ⟨u, g1, g2⟩ := h3 i v hv
    have hu : u = e := by
      have := List.mem_of_getElem? g1
      exact List.eq_of_mem_replicate this
    subst hu
    simp only [Cell.okWide, Cell.ok, he] at g2
    cases v <;> try (exact g2.elim)
    · rename_i k x
      obtain ⟨rfl, g3, g4⟩ := g2
      have g3' : (0 : Int) ≤ x := g3
      have g4' : x ≤ 255 := g4
      exact ⟨x.toNat, by rw [Int.toNat_of_nonneg g3'], by omega⟩
  refine ⟨cs.toList.map fun v => match v with | .int _ n => n.toNat | _ => 0, ?_, by simp [h1], ?_⟩
  · congr 1
    apply Array.ext_getElem?
    intro i
    simp only [u8s, List.map_map, List.getElem?_toArray, List.getElem?_map, Array.getElem?_toList]
    cases hv : cs[i]? with
    | none => rfl
    | some v =>
      obtain ⟨x, rfl, hx⟩ := hcell i v hv
      simp
  · intro x hx
    simp only [List.mem_map] at hx
    obtain ⟨v, hv, rfl⟩ := hx
    obtain ⟨i, hi⟩ := List.mem_iff_getElem?.1 hv
    rw [Array.getElem?_toList] at hi
    obtain ⟨x, rfl, hx⟩ := hcell i v hi
    simpa using hx
theorem open_int {P : Program} {w : World} {r : Reach} {base : Nat} {t : TypeId} {v : Value} {k : IntKind} (ht : P.underlying t = some (.int k))
    (h : Value.okWide P w r base t v) : ∃ x : Int, v = .int k x ∧ k.min ≤ x ∧ x ≤ k.max := by
  simp only [Value.okWide, ht, Cell.okWide, Cell.ok] at h
  cases v <;> try (exact h.elim)
  obtain ⟨rfl, h1, h2⟩ := h
  exact ⟨_, rfl, h1, h2⟩
theorem open_uint {P : Program} {w : World} {r : Reach} {base : Nat} {t : TypeId} {v : Value} {k : IntKind} (ht : P.underlying t = some (.int k)) (hk : k.signed = false)
    (h : Value.okWide P w r base t v) : ∃ x : Nat, v = .int k (x : Nat) ∧ x < 2 ^ k.bits := by
  obtain ⟨x, rfl, h1, h2⟩ := open_int ht h
  have h0 : k.min = 0 := by cases k <;> first | rfl | cases hk
  have h3 : k.max = 2 ^ k.bits - 1 := by cases k <;> first | rfl | cases hk
  rw [h0] at h1
  rw [h3] at h2
  refine ⟨x.toNat, by rw [Int.toNat_of_nonneg h1], ?_⟩
  have : ((2 ^ k.bits : Nat) : Int) = 2 ^ k.bits := by simp
  omega
end Go.Ev

/-
  Arguments that are slices: what lies there stands in objects that aren't the evaluator's own.
-/
set_option linter.unusedSimpArgs false
set_option linter.unusedVariables false
namespace Go.Ev
open Go.RowKit Go.WideShapes Go.ChangeShapes
section
variable {P : Program} {T : Tab}

theorem calls_rel (hm : P.follows .mixedOrders = true) (hT : TabOk P T) {f : Nat} {args args' : List Value} {v : Value} {H H' : List Ob} {M : List Nat} (h : evFun T f args H = some (v, H', M)) (hn : T.fn f ≠ none) (hv : rf v = true) {ρ : Pl} {w : World} (hl : LRel ρ args args')
    (hrel : RelF ρ (hp H) w) (hfree : ∀ id, H.length ≤ id → ρ id = none) (hown : ∀ (i : Nat) (o : Ob), H[i]? = some o → o.own = false) :
    Calls P f args'.toArray w fun e w' => e = .returned v ∧ Below w.heap.size w w' := by
  have h1 := (sound hm hT f args H _ h).1
  have h2 := h1 ρ args' w hl hrel (fun id h _ => hfree id h) { (default : Oper) with dst := some 0 } { tmps := #[undef], defers := [] }
    (fun a w' => ∃ v', a.tmps = #[v'] ∧ v' = v ∧ Below w.heap.size w w') (fun _ _ _ => False) fun v' w' ρ' hp => ⟨v', by simp [Act.put], hp.val.of_rf hv, ⟨hp.frm.os, hp.frm.tape, hp.frm.output, hp.frm.size, fun k hk => hp.frm.blocks k hk fun id ob pl hc _ _ ho => by rw [hown id ob hc] at ho; cases ho⟩⟩
  obtain ⟨af, haf⟩ := Option.ne_none_iff_exists'.1 hn
  obtain ⟨pf, g1, g2, g3⟩ := hT.fn f af haf
  obtain ⟨code, g4, g5, g6⟩ := compFun_inv g2
  have hcf : (callFunc f args'.toArray).run P w = .ok (.enter f args'.toArray) w := by
    have g3' : ¬ (pf.name = "runtime.NumGoroutine") := by simpa using g3
    simp [callFunc, g1, g3', g4]
  rw [hcf, Oper.upon_enter] at h2
  refine h2.mono fun e w' he => ?_
  cases e with
  | returned v1 =>
    obtain ⟨v', k1, k2, k3⟩ := he
    have : v1 = v' := by simpa [Act.put] using k1
    exact ⟨by rw [this, k2], k3⟩
  | panicked c => exact he.elim
  | outgrown => obtain ⟨_, _, hx⟩ := he; exact hx.elim

/-- A slice of bytes: where it lies, and what. -/
structure Lies8 (w : World) (a : Addr) (len cap : Nat) (l : List Nat) : Prop where
  spot : a.spot = none
  at_ : ∃ cs e fr, w.heap[a.block]? = some (.cells cs e fr) ∧ (cap = 0 ∨ a.off + cap ≤ cs.size) ∧ ∀ (i x : Nat), l[i]? = some x → cs[a.off + i]? = some (.int .u8 (x : Nat))
  le : len ≤ cap
  max : cap ≤ maxLen
  len : l.length = len
  lt : ∀ x ∈ l, x < 256

theorem cells_one_get {w : World} {base : Nat} {a : Addr} {cs : List Value} (h : w.cells? base a 1 = some cs) : ∃ v, cs = [v] ∧ w.cell? a = some v := by
  obtain ⟨_, hlen1, hcell⟩ := World.cells?_some h
  obtain ⟨v, rfl⟩ : ∃ v, cs = [v] := by
    match cs, hlen1 with
    | [v], _ => exact ⟨v, rfl⟩
  refine ⟨v, rfl, ?_⟩
  have h0 := hcell 0 (by omega)
  simpa [Addr.add] using h0

theorem open_u8s {w : World} {r : Reach} {b0 : Nat} {H : Type} {enc : TypeId × Value → H} {t e : TypeId} {v : Value} {d : DataW H} {ps : List MemPlace} (ht : P.underlying t = some (.slice e)) (he : P.underlying e = some (.int .u8)) (hc : P.cellsOf e = 1)
    (hval : Value.okWide P w r b0 t v) (hd : DataW.Trod enc P w 0 (fun _ => true) true t v d ps) :
    v = .slice none 0 0 ∨ ∃ a len cap l, v = .slice (some a) len cap ∧ Lies8 w a len cap l := by
  obtain ⟨a0, len0, cap0, rfl⟩ := okWide_slice ht hval
  obtain ⟨fuel, hf⟩ := hd
  rcases DataW.trod_slice ht hf with ⟨h1, h2⟩ | ⟨a, len, cap, elems, rest, n, _, h1, h2, h3, h4, h5, h6, h7, h8, h9⟩
  · left
    simpa [Value.cells] using h1
  · right
    simp only [Value.cells, List.cons.injEq, Value.slice.injEq, and_true] at h1
    obtain ⟨rfl, rfl, rfl⟩ := h1
    simp only [Value.okWide, ht, Cell.okWide, Cell.ok] at hval
    obtain ⟨_, _, _, hsp, row, cells, hsh, _⟩ := hval
    simp only [World.shape?] at hsh
    cases hb : w.heap[a.block]? with
    | none => rw [hb] at hsh; cases hsh
    | some ob =>
      rw [hb] at hsh
      cases ob with
      | cells cs el fr =>
        have hcell : ∀ i, w.cell? (a.add i) = cs[a.off + i]? := fun i => by
          have h1 : (a.add i) = ⟨a.block, a.off + i, none⟩ := by
            obtain ⟨ab, ao, asp⟩ := a
            simp only at hsp
            subst hsp
            exact addr_add _ _ _
          rw [h1]
          simp [World.cell?, hb]
        have hel : ∀ i, i < len0 → ∃ x : Nat, cs[a.off + i]? = some (.int .u8 (x : Nat)) ∧ x < 256 := fun i hi => by
          have h10 := h7 i hi
          rw [hc, Nat.mul_one] at h10
          obtain ⟨y, hy⟩ : ∃ y, elems[i]? = some y := ⟨_, List.getElem?_eq_getElem (by omega)⟩
          rw [hy, Option.bind_eq_some_iff] at h10
          obtain ⟨c1, hc1, hof⟩ := h10
          obtain ⟨v1, rfl, hv1⟩ := cells_one_get hc1
          obtain ⟨m, hm, _, hw⟩ := DataW.trod_int he hof
          simp only [List.cons.injEq, and_true] at hm
          subst hm
          rw [hcell] at hv1
          simp only [Lit.wf, decide_eq_true_eq, Bool.and_eq_true] at hw
          have hw1 : (0 : Int) ≤ m := hw.1
          have hw2 : m ≤ 255 := hw.2
          exact ⟨m.toNat, by rw [hv1, Int.toNat_of_nonneg hw1], by omega⟩
        have hcap : cap0 = 0 ∨ a.off + cap0 ≤ cs.size := by
          rcases Nat.eq_zero_or_pos cap0 with h0 | h0
          · exact .inl h0
          · right
            rcases Nat.lt_or_ge len0 cap0 with hlt | hge
            · obtain ⟨hr1, hr2⟩ := h8 rfl
              have h10 := hr2 (cap0 - len0 - 1) (by omega)
              rw [hc, Nat.mul_one] at h10
              obtain ⟨y, hy⟩ : ∃ y, rest[cap0 - len0 - 1]? = some y := ⟨_, List.getElem?_eq_getElem (by omega)⟩
              rw [hy, Option.bind_eq_some_iff] at h10
              obtain ⟨c1, hc1, hof⟩ := h10
              obtain ⟨v1, rfl, hv1⟩ := cells_one_get hc1
              rw [hcell] at hv1
              have := (Array.getElem?_eq_some_iff.1 hv1).1
              omega
            · obtain ⟨x, hx, _⟩ := hel (cap0 - 1) (by omega)
              have := (Array.getElem?_eq_some_iff.1 hx).1
              omega
        refine ⟨a, len0, cap0, (List.range len0).map fun i => match cs[a.off + i]? with | some (.int _ m) => m.toNat | _ => 0, rfl, hsp, ⟨cs, el, fr, hb, hcap, fun i x hx => ?_⟩, h4, h5, by simp, fun x hx => ?_⟩
        · simp only [List.getElem?_map, Option.map_eq_some_iff] at hx
          obtain ⟨j, hj, rfl⟩ := hx
          have hj2 := List.getElem?_eq_some_iff.1 hj
          obtain ⟨hj3, hj4⟩ := hj2
          simp only [List.length_range] at hj3
          rw [List.getElem_range] at hj4
          subst hj4
          obtain ⟨y, hy, _⟩ := hel i hj3
          rw [hy]
          simp
        · simp only [List.mem_map, List.mem_range] at hx
          obtain ⟨j, hj, rfl⟩ := hx
          obtain ⟨y, hy, hy2⟩ := hel j hj
          rw [hy]
          simpa using hy2
      | _ => cases hsh

/-- The object that stands for it, and its place. -/
def ob8 (l : List Nat) : Ob := ⟨u8s l, true, false, false, 1⟩
theorem lies_rel {w : World} {a : Addr} {len cap : Nat} {l : List Nat} (h : Lies8 w a len cap l) : ∃ pl : Place, pl.block = a.block ∧ pl.block < w.heap.size ∧ (∀ ρ, ObjRel ρ w pl (ob8 l)) ∧
    ∀ (ρ : Pl) (id : Nat), ρ id = some pl → VRel ρ (.slice (some ⟨id, 0, none⟩) len len) (.slice (some a) len cap) := by
  obtain ⟨cs, e, fr, h1, h2, h3⟩ := h.at_
  have hlt : a.block < w.heap.size := (Array.getElem?_eq_some_iff.1 h1).1
  have hle := h.le
  have hln := h.len
  rcases Nat.eq_zero_or_pos cap with h0 | h0
  · subst h0
    have hl0 : l = [] := List.eq_nil_of_length_eq_zero (by omega)
    have hlen0 : len = 0 := by omega
    subst hl0 hlen0
    refine ⟨⟨a.block, 0, cs.size, 1, .foreign⟩, rfl, hlt, fun ρ => ⟨rfl, rfl, cs, e, fr, h1, rfl, by simp [ob8, u8s], fun i v hv => by simp [ob8, u8s] at hv, fun ho => by simp [ob8] at ho⟩, fun ρ id hρ => ?_⟩
    exact .slice hρ rfl h.spot rfl (.inr rfl) (Nat.le_refl _) (Nat.le_refl _) trivial
  · have h4 : a.off + cap ≤ cs.size := by
      rcases h2 with h2 | h2
      · omega
      · exact h2
    refine ⟨⟨a.block, a.off, cs.size, 1, .foreign⟩, rfl, hlt, fun ρ => ⟨rfl, rfl, cs, e, fr, h1, rfl, by simp only [ob8, u8s_len]; omega, fun i v hv => ?_, fun ho => by simp [ob8] at ho⟩, fun ρ id hρ => ?_⟩
    · simp only [ob8, u8s, List.getElem?_map, Option.map_eq_some_iff] at hv
      obtain ⟨x, hx, rfl⟩ := hv
      exact ⟨rfl, _, h3 i x hx, .same rfl⟩
    · exact .slice hρ rfl h.spot rfl (.inl rfl) (Nat.le_refl _) h.le trivial
/-- One object of a slice of bytes. -/
def pl1 (pl : Place) : Pl := fun id => if id = 0 then some pl else none
theorem rel_one {w : World} {pl : Place} {l : List Nat} (h1 : pl.block < w.heap.size) (h2 : ∀ ρ, ObjRel ρ w pl (ob8 l)) : RelF (pl1 pl) (hp [ob8 l]) w := by
  refine ⟨fun id p h => ?_, fun id ob p h k hl => ?_, fun i j oi oj pi pj hi hj hpi hpj hl ho hlj hne => ?_⟩
  · unfold pl1 at h
    split at h
    · cases h; exact h1
    · cases h
  · unfold pl1 at k
    split at k
    · rename_i h0
      subst h0
      cases k
      simp [hp] at h
      subst h
      exact h2 _
    · cases k
  · rcases i with _ | i
    · simp [hp] at hi
      subst hi
      cases ho
    · simp [hp] at hi
theorem own_one {l : List Nat} : ∀ (i : Nat) (o : Ob), ([ob8 l] : List Ob)[i]? = some o → o.own = false := by
  intro i o h
  rcases i with _ | i
  · simp at h; subst h; rfl
  · simp at h
theorem free_one {pl : Place} {l : List Nat} : ∀ id, ([ob8 l] : List Ob).length ≤ id → pl1 pl id = none := by
  intro id h
  have : ¬ id = 0 := by simp at h; omega
  simp [pl1, this]
end
end Go.Ev


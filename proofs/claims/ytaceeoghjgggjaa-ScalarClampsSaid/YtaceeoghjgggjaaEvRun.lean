/-
  The evaluator's equations, a constructor at a time; and an evaluator with a purse, which the kernel can run.
-/
import Derived.Test.YtaceeoghjgggjaaEvCore
set_option linter.unusedSimpArgs false
set_option linter.unusedVariables false
namespace Go.Ev
section
variable {T : Tab}

def AOp.noCall : AOp → Bool
  | .call .. | .callv .. => false
  | _ => true
theorem evOper_simple {o : AOp} {e : Env} {H : List Ob} (h : o.noCall = true) : evOper T o e H = simpleOp H e o := by
  rw [evOper.eq_def]
  cases o <;> first | rfl | (simp [AOp.noCall] at h)

theorem evOper_move {e : Env} {H : List Ob} {x : Operand} : evOper T (.move x) e H = simpleOp H e (.move x) := evOper_simple rfl
theorem evOper_pick {e : Env} {H : List Ob} {c a b : Operand} : evOper T (.pick c a b) e H = simpleOp H e (.pick c a b) := evOper_simple rfl
theorem evOper_alloc {e : Env} {H : List Ob} {zero : List Value} : evOper T (.alloc zero) e H = simpleOp H e (.alloc zero) := evOper_simple rfl
theorem evOper_box {e : Env} {H : List Ob} {x : Operand} : evOper T (.box x) e H = simpleOp H e (.box x) := evOper_simple rfl
theorem evOper_load {e : Env} {H : List Ob} {n : Option Nat} {a : Operand} : evOper T (.load n a) e H = simpleOp H e (.load n a) := evOper_simple rfl
theorem evOper_store {e : Env} {H : List Ob} {n : Nat} {a v : Operand} : evOper T (.store n a v) e H = simpleOp H e (.store n a v) := evOper_simple rfl
theorem evOper_bin {e : Env} {H : List Ob} {op : BinOp} {x y : Operand} : evOper T (.bin op x y) e H = simpleOp H e (.bin op x y) := evOper_simple rfl
theorem evOper_eqv {e : Env} {H : List Ob} {ks : Option (List Bool)} {neg : Bool} {x y : Operand} : evOper T (.eqv ks neg x y) e H = simpleOp H e (.eqv ks neg x y) := evOper_simple rfl
theorem evOper_isNil {e : Env} {H : List Ob} {k : Nat} {neg : Bool} {x : Operand} : evOper T (.isNil k neg x) e H = simpleOp H e (.isNil k neg x) := evOper_simple rfl
theorem evOper_un {e : Env} {H : List Ob} {op : UnOp} {x : Operand} : evOper T (.un op x) e H = simpleOp H e (.un op x) := evOper_simple rfl
theorem evOper_conv {e : Env} {H : List Ob} {k : IntKind} {x : Operand} : evOper T (.conv k x) e H = simpleOp H e (.conv k x) := evOper_simple rfl
theorem evOper_convStr {e : Env} {H : List Ob} {x : Operand} : evOper T (.convStr x) e H = simpleOp H e (.convStr x) := evOper_simple rfl
theorem evOper_s2b {e : Env} {H : List Ob} {x : Operand} : evOper T (.s2b x) e H = simpleOp H e (.s2b x) := evOper_simple rfl
theorem evOper_b2s {e : Env} {H : List Ob} {x : Operand} : evOper T (.b2s x) e H = simpleOp H e (.b2s x) := evOper_simple rfl
theorem evOper_field {e : Env} {H : List Ob} {n : Option Nat} {off : Nat} {x : Operand} : evOper T (.field n off x) e H = simpleOp H e (.field n off x) := evOper_simple rfl
theorem evOper_index {e : Env} {H : List Ob} {n : Option Nat} {len es : Nat} {x i : Operand} : evOper T (.index n len es x i) e H = simpleOp H e (.index n len es x i) := evOper_simple rfl
theorem evOper_indexStr {e : Env} {H : List Ob} {x i : Operand} : evOper T (.indexStr x i) e H = simpleOp H e (.indexStr x i) := evOper_simple rfl
theorem evOper_build {e : Env} {H : List Ob} {zero : List Value} {parts : List (Nat × Nat × Operand)} : evOper T (.build zero parts) e H = simpleOp H e (.build zero parts) := evOper_simple rfl
theorem evOper_buildSlice {e : Env} {H : List Ob} {cells : List Value} {len : Nat} {parts : List (Nat × Nat × Operand)} : evOper T (.buildSlice cells len parts) e H = simpleOp H e (.buildSlice cells len parts) := evOper_simple rfl
theorem evOper_fieldAddr {e : Env} {H : List Ob} {off : Nat} {x : Operand} : evOper T (.fieldAddr off x) e H = simpleOp H e (.fieldAddr off x) := evOper_simple rfl
theorem evOper_indexAddr {e : Env} {H : List Ob} {len es : Nat} {x i : Operand} : evOper T (.indexAddr len es x i) e H = simpleOp H e (.indexAddr len es x i) := evOper_simple rfl
theorem evOper_indexSl {e : Env} {H : List Ob} {es : Nat} {x i : Operand} : evOper T (.indexSl es x i) e H = simpleOp H e (.indexSl es x i) := evOper_simple rfl
theorem evOper_sliceArr {e : Env} {H : List Ob} {n es : Nat} {x : Operand} {lo hi mx : Option Operand} : evOper T (.sliceArr n es x lo hi mx) e H = simpleOp H e (.sliceArr n es x lo hi mx) := evOper_simple rfl
theorem evOper_sliceSl {e : Env} {H : List Ob} {es : Nat} {x : Operand} {lo hi mx : Option Operand} : evOper T (.sliceSl es x lo hi mx) e H = simpleOp H e (.sliceSl es x lo hi mx) := evOper_simple rfl
theorem evOper_sliceStr {e : Env} {H : List Ob} {x : Operand} {lo hi : Option Operand} : evOper T (.sliceStr x lo hi) e H = simpleOp H e (.sliceStr x lo hi) := evOper_simple rfl
theorem evOper_makeSlice {e : Env} {H : List Ob} {zero : List Value} {bytes : Nat} {l c : Operand} : evOper T (.makeSlice zero bytes l c) e H = simpleOp H e (.makeSlice zero bytes l c) := evOper_simple rfl
theorem evOper_extract {e : Env} {H : List Ob} {x : Operand} {i : Nat} : evOper T (.extract x i) e H = simpleOp H e (.extract x i) := evOper_simple rfl
theorem evOper_mkIface {e : Env} {H : List Ob} {t : TypeId} {x : Operand} : evOper T (.mkIface t x) e H = simpleOp H e (.mkIface t x) := evOper_simple rfl
theorem evOper_mkFunc {e : Env} {H : List Ob} {fn : Fn} {first captured : List Operand} : evOper T (.mkFunc fn first captured) e H = simpleOp H e (.mkFunc fn first captured) := evOper_simple rfl
theorem evOper_nilCheck {e : Env} {H : List Ob} {x : Operand} : evOper T (.nilCheck x) e H = simpleOp H e (.nilCheck x) := evOper_simple rfl
theorem evOper_s2ap {e : Env} {H : List Ob} {n : Nat} {x : Operand} : evOper T (.s2ap n x) e H = simpleOp H e (.s2ap n x) := evOper_simple rfl
theorem evOper_append {e : Env} {H : List Ob} {es bytes : Nat} {s x : Operand} : evOper T (.append es bytes s x) e H = simpleOp H e (.append es bytes s x) := evOper_simple rfl
theorem evOper_copy {e : Env} {H : List Ob} {es : Nat} {d s : Operand} : evOper T (.copy es d s) e H = simpleOp H e (.copy es d s) := evOper_simple rfl
theorem evOper_len {e : Env} {H : List Ob} {str : Bool} {x : Operand} : evOper T (.len str x) e H = simpleOp H e (.len str x) := evOper_simple rfl
theorem evOper_minmax {e : Env} {H : List Ob} {max : Bool} {x y : Operand} : evOper T (.minmax max x y) e H = simpleOp H e (.minmax max x y) := evOper_simple rfl
theorem evOper_call {e : Env} {H : List Ob} {f : FuncId} {xs : List Operand} : evOper T (.call f xs false) e H = (opds e xs).bind fun args => (evFun T f args H).bind fun r => some (r.1, r.2.1, none, r.2.2) := by
  rw [evOper.eq_def]; dsimp only; cases opds e xs <;> rfl
theorem evOper_callVal {e : Env} {H : List Ob} {f : FuncId} {xs : List Operand} : evOper T (.call f xs true) e H = (opds e xs).bind fun args => if args.all rf then (evFun T f args []).bind fun r => if rf r.1 then some (r.1, H, some [], []) else none else none := by
  rw [evOper.eq_def]; dsimp only; cases opds e xs <;> rfl
theorem evCode_skip {base : Nat} {s : St} : evCode T base .skip s = some (.normal, s) := by rw [evCode.eq_def]
theorem evCode_exit {base id : Nat} {s : St} : evCode T base (.exit id) s = some (.exit id, s) := by rw [evCode.eq_def]
theorem evCode_ret {base : Nat} {s : St} : evCode T base .ret s = some (.ret, s) := by rw [evCode.eq_def]
theorem evCode_region {base : Nat} {ops : List AOper} {keep : Option (List Nat)} {pairs : List (Nat × Nat)} {s : St} : evCode T base (.region ops keep pairs) s =
    (evOps T base ops s []).bind fun r => if pairsOk r.2 pairs then some (.normal, r.1.after keep) else none := by rw [evCode.eq_def]; rfl
theorem evCode_seq {base : Nat} {a b : ACode} {s : St} : evCode T base (.seq a b) s = (evCode T base a s).bind fun r => match r.1 with
    | .normal => evCode T base b r.2
    | x => some (x, r.2) := by rw [evCode.eq_def]; rfl
theorem evCode_cond {base : Nat} {c : Operand} {a b : ACode} {s : St} : evCode T base (.cond c a b) s = match opd s.env c with
    | some (.bool true) => evCode T base a s
    | some (.bool false) => evCode T base b s
    | _ => none := by rw [evCode.eq_def]; rfl
theorem evCode_block {base id : Nat} {b : ACode} {s : St} : evCode T base (.block id b) s = (evCode T base b s).bind fun r => match r.1 with
    | .exit i => if i = id then some (.normal, r.2) else some (.exit i, r.2)
    | x => some (x, r.2) := by rw [evCode.eq_def]; rfl
theorem evCode_loop {base : Nat} {b : ACode} {s : St} : evCode T base (.loop b) s = (evCode T base b s).bind fun r => match r.1 with
    | .normal => evCode T base (.loop b) r.2
    | x => some (x, r.2) := by rw [evCode.eq_def]; rfl

theorem evOps_nil {base : Nat} {s : St} {recs : List Rec} : evOps T base [] s recs = some (s, recs) := by rw [evOps.eq_def]
theorem evOps_cons {base : Nat} {o : AOper} {r : List AOper} {s : St} {recs : List Rec} : evOps T base (o :: r) s recs = match guardOf s.env o.guard with
      | some true => (evOper T o.op s.env s.h).bind fun x => evOps T base r ⟨s.env.put o.dst x.1, x.2.1, inMerge base s.log x.2.2.2⟩ (recs ++ [(x.2.2.1, x.2.2.2)])
      | some false => evOps T base r ⟨s.env.put o.dst undef, s.h, s.log⟩ (recs ++ [(some [], [])])
      | none => none := by rw [evOps.eq_def]; rfl
end
theorem bind_congr1 {α β : Type} {x y : Option α} (f : α → Option β) (h : x = y) : x.bind f = y.bind f := by rw [h]

/-! The evaluator with a purse. -/
abbrev FunE := Nat → List Value → List Ob → Option (Value × List Ob × List Nat)

def operW (F : FunE) (o : AOp) (e : Env) (H : List Ob) : Step :=
  match o with
  | .call f xs byVal =>
      if byVal then
        (opds e xs).bind fun args => if args.all rf then (F f args []).bind fun r => if rf r.1 then some (r.1, H, some [], []) else none else none
      else (opds e xs).bind fun args => (F f args H).bind fun r => some (r.1, r.2.1, none, r.2.2)
  | .callv f xs =>
      match opd e f, opds e xs with
      | some (.func (.func f) first captured), some args => (F f (first.toList ++ args ++ captured.toList) H).bind fun r => some (r.1, r.2.1, none, r.2.2)
      | _, _ => none
  | o => simpleOp H e o

def opsW (F : FunE) (base : Nat) : List AOper → St → List Rec → Option (St × List Rec)
  | [], s, recs => some (s, recs)
  | o :: r, s, recs => match guardOf s.env o.guard with
      | some true => (operW F o.op s.env s.h).bind fun x => opsW F base r ⟨s.env.put o.dst x.1, x.2.1, inMerge base s.log x.2.2.2⟩ (recs ++ [(x.2.2.1, x.2.2.2)])
      | some false => opsW F base r ⟨s.env.put o.dst undef, s.h, s.log⟩ (recs ++ [(some [], [])])
      | none => none

def iterW (g : St → Option (AExit × St)) : Nat → St → Option (AExit × St)
  | 0, _ => none
  | n + 1, s => (g s).bind fun r => match r.1 with
    | .normal => iterW g n r.2
    | x => some (x, r.2)

def codeW (F : FunE) (L base : Nat) : ACode → St → Option (AExit × St)
  | .skip, s => some (.normal, s)
  | .region ops keep pairs, s => (opsW F base ops s []).bind fun r => if pairsOk r.2 pairs then some (.normal, r.1.after keep) else none
  | .seq a b, s => (codeW F L base a s).bind fun r => match r.1 with
    | .normal => codeW F L base b r.2
    | x => some (x, r.2)
  | .cond c a b, s => match opd s.env c with
    | some (.bool true) => codeW F L base a s
    | some (.bool false) => codeW F L base b s
    | _ => none
  | .block id b, s => (codeW F L base b s).bind fun r => match r.1 with
    | .exit i => if i = id then some (.normal, r.2) else some (.exit i, r.2)
    | x => some (x, r.2)
  | .loop b, s => iterW (codeW F L base b) L s
  | .exit id, s => some (.exit id, s)
  | .ret, s => some (.ret, s)

def runFun (T : Tab) (L : Nat) : Nat → FunE
  | 0, _, _, _ => none
  | d + 1, f, args, H => match T.fn f with
    | some fn => (codeW (runFun T L d) L H.length fn.body ⟨envOf 0 args, H, []⟩).bind fun xs => match xs.1 with
      | .exit _ => none
      | _ => (resultOf xs.2.env xs.2.h fn.results).bind fun vs => some (packed vs, xs.2.h, xs.2.log)
    | none => if args.all rf then (T.ext f args).bind fun v => some (v, H, []) else none

def FLe (T : Tab) (F : FunE) : Prop := ∀ f args H r, F f args H = some r → evFun T f args H = some r
section
variable {T : Tab} {F : FunE}

theorem operW_le (hF : FLe T F) {o : AOp} {e : Env} {H : List Ob} {r} (h : operW F o e H = some r) : evOper T o e H = some r := by
  rw [evOper.eq_def]
  cases o with
  | call f xs b =>
    cases b with
    | true =>
      simp only [operW, if_true, Option.bind_eq_some_iff] at h
      obtain ⟨args, h1, h2⟩ := h
      dsimp only
      rw [h1]
      simp only [if_true]
      split at h2
      · rename_i ha
        rw [if_pos ha]
        simp only [Option.bind_eq_some_iff] at h2
        obtain ⟨r1, h3, h4⟩ := h2
        simp only [hF _ _ _ _ h3, Option.bind_eq_bind, Option.bind_some]
        exact h4
      · cases h2
    | false =>
      simp only [operW, Bool.false_eq_true, if_false, Option.bind_eq_some_iff] at h
      obtain ⟨args, h1, r1, h2, h3⟩ := h
      dsimp only
      rw [h1]
      simp only [Bool.false_eq_true, if_false, hF _ _ _ _ h2, Option.bind_eq_bind, Option.bind_some]
      exact h3
  | callv f xs =>
    simp only [operW] at h
    dsimp only
    split at h
    · rename_i h1 h2
      rw [h1, h2]
      simp only [Option.bind_eq_some_iff] at h
      obtain ⟨r1, h3, h4⟩ := h
      simp only [hF _ _ _ _ h3, Option.bind_eq_bind, Option.bind_some]
      exact h4
    · cases h
  | _ => exact h

theorem opsW_le (hF : FLe T F) {base : Nat} : ∀ {ops : List AOper} {s : St} {recs : List Rec} {r}, opsW F base ops s recs = some r → evOps T base ops s recs = some r
  | [], _, _, _, h => by rw [evOps_nil]; exact h
  | o :: ops, s, recs, r, h => by
    rw [evOps_cons]
    simp only [opsW] at h
    cases hg : guardOf s.env o.guard with
    | none => simp only [hg] at h; cases h
    | some b =>
      cases b with
      | true =>
        simp only [hg, Option.bind_eq_some_iff] at h ⊢
        obtain ⟨x, h1, h2⟩ := h
        exact ⟨x, operW_le hF h1, opsW_le hF h2⟩
      | false =>
        simp only [hg] at h ⊢
        exact opsW_le hF h

theorem iterW_le {base : Nat} {b : ACode} {g : St → Option (AExit × St)} (hg : ∀ s r, g s = some r → evCode T base b s = some r) : ∀ (n : Nat) (s : St) (r : AExit × St), iterW g n s = some r → evCode T base (.loop b) s = some r
  | 0, _, _, h => by cases h
  | n + 1, s, r, h => by
    rw [evCode_loop]
    simp only [iterW, Option.bind_eq_some_iff] at h ⊢
    obtain ⟨⟨x, s1⟩, h1, h2⟩ := h
    refine ⟨_, hg _ _ h1, ?_⟩
    cases x with
    | normal => exact iterW_le hg n _ _ h2
    | exit id => exact h2
    | ret => exact h2

theorem codeW_le (hF : FLe T F) {L base : Nat} : ∀ {c : ACode} {s : St} {r}, codeW F L base c s = some r → evCode T base c s = some r
  | .skip, _, _, h => by rw [evCode_skip]; exact h
  | .exit _, _, _, h => by rw [evCode_exit]; exact h
  | .ret, _, _, h => by rw [evCode_ret]; exact h
  | .region ops keep pairs, s, r, h => by
    rw [evCode_region]
    simp only [codeW, Option.bind_eq_some_iff] at h ⊢
    obtain ⟨x, h1, h2⟩ := h
    exact ⟨x, opsW_le hF h1, h2⟩
  | .seq a b, s, r, h => by
    rw [evCode_seq]
    simp only [codeW, Option.bind_eq_some_iff] at h ⊢
    obtain ⟨⟨x, s1⟩, h1, h2⟩ := h
    refine ⟨_, codeW_le hF h1, ?_⟩
    cases x with
    | normal => exact codeW_le hF h2
    | exit id => exact h2
    | ret => exact h2
  | .cond c a b, s, r, h => by
    rw [evCode_cond]
    simp only [codeW] at h
    split at h
    · exact codeW_le hF h
    · exact codeW_le hF h
    · cases h
  | .block id b, s, r, h => by
    rw [evCode_block]
    simp only [codeW, Option.bind_eq_some_iff] at h ⊢
    obtain ⟨⟨x, s1⟩, h1, h2⟩ := h
    refine ⟨_, codeW_le hF h1, ?_⟩
    cases x with
    | normal => exact h2
    | exit i => exact h2
    | ret => exact h2
  | .loop b, s, r, h => by
    simp only [codeW] at h
    exact iterW_le (fun s1 r1 h1 => codeW_le hF h1) L s r h

theorem runFun_le (L : Nat) : ∀ d, FLe T (runFun T L d)
  | 0, _, _, _, _, h => by cases h
  | d + 1, f, args, H, r, h => by
    rw [evFun.eq_def]
    simp only [runFun] at h
    split at h
    · rename_i fn hfn
      rw [hfn]
      simp only [Option.bind_eq_some_iff] at h
      obtain ⟨⟨x, s1⟩, h1, h2⟩ := h
      simp only [Option.bind_eq_bind, codeW_le (runFun_le L d) h1, Option.bind_some]
      cases x with
      | normal => exact h2
      | exit i => exact h2
      | ret => exact h2
    · rename_i hfn
      rw [hfn]
      exact h

/-- One step into a function that has a text. -/
theorem evFun_fn {f : Nat} {args : List Value} {H : List Ob} {fn : AFun} (hfn : T.fn f = some fn) : evFun T f args H = (evCode T H.length fn.body ⟨envOf 0 args, H, []⟩).bind fun xs => match xs.1 with
      | .exit _ => none
      | _ => (resultOf xs.2.env xs.2.h fn.results).bind fun vs => some (packed vs, xs.2.h, xs.2.log) := by
  rw [evFun.eq_def, hfn]; rfl
end
end Go.Ev

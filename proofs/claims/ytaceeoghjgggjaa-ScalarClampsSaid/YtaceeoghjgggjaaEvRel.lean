/-
  How the evaluator's values and heap stand to the model's.
-/
import Derived.Test.YtaceeoghjgggjaaEvComp
import Derived.Below
set_option linter.unusedSimpArgs false
set_option linter.unusedVariables false
namespace Go.Ev
open Go.RowKit

inductive Kind where | exact | grown | foreign
  deriving DecidableEq

structure Place where
  block : Nat
  base : Nat
  size : Nat
  es : Nat
  kind : Kind

def Place.capOk (pl : Place) (off cap cap' : Nat) : Prop :=
  match pl.kind with
  | .exact => cap' = cap
  | .grown => cap' = cap ∨ off + cap' * pl.es ≤ pl.size
  | .foreign => True

abbrev Pl := Nat → Option Place

mutual
inductive VRel (ρ : Pl) : Value → Value → Prop
  | same {v : Value} : scalarRf v = true → VRel ρ v v
  | ptr {a : Addr} {pl : Place} : ρ a.block = some pl → a.spot = none → VRel ρ (.pointer (some a)) (.pointer (some ⟨pl.block, pl.base + a.off, none⟩))
  | slice {a : Addr} {pl : Place} {len cap : Nat} {a' : Addr} {cap' : Nat} : ρ a.block = some pl → a.spot = none → a'.spot = none → a'.block = pl.block →
      (a'.off = pl.base + a.off ∨ cap' = 0) → len ≤ cap → cap ≤ cap' → pl.capOk a'.off cap cap' → VRel ρ (.slice (some a) len cap) (.slice (some a') len cap')
  | func {fn : Fn} {f f' c c' : List Value} : LRel ρ f f' → LRel ρ c c' → VRel ρ (.func fn ⟨f⟩ ⟨c⟩) (.func fn ⟨f'⟩ ⟨c'⟩)
  | iface {t : TypeId} {v v' : Value} : VRel ρ v v' → VRel ρ (.iface t v) (.iface t v')
  | agg {l l' : List Value} : LRel ρ l l' → (∀ v ∈ l, oneCellB v = true) → VRel ρ (.agg ⟨l⟩) (.agg ⟨l'⟩)
  | tuple {l l' : List Value} : LRel ρ l l' → VRel ρ (.tuple ⟨l⟩) (.tuple ⟨l'⟩)
inductive LRel (ρ : Pl) : List Value → List Value → Prop
  | nil : LRel ρ [] []
  | cons {a b : Value} {l l' : List Value} : VRel ρ a b → LRel ρ l l' → LRel ρ (a :: l) (b :: l')
end

def PlLe (ρ ρ' : Pl) : Prop := ∀ id pl, ρ id = some pl → ρ' id = some pl
theorem PlLe.refl (ρ : Pl) : PlLe ρ ρ := fun _ _ h => h
theorem PlLe.trans {a b c : Pl} (h : PlLe a b) (k : PlLe b c) : PlLe a c := fun i p e => k i p (h i p e)

mutual
theorem VRel.mono {ρ ρ' : Pl} (h : PlLe ρ ρ') {v v' : Value} (hv : VRel ρ v v') : VRel ρ' v v' :=
  match hv with
  | .same hs => .same hs
  | .ptr a b => .ptr (h _ _ a) b
  | .slice a b c d e f g i => .slice (h _ _ a) b c d e f g i
  | .func a b => .func (LRel.mono h a) (LRel.mono h b)
  | .iface a => .iface (VRel.mono h a)
  | .agg a b => .agg (LRel.mono h a) b
  | .tuple a => .tuple (LRel.mono h a)
theorem LRel.mono {ρ ρ' : Pl} (h : PlLe ρ ρ') {l l' : List Value} (hl : LRel ρ l l') : LRel ρ' l l' :=
  match hl with
  | .nil => .nil
  | .cons a b => .cons (VRel.mono h a) (LRel.mono h b)
end

variable {ρ : Pl}

theorem LRel.length {l l' : List Value} (h : LRel ρ l l') : l.length = l'.length := by
  induction l generalizing l' with
  | nil => cases h; rfl
  | cons a l ih => cases h with | cons _ h => simp [ih h]

theorem LRel.get {l l' : List Value} (h : LRel ρ l l') {i : Nat} {v : Value} (hi : l[i]? = some v) : ∃ v', l'[i]? = some v' ∧ VRel ρ v v' := by
  induction l generalizing l' i with
  | nil => simp at hi
  | cons a l ih =>
    cases h with
    | cons hv hl =>
      cases i with
      | zero => simp at hi; subst hi; exact ⟨_, by simp, hv⟩
      | succ i => simp at hi; obtain ⟨v', h1, h2⟩ := ih hl hi; exact ⟨v', by simpa using h1, h2⟩

theorem LRel.of_get {l l' : List Value} (hl : l.length = l'.length) (h : ∀ (i : Nat) (v : Value), l[i]? = some v → ∃ v', l'[i]? = some v' ∧ VRel ρ v v') : LRel ρ l l' := by
  induction l generalizing l' with
  | nil => cases l' with | nil => exact .nil | cons _ _ => simp at hl
  | cons a l ih =>
    cases l' with
    | nil => simp at hl
    | cons b l' =>
      obtain ⟨v', h1, h2⟩ := h 0 a (by simp)
      simp at h1; subst h1
      exact .cons h2 (ih (by simpa using hl) fun i v hv => by have := h (i + 1) v (by simpa using hv); simpa using this)

theorem LRel.append {a a' b b' : List Value} (h : LRel ρ a a') (k : LRel ρ b b') : LRel ρ (a ++ b) (a' ++ b') := by
  induction a generalizing a' with
  | nil => cases h; exact k
  | cons x a ih => cases h with | cons hv hl => exact .cons hv (ih hl)

theorem LRel.take {a a' : List Value} (h : LRel ρ a a') (n : Nat) : LRel ρ (a.take n) (a'.take n) := by
  induction a generalizing a' n with
  | nil => cases h; simp; exact .nil
  | cons x a ih => cases h with | cons hv hl => cases n with
    | zero => simp; exact .nil
    | succ n => simp; exact .cons hv (ih hl n)

theorem LRel.drop {a a' : List Value} (h : LRel ρ a a') (n : Nat) : LRel ρ (a.drop n) (a'.drop n) := by
  induction a generalizing a' n with
  | nil => cases h; simp; exact .nil
  | cons x a ih => cases h with | cons hv hl => cases n with
    | zero => simp; exact .cons hv hl
    | succ n => simp; exact ih hl n

theorem LRel.set {a a' : List Value} (h : LRel ρ a a') (n : Nat) {v v' : Value} (hv : VRel ρ v v') : LRel ρ (a.set n v) (a'.set n v') := by
  induction a generalizing a' n with
  | nil => cases h; simp; exact .nil
  | cons x a ih => cases h with | cons hx hl => cases n with
    | zero => simp; exact .cons hv hl
    | succ n => simp; exact .cons hx (ih hl n)

theorem LRel.flatten_replicate {z z' : List Value} (h : LRel ρ z z') (n : Nat) : LRel ρ (List.replicate n z).flatten (List.replicate n z').flatten := by
  induction n with
  | zero => simp; exact .nil
  | succ n ih => simp only [List.replicate_succ, List.flatten_cons]; exact h.append ih

theorem LRel.same {l : List Value} (h : l.all scalarRf = true) : LRel ρ l l := by
  induction l with
  | nil => exact .nil
  | cons a l ih => simp at h; exact .cons (.same h.1) (ih (by simpa using h.2))

theorem func_scalar {fn : Fn} {f c : List Value} (h : scalarRf (.func fn ⟨f⟩ ⟨c⟩) = true) : f = [] ∧ c = [] := by
  cases fn <;> simp [scalarRf] at h
  exact h

theorem VRel.of_scalar {v v' : Value} (hs : scalarRf v = true) (h : VRel ρ v v') : v' = v := by
  cases h with
  | same _ => rfl
  | ptr _ _ => simp [scalarRf] at hs
  | slice => simp [scalarRf] at hs
  | func a b =>
    obtain ⟨rfl, rfl⟩ := func_scalar hs
    cases a; cases b; rfl
  | iface => simp [scalarRf] at hs
  | agg => simp [scalarRf] at hs
  | tuple => simp [scalarRf] at hs

theorem LRel.of_scalars {l l' : List Value} (hs : l.all scalarRf = true) (h : LRel ρ l l') : l' = l := by
  induction l generalizing l' with
  | nil => cases h; rfl
  | cons a l ih => cases h with | cons hv hl => simp at hs; rw [hv.of_scalar hs.1, ih (by simpa using hs.2) hl]

theorem rfIn_agg (cs : Array Value) : rfIn (.agg cs) = cs.toList.all scalarRf := rfl
theorem rf_agg (cs : Array Value) : rf (.agg cs) = cs.toList.all scalarRf := rfl
theorem rf_tuple (cs : Array Value) : rf (.tuple cs) = cs.toList.all rfIn := rfl
theorem rfIn_cases {v : Value} (h : rfIn v = true) : scalarRf v = true ∨ ∃ cs, v = .agg cs := by
  cases v <;> first | exact .inr ⟨_, rfl⟩ | exact .inl h
theorem rf_cases {v : Value} (h : rf v = true) : rfIn v = true ∨ ∃ cs, v = .tuple cs := by
  cases v <;> first | exact .inr ⟨_, rfl⟩ | exact .inl h
theorem rfIn_rf {v : Value} (h : rfIn v = true) : rf v = true := by
  cases v <;> first | exact h | (simp [rfIn, scalarRf] at h)

theorem VRel.of_rfIn {v v' : Value} (hs : rfIn v = true) (h : VRel ρ v v') : v' = v := by
  rcases rfIn_cases hs with h1 | ⟨cs, rfl⟩
  · exact h.of_scalar h1
  · cases h with
    | same h => simp [scalarRf] at h
    | agg a b => rw [rfIn_agg] at hs; rw [a.of_scalars hs]

theorem LRel.of_rfIns {l l' : List Value} (hs : l.all rfIn = true) (h : LRel ρ l l') : l' = l := by
  induction l generalizing l' with
  | nil => cases h; rfl
  | cons a l ih => cases h with | cons hv hl => simp at hs; rw [hv.of_rfIn hs.1, ih (by simpa using hs.2) hl]

theorem VRel.of_rf {v v' : Value} (hs : rf v = true) (h : VRel ρ v v') : v' = v := by
  rcases rf_cases hs with h1 | ⟨cs, rfl⟩
  · exact h.of_rfIn h1
  · cases h with
    | same h => simp [scalarRf] at h
    | tuple a => rw [rf_tuple] at hs; rw [a.of_rfIns hs]

theorem VRel.rfIn_any {ρ' : Pl} {v v' : Value} (hs : rfIn v = true) (h : VRel ρ v v') : VRel ρ' v v' := by
  rcases rfIn_cases hs with h1 | ⟨cs, rfl⟩
  · rw [h.of_scalar h1]; exact .same h1
  · cases h with
    | same h => simp [scalarRf] at h
    | agg a b => rw [rfIn_agg] at hs; rw [a.of_scalars hs]; exact .agg (LRel.same hs) b

theorem LRel.rfIn_any {ρ' : Pl} {l l' : List Value} (hs : l.all rfIn = true) (h : LRel ρ l l') : LRel ρ' l l' := by
  induction l generalizing l' with
  | nil => cases h; exact .nil
  | cons a l ih => cases h with | cons hv hl => simp at hs; exact .cons (hv.rfIn_any hs.1) (ih (by simpa using hs.2) hl)

/-- A value without addresses that stands to something under one placing stands to the same under any. -/
theorem VRel.rf_any {ρ' : Pl} {v v' : Value} (hs : rf v = true) (h : VRel ρ v v') : VRel ρ' v v' := by
  rcases rf_cases hs with h1 | ⟨cs, rfl⟩
  · exact h.rfIn_any h1
  · cases h with
    | same h => simp [scalarRf] at h
    | tuple a => rw [rf_tuple] at hs; exact .tuple (a.rfIn_any hs)

theorem LRel.rf_any {ρ' : Pl} {l l' : List Value} (hs : l.all rf = true) (h : LRel ρ l l') : LRel ρ' l l' := by
  induction l generalizing l' with
  | nil => cases h; exact .nil
  | cons a l ih => cases h with | cons hv hl => simp at hs; exact .cons (hv.rf_any hs.1) (ih (by simpa using hs.2) hl)

theorem scalarRf_oneCell {v : Value} (h : scalarRf v = true) : oneCellB v = true := by
  cases v <;> simp_all [scalarRf, oneCellB]

theorem VRel.oneCell {v v' : Value} (h : VRel ρ v v') : oneCellB v' = oneCellB v := by
  cases h <;> rfl

theorem VRel.of_const {v : Value} (h : okConst (.const v) = true) : VRel ρ v v := by
  simp only [okConst, Bool.and_eq_true] at h
  obtain ⟨h1, h2⟩ := h
  cases v with
  | agg cs => obtain ⟨l⟩ := cs; rw [rf_agg] at h1; exact .agg (LRel.same h1) (fun v hv => scalarRf_oneCell (by simp at h1; exact h1 v hv))
  | tuple vs => simp at h2
  | _ => exact .same h1

theorem VRel.cells {v v' : Value} (h : VRel ρ v v') : LRel ρ v.cells.toList v'.cells.toList := by
  cases h with
  | agg a b => exact a
  | same hs => cases v <;> first | exact .cons (.same hs) .nil | (simp [scalarRf] at hs)
  | ptr a b => exact .cons (.ptr a b) .nil
  | slice a b c d e f g i => exact .cons (.slice a b c d e f g i) .nil
  | func a b => exact .cons (.func a b) .nil
  | iface a => exact .cons (.iface a) .nil
  | tuple a => exact .cons (.tuple a) .nil

theorem VRel.cells_one {v v' : Value} (h : VRel ρ v v') (hn : oneCellB v = true ∨ ∃ cs, v = .agg cs) : ∀ x ∈ v.cells.toList, oneCellB x = true := by
  cases h with
  | agg a b => exact b
  | same hs => cases v <;> simp_all [Value.cells, scalarRf, oneCellB]
  | tuple a => simp [oneCellB] at hn
  | _ => simp [Value.cells, oneCellB]

/-- An object stands at its place. -/
structure ObjRel (ρ : Pl) (w : World) (pl : Place) (ob : Ob) : Prop where
  kind : pl.kind = if ob.own then (if ob.exact then .exact else .grown) else .foreign
  es : pl.es = ob.es
  block : ∃ cs e fr, w.heap[pl.block]? = some (.cells cs e fr) ∧ cs.size = pl.size ∧ pl.base + ob.cells.length ≤ cs.size ∧
    (∀ i v, ob.cells[i]? = some v → oneCellB v = true ∧ ∃ v', cs[pl.base + i]? = some v' ∧ VRel ρ v v') ∧
    (ob.own = true → ∀ i, i < cs.size → ¬ (fr.1 ≤ i ∧ i < fr.2))

structure RelF (ρ : Pl) (c : Nat → Option Ob) (w : World) : Prop where
  bound : ∀ id pl, ρ id = some pl → pl.block < w.heap.size
  obj : ∀ id ob pl, c id = some ob → ρ id = some pl → ob.live = true → ObjRel ρ w pl ob
  inj : ∀ i j oi oj pi pj, c i = some oi → c j = some oj → ρ i = some pi → ρ j = some pj → oi.live = true → oi.own = true → oj.live = true → i ≠ j → pi.block ≠ pj.block

abbrev hp (H : List Ob) : Nat → Option Ob := fun i => H[i]?

structure Ext (ρ ρ' : Pl) (n n' : Nat) : Prop where
  le : PlLe ρ ρ'
  dom : ∀ id pl, ρ' id = some pl → ρ id = none → n ≤ id ∧ id < n'

theorem Ext.refl (ρ : Pl) (n n' : Nat) : Ext ρ ρ n n' := ⟨.refl _, fun id pl h k => by rw [h] at k; cases k⟩

/-- What an operation leaves of the world: all that isn't the heap's own is as it was; what is new stands in new blocks, or where an object stood that is no more. -/
structure Frm (ρ ρ' : Pl) (c c' : Nat → Option Ob) (w w' : World) : Prop where
  os : w'.os = w.os
  tape : w'.tape = w.tape
  output : w'.output = w.output
  size : w.heap.size ≤ w'.heap.size
  blocks : ∀ b, b < w.heap.size → (∀ id ob pl, c id = some ob → ρ id = some pl → ob.live = true → ob.own = true → pl.block ≠ b) → w'.heap[b]? = w.heap[b]?
  fresh : ∀ id pl, ρ' id = some pl → ρ id = none → w.heap.size ≤ pl.block ∨
    ∃ i ob pl0, c i = some ob ∧ ρ i = some pl0 ∧ ob.live = true ∧ ob.own = true ∧ pl0.block = pl.block ∧ (∀ ob', c' i = some ob' → ob'.live = false)

theorem Frm.refl (ρ : Pl) (c c' : Nat → Option Ob) (w : World) : Frm ρ ρ c c' w w :=
  ⟨rfl, rfl, rfl, Nat.le_refl _, fun _ _ _ => rfl, fun id pl h k => by rw [h] at k; cases k⟩

/-- The world with so many draws more. -/
theorem Frm.drawn (ρ : Pl) (c c' : Nat → Option Ob) (w : World) (d : Nat) : Frm ρ ρ c c' w { w with drawn := d } :=
  ⟨rfl, rfl, rfl, Nat.le_refl _, fun _ _ _ => rfl, fun id pl h k => by rw [h] at k; cases k⟩

theorem ObjRel.same_block {w w' : World} {pl : Place} {ob : Ob} {ρ' : Pl} (h : ObjRel ρ w pl ob) (hle : PlLe ρ ρ') (hb : w'.heap[pl.block]? = w.heap[pl.block]?) : ObjRel ρ' w' pl ob := by
  obtain ⟨k, e, cs, el, fr, h1, h2, h3, h4, h5⟩ := h
  refine ⟨k, e, cs, el, fr, hb.trans h1, h2, h3, fun i v hi => ?_, h5⟩
  obtain ⟨a, v', b, c⟩ := h4 i v hi
  exact ⟨a, v', b, c.mono hle⟩

theorem RelF.drawn {c : Nat → Option Ob} {w : World} (h : RelF ρ c w) (d : Nat) : RelF ρ c { w with drawn := d } :=
  ⟨h.bound, fun id ob pl a b l => (h.obj id ob pl a b l).same_block (.refl _) rfl, h.inj⟩

end Go.Ev

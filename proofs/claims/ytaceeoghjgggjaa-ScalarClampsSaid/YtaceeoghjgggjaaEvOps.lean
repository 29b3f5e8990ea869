/-
  Each simple operation does in the model what the evaluator says.
-/
import Derived.Test.YtaceeoghjgggjaaEvRel
set_option linter.unusedSimpArgs false
set_option linter.unusedVariables false
namespace Go.Ev
open Go.RowKit

/-- What the operands are. -/
def OpRel (ρ : Pl) (e : Env) (a : Act) (xs : List Operand) : Prop := ∀ x ∈ xs, ∀ v, opd e x = some v → VRel ρ v (a.eval x)

theorem OpRel.head {ρ : Pl} {e : Env} {a : Act} {x : Operand} {xs : List Operand} (h : OpRel ρ e a (x :: xs)) {v : Value} (hv : opd e x = some v) : VRel ρ v (a.eval x) := h x (by simp) v hv
theorem OpRel.tail {ρ : Pl} {e : Env} {a : Act} {x : Operand} {xs : List Operand} (h : OpRel ρ e a (x :: xs)) : OpRel ρ e a xs := fun y hy => h y (by simp [hy])
theorem OpRel.of_sub {ρ : Pl} {e : Env} {a : Act} {xs ys : List Operand} (h : OpRel ρ e a xs) (hs : ∀ y ∈ ys, y ∈ xs) : OpRel ρ e a ys := fun y hy => h y (hs y hy)

theorem opds_rel {ρ : Pl} {e : Env} {a : Act} {xs : List Operand} {vs : List Value} (h : OpRel ρ e a xs) (hv : opds e xs = some vs) : LRel ρ vs (xs.map a.eval) := by
  induction xs generalizing vs with
  | nil => simp [opds] at hv; subst hv; exact .nil
  | cons x xs ih =>
    simp only [opds, Option.bind_eq_some_iff, Option.some.injEq] at hv
    obtain ⟨v, h1, vs', h2, rfl⟩ := hv
    exact .cons (h.head h1) (ih h.tail h2)

theorem opdOpt_rel {ρ : Pl} {e : Env} {a : Act} {x : Option Operand} {v : Option Value} (h : OpRel ρ e a x.toList) (hv : opdOpt e x = some v) :
    (v = none ∧ x.map a.eval = none) ∨ ∃ u u', v = some u ∧ x.map a.eval = some u' ∧ VRel ρ u u' := by
  cases x with
  | none => simp [opdOpt] at hv; subst hv; exact .inl ⟨rfl, rfl⟩
  | some x =>
    simp only [opdOpt, Option.bind_eq_some_iff, Option.some.injEq] at hv
    obtain ⟨u, h1, rfl⟩ := hv
    exact .inr ⟨u, _, rfl, rfl, h x (by simp) u h1⟩

/-- The outcome of an operation that answers a value. -/
def nextVal : Next → Value → Prop
  | .value v, u => v = u
  | .skip, u => u = undef
  | _, _ => False

structure Post (ρ : Pl) (H : List Ob) (w : World) (v : Value) (H' : List Ob) (v' : Value) (w' : World) (ρ' : Pl) : Prop where
  ext : Ext ρ ρ' H.length H'.length
  val : VRel ρ' v v'
  rel : RelF ρ' (hp H') w'
  frm : Frm ρ ρ' (hp H) (hp H') w w'

/-- Fresh numbers are free. -/
def Free (ρ : Pl) (n n' : Nat) : Prop := ∀ id, n ≤ id → id < n' → ρ id = none

def OpOk (P : Program) (o : Oper) (e : Env) (H : List Ob) (v : Value) (H' : List Ob) : Prop :=
  ∀ (ρ : Pl) (a : Act) (w : World), OpRel ρ e a o.op.operands.toList → RelF ρ (hp H) w → Free ρ H.length H'.length →
    ∃ nx v' w' ρ', (execOp a.eval o).run P w = .ok nx w' ∧ nextVal nx v' ∧ Post ρ H w v H' v' w' ρ'

section
variable {P : Program} {o : Oper} {e : Env} {H H' : List Ob} {v : Value}

theorem OpOk.pure (h : ∀ (ρ : Pl) (a : Act) (w : World), OpRel ρ e a o.op.operands.toList → RelF ρ (hp H) w → ∃ v', (execOp a.eval o).run P w = .ok (.value v') w ∧ VRel ρ v v') :
    OpOk P o e H v H := fun ρ a w h1 h2 _ => by
  obtain ⟨v', h3, h4⟩ := h ρ a w h1 h2
  exact ⟨_, v', w, ρ, h3, rfl, .refl _ _ _, h4, h2, .refl _ _ _ _⟩
end

theorem oneCellB_eq (v : Value) : v.oneCell' = oneCellB v := by cases v <;> rfl

section runs
variable {P : Program} {w : World}

theorem run_sizeT {t : TypeId} {n : Nat} (h : sizeT P t = some n) : (sizeOf t).run P w = .ok n w := by
  simp only [sizeT, Option.map_eq_some_iff] at h
  obtain ⟨i, hi, rfl⟩ := h
  simp [sizeOf, typeInfo, hi]

theorem run_bytesT {t : TypeId} {n : Nat} (h : bytesT P t = some n) : ∃ i, (typeInfo t).run P w = .ok i w ∧ i.bytes = n := by
  simp only [bytesT, Option.map_eq_some_iff] at h
  obtain ⟨i, hi, rfl⟩ := h
  exact ⟨i, by simp [typeInfo, hi], rfl⟩

theorem run_zeroT {t : TypeId} {z : List Value} (h : zeroT P t = some z) : z.all scalarRf = true ∧ ∃ v, (zeroValue t).run P w = .ok v w ∧ v.cells.toList = z := by
  simp only [zeroT, Option.bind_eq_some_iff] at h
  obtain ⟨v, ⟨i, hi, hz⟩, h⟩ := h
  split at h
  · cases h
    exact ⟨by assumption, v, by simp [zeroValue, typeInfo, hi, hz], rfl⟩
  · cases h

theorem run_aggT {t : TypeId} {n : Option Nat} (h : aggT P t = some n) : ∃ b, (isAgg t).run P w = .ok b w ∧ (b = n.isSome) ∧ ∀ k, n = some k → sizeT P t = some k := by
  unfold aggT at h
  split at h
  · rename_i fs hu
    simp only [Option.map_eq_some_iff] at h
    obtain ⟨k, hk, rfl⟩ := h
    exact ⟨true, by simp [isAgg, run_underlying hu], rfl, fun k' e => by cases e; exact hk⟩
  · rename_i m e hu
    simp only [Option.map_eq_some_iff] at h
    obtain ⟨k, hk, rfl⟩ := h
    exact ⟨true, by simp [isAgg, run_underlying hu], rfl, fun k' e => by cases e; exact hk⟩
  · rename_i d hu h1 h2
    cases h
    refine ⟨false, ?_, rfl, fun k' e => by cases e⟩
    simp only [isAgg, Sem.run_bind, run_underlying h2, Result.andThen_ok]
    cases d <;> first | rfl | exact absurd rfl (hu _) | exact absurd rfl (h1 _ _)
  · cases h

theorem cell_at {b : Nat} {cs : Array Value} {el : TypeId} {fr : Nat × Nat} (hb : w.heap[b]? = some (.cells cs el fr)) (off : Nat) : w.cell? ⟨b, off, none⟩ = cs[off]? := by
  simp [World.cell?, hb]

theorem frozen_at {b : Nat} {cs : Array Value} {el : TypeId} {fr : Nat × Nat} (hb : w.heap[b]? = some (.cells cs el fr)) (off : Nat) : w.frozen? ⟨b, off, none⟩ = (decide (fr.1 ≤ off) && decide (off < fr.2)) := by
  obtain ⟨lo, hi⟩ := fr
  simp [World.frozen?, hb]

theorem add_none (b off n : Nat) : (⟨b, off, none⟩ : Addr).add n = ⟨b, off + n, none⟩ := by
  unfold Addr.add; split
  · subst_vars; rfl
  · rfl

theorem run_loadCellsFrom {b off : Nat} {cs : Array Value} {el : TypeId} {fr : Nat × Nat} (hb : w.heap[b]? = some (.cells cs el fr)) :
    ∀ (n i : Nat) (acc : Array Value), off + i + n ≤ cs.size → (loadCellsFrom ⟨b, off, none⟩ i n acc).run P w = .ok (acc ++ ((cs.toList.drop (off + i)).take n).toArray) w
  | 0, i, acc, _ => by simp [loadCellsFrom]
  | n + 1, i, acc, h => by
    have hc : w.cell? ⟨b, off + i, none⟩ = some (cs[off + i]'(by omega)) := by rw [cell_at hb]; exact Array.getElem?_eq_getElem (by omega)
    simp only [loadCellsFrom, Sem.run_bind, add_none, run_load, hc, Result.andThen_ok]
    rw [run_loadCellsFrom hb n (i + 1) _ (by omega)]
    congr 1
    apply Array.toList_inj.1
    simp only [Array.toList_append, Array.toList_push, List.append_assoc]
    congr 1
    rw [List.drop_eq_getElem_cons (show off + i < cs.toList.length by simpa using (by omega : off + i < cs.size))]
    simp [Nat.add_assoc]

theorem run_loadCells {b off n : Nat} {cs : Array Value} {el : TypeId} {fr : Nat × Nat} (hb : w.heap[b]? = some (.cells cs el fr)) (h : off + n ≤ cs.size) :
    (loadCells ⟨b, off, none⟩ n).run P w = .ok ((cs.toList.drop off).take n).toArray w := by
  rw [loadCells, run_loadCellsFrom hb n 0 #[] (by omega)]; simp

theorem set_splice (v : Value) (vs : List Value) : ∀ (l : List Value) (n : Nat), n < l.length →
    (l.set n v).take (n + 1) ++ (vs ++ (l.set n v).drop (n + 1 + vs.length)) = l.take n ++ (v :: vs ++ l.drop (n + (vs.length + 1)))
  | [], n, h => by simp at h
  | x :: l, 0, _ => by simp [show 0 + 1 + vs.length = vs.length + 1 by omega]
  | x :: l, n + 1, h => by
    have := set_splice v vs l n (by simpa using h)
    simp only [List.set_cons_succ, List.take_succ_cons, List.cons_append, List.cons.injEq, true_and]
    rw [show n + 1 + 1 + vs.length = (n + 1 + vs.length) + 1 by omega, show n + 1 + (vs.length + 1) = (n + (vs.length + 1)) + 1 by omega, List.drop_succ_cons, List.drop_succ_cons]
    simpa using this

/-- Cells written one behind the other. -/
theorem run_storeCells {b off : Nat} {el : TypeId} {fr : Nat × Nat} : ∀ (vs : List Value) (i : Nat) (cs : Array Value) (w : World), w.heap[b]? = some (.cells cs el fr) → off + i + vs.length ≤ cs.size →
    (∀ v ∈ vs, oneCellB v = true) → (∀ k, k < vs.length → ¬ (fr.1 ≤ off + i + k ∧ off + i + k < fr.2)) →
    (storeCells ⟨b, off, none⟩ vs i).run P w = .ok () { w with heap := w.heap.setIfInBounds b (.cells (cs.toList.take (off + i) ++ (vs ++ cs.toList.drop (off + i + vs.length))).toArray el fr) }
  | [], i, cs, w, hb, _, _, _ => by
    simp only [storeCells, Sem.run_pure, List.length_nil, Nat.add_zero, List.nil_append, List.take_append_drop]
    congr 1
    have : w.heap.setIfInBounds b (.cells cs.toList.toArray el fr) = w.heap := by
      apply Array.ext_getElem?
      intro k
      rw [Array.getElem?_setIfInBounds]
      split
      · subst_vars; split
        · simp [hb]
        · rename_i h; simp at h; simp [Array.getElem?_eq_none h]
      · rfl
    rw [this]
  | v :: vs, i, cs, w, hb, h, h1, h2 => by
    simp only [List.length_cons] at h
    have hlt : off + i < cs.size := by omega
    have hc : w.cell? ⟨b, off + i, none⟩ = some (cs[off + i]'hlt) := by rw [cell_at hb]; exact Array.getElem?_eq_getElem hlt
    have hf : w.frozen? ⟨b, off + i, none⟩ = false := by
      rw [frozen_at hb]
      have := h2 0 (by simp)
      simp only [Nat.add_zero] at this
      cases e : (decide (fr.1 ≤ off + i) && decide (off + i < fr.2)) with
      | false => rfl
      | true => simp at e; exact absurd e this
    have hs : w.setCell ⟨b, off + i, none⟩ v = { w with heap := w.heap.setIfInBounds b (.cells (cs.setIfInBounds (off + i) v) el fr) } := by
      unfold World.setCell
      congr 1
      apply Array.ext_getElem?
      intro k
      simp only [Array.getElem?_modify, Array.getElem?_setIfInBounds]
      by_cases e : b = k
      · subst e
        have hlt' : b < w.heap.size := by
          rcases Nat.lt_or_ge b w.heap.size with h | h
          · exact h
          · simp [Array.getElem?_eq_none h] at hb
        have hb' : w.heap[b] = .cells cs el fr := by rw [Array.getElem?_eq_getElem hlt'] at hb; exact Option.some.inj hb
        simp [hlt', hb']
      · simp [e]
    simp only [storeCells, Sem.run_bind, add_none]
    rw [run_store P w _ v _ (by rw [oneCellB_eq]; exact h1 v (by simp)), hc]
    simp only [hf, Bool.false_eq_true, if_false, Result.andThen_ok, hs]
    have hlt' : b < w.heap.size := by
      rcases Nat.lt_or_ge b w.heap.size with h | h
      · exact h
      · simp [Array.getElem?_eq_none h] at hb
    rw [run_storeCells (el := el) (fr := fr) vs (i + 1) (cs.setIfInBounds (off + i) v) _ (by simp [hlt']) (by simp; omega) (fun u hu => h1 u (by simp [hu]))
      (fun k hk => by have := h2 (k + 1) (by simp; omega); rw [show off + (i + 1) + k = off + i + (k + 1) by omega]; exact this)]
    congr 1
    simp only [World.mk.injEq, and_true]
    apply Array.ext_getElem?
    intro k
    simp only [Array.getElem?_setIfInBounds]
    by_cases e : b = k
    · subst e
      simp only [hlt', Array.size_setIfInBounds, if_true, Option.some.injEq, Obj.cells.injEq, and_true]
      apply Array.toList_inj.1
      simp only [Array.toList_setIfInBounds, List.length_cons]
      exact set_splice v vs cs.toList (off + i) (by simpa using hlt)
    · simp [e]
end runs
end Go.Ev

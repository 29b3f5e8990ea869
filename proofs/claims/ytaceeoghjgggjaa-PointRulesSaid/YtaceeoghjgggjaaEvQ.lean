/-
  Regions where an order is open among the first operations alone: those change nothing that was there; the rest may.
-/
import Derived.Test.YtaceeoghjgggjaaEvNat
set_option linter.unusedSimpArgs false
set_option linter.unusedVariables false
namespace Go.Ev
section
variable {T : Tab} {b : Nat}
theorem evOps_append : ∀ (o1 o2 : List AOper) (s : St) (recs : List Rec), evOps T b (o1 ++ o2) s recs = (evOps T b o1 s recs).bind fun r => evOps T b o2 r.1 r.2
  | [], o2, s, recs => by rw [evOps_nil]; rfl
  | o :: o1, o2, s, recs => by
    rw [List.cons_append, evOps_cons, evOps_cons]
    cases hg : guardOf s.env o.guard with
    | none => rfl
    | some g =>
      cases g with
      | false => exact evOps_append o1 o2 _ _
      | true =>
        cases hx : evOper T o.op s.env s.h with
        | none => simp [hx]
        | some x =>
          simp only [hx, Option.bind_some]
          exact evOps_append o1 o2 _ _
theorem evOps_more : ∀ (ops : List AOper) (s : St) (recs : List Rec) (s' : St), steps T b false ops s = some s' → ∃ m, evOps T b ops s recs = some (s', recs ++ m)
  | [], s, recs, s', h => by
    simp only [steps, Option.some.injEq] at h
    subst h
    exact ⟨[], by rw [evOps_nil, List.append_nil]⟩
  | o :: r, s, recs, s', h => by
    rw [evOps_cons]
    unfold steps at h
    cases hg : guardOf s.env o.guard with
    | none => simp only [hg] at h; cases h
    | some g =>
      simp only [hg] at h
      cases g with
      | false =>
        obtain ⟨m, h1⟩ := evOps_more r _ (recs ++ [(some [], [])]) s' h
        exact ⟨(some [], []) :: m, by rw [h1]; simp⟩
      | true =>
        cases hx : evOper T o.op s.env s.h with
        | none => simp [hx] at h
        | some x =>
          simp only [hx, Option.bind_some, Bool.false_and, Bool.false_eq_true, if_false] at h
          obtain ⟨m, h1⟩ := evOps_more r _ (recs ++ [(x.2.2.1, x.2.2.2)]) s' h
          exact ⟨(x.2.2.1, x.2.2.2) :: m, by simp only [hx, Option.bind_some]; rw [h1]; simp⟩
theorem pairsOk_app {r1 r2 : List Rec} : ∀ {pairs : List (Nat × Nat)}, (pairs.all fun p => decide (p.1 < r1.length) && decide (p.2 < r1.length)) = true → pairsOk r1 pairs = true → pairsOk (r1 ++ r2) pairs = true
  | [], _, _ => rfl
  | (i, j) :: ps, h, k => by
    simp only [List.all_cons, Bool.and_eq_true, decide_eq_true_eq] at h
    simp only [pairsOk, List.all_cons, Bool.and_eq_true] at k ⊢
    have ih := pairsOk_app (r1 := r1) (r2 := r2) (pairs := ps) h.2 k.2
    simp only [pairsOk] at ih
    refine ⟨?_, ih⟩
    rw [List.getElem?_append_left h.1.1, List.getElem?_append_left h.1.2]
    exact k.1
def lastOf : List (Nat × Nat) → Nat
  | [] => 0
  | (_, j) :: r => if j + 1 ≤ lastOf r then lastOf r else j + 1
theorem lastOf_nil : lastOf [] = 0 := rfl
theorem lastOf_cons {i j : Nat} {r : List (Nat × Nat)} : lastOf ((i, j) :: r) = if j + 1 ≤ lastOf r then lastOf r else j + 1 := rfl
def quiet2 (T : Tab) (b : Nat) (ops : List AOper) (pairs : List (Nat × Nat)) (s : St) : Option St :=
  gate ((pairs.all fun p => decide (p.1 < lastOf pairs) && decide (p.2 < lastOf pairs)) = true ∧ lastOf pairs ≤ ops.length)
    ((steps T b true (ops.take (lastOf pairs)) s).bind fun s1 => steps T b false (ops.drop (lastOf pairs)) s1)
theorem quiet2_eq {ops : List AOper} {pairs : List (Nat × Nat)} {s : St} : quiet2 T b ops pairs s = gate ((pairs.all fun p => decide (p.1 < lastOf pairs) && decide (p.2 < lastOf pairs)) = true ∧ lastOf pairs ≤ ops.length)
    ((steps T b true (ops.take (lastOf pairs)) s).bind fun s1 => steps T b false (ops.drop (lastOf pairs)) s1) := Eq.trans rfl rfl
theorem fs_regionQ {ops : List AOper} {keep : Option (List Nat)} {p : Nat × Nat} {ps : List (Nat × Nat)} {s : St} : evCode T b (.region ops keep (p :: ps)) s = qElse ((quiet2 T b ops (p :: ps) s).bind fun s' => some (.normal, s'.after keep)) (inText T b (.region ops keep (p :: ps)) s) := by
  cases hq : quiet2 T b ops (p :: ps) s with
  | none => rfl
  | some s' =>
    simp only [Option.bind_some, qElse]
    unfold quiet2 gate at hq
    split at hq
    · rename_i hp
      simp only [Option.bind_eq_some_iff] at hq
      obtain ⟨s1, k1, k2⟩ := hq
      obtain ⟨recs, h1, h2, h3⟩ := evOps_quiet _ s [] s1 k1 (by simp)
      obtain ⟨m, h4⟩ := evOps_more _ s1 recs s' k2
      simp only [List.length_nil, Nat.zero_add, List.length_take, Nat.min_eq_left hp.2] at h3
      rw [evCode_region]
      conv => lhs; rw [← List.take_append_drop (lastOf (p :: ps)) ops]
      rw [evOps_append, h1]
      simp only [Option.bind_some, h4]
      have hpk := hp.1
      rw [← h3] at hpk
      rw [if_pos (pairsOk_app hpk (pairsOk_quiet h2 hpk))]
    · cases hq
end
end Go.Ev

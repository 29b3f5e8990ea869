/-
  A region whose order is open: in whatever order, the outcome is the evaluator's.
-/
import Derived.Test.YtaceeoghjgggjaaEvSeq
set_option linter.unusedSimpArgs false
set_option linter.unusedVariables false
namespace Go.Ev
open Go.RowKit

theorem RelF.forget2 {ρ : Pl} {c c' : Nat → Option Ob} {w : World} (h : RelF ρ c w) (hc : ∀ id ob, ρ id ≠ none → c' id = some ob → ob.live = true → c id = some ob) : RelF ρ c' w :=
  ⟨h.bound, fun id ob pl h1 h2 h3 => h.obj id ob pl (hc id ob (by rw [h2]; simp) h1 h3) h2 h3,
    fun i j oi oj pi pj h1 h2 h3 h4 h5 h6 h7 h8 => h.inj i j oi oj pi pj (hc i oi (by rw [h3]; simp) h1 h5) (hc j oj (by rw [h4]; simp) h2 h7) h3 h4 h5 h6 h7 h8⟩

theorem foldl_get {α β : Type} (f : List β → α → β) : ∀ (l : List α) (init : List β), (l.foldl (fun acc o => acc ++ [f acc o]) init).length = init.length + l.length ∧ (∀ k, k < init.length → (l.foldl (fun acc o => acc ++ [f acc o]) init)[k]? = init[k]?) ∧
    ∀ (k : Nat) o, l[k]? = some o → (l.foldl (fun acc o => acc ++ [f acc o]) init)[init.length + k]? = some (f ((l.foldl (fun acc o => acc ++ [f acc o]) init).take (init.length + k)) o)
  | [], init => by simp
  | x :: l, init => by
    obtain ⟨h1, h2, h3⟩ := foldl_get f l (init ++ [f init x])
    simp only [List.foldl_cons]
    refine ⟨by rw [h1]; simp; omega, fun k hk => by rw [h2 k (by simp; omega), List.getElem?_append_left hk], fun k o hk => ?_⟩
    cases k with
    | zero =>
      simp at hk; subst hk
      rw [Nat.add_zero, h2 init.length (by simp)]
      have : (l.foldl (fun acc o => acc ++ [f acc o]) (init ++ [f init x])).take init.length = init := by
        apply List.ext_getElem?
        intro i
        rw [List.getElem?_take]
        split
        · rename_i hi
          rw [h2 i (by simp; omega), List.getElem?_append_left hi]
        · rw [List.getElem?_eq_none (by omega)]
      rw [this]; simp
    | succ k =>
      have := h3 k o (by simpa using hk)
      simp only [List.length_append, List.length_singleton] at this
      rw [show init.length + (k + 1) = init.length + 1 + k by omega]
      exact this

theorem upOf_bit : ∀ (es : List Edge) (acc : List Nat) (u i : Nat), (es.foldl (fun u e => if Region.binds .any e then u ||| (2 ^ e.on ||| acc.getD e.on 0) else u) u).testBit i = true →
    u.testBit i = true ∨ ∃ e ∈ es, Region.binds .any e = true ∧ (i = e.on ∨ (acc.getD e.on 0).testBit i = true)
  | [], acc, u, i, h => .inl h
  | e :: es, acc, u, i, h => by
    simp only [List.foldl_cons] at h
    rcases upOf_bit es acc _ i h with h1 | ⟨e', h1, h2, h3⟩
    · split at h1
      · rename_i hb
        rw [Nat.testBit_or, Nat.testBit_or, Bool.or_eq_true, Bool.or_eq_true, Nat.testBit_two_pow] at h1
        rcases h1 with h1 | h1 | h1
        · exact .inl h1
        · exact .inr ⟨e, by simp, hb, .inl (by have h1' := of_decide_eq_true h1; omega)⟩
        · exact .inr ⟨e, by simp, hb, .inr h1⟩
      · exact .inl h1
    · exact .inr ⟨e', by simp [h1], h2, h3⟩

/-- What is done already holds all that stands ahead of it. -/
theorem ups_listed {ops : List Oper} {L : Nat → Prop} (hd : ∀ j o, L j → ops[j]? = some o → ∀ e ∈ o.after.toList, Region.binds .any e = true → L e.on) : ∀ (j : Nat), L j → ∀ i, ((upsOf ops).getD j 0).testBit i = true → L i := by
  intro j
  induction j using Nat.strongRecOn with
  | _ j ih =>
    intro hj i hi
    obtain ⟨h1, h2, h3⟩ := foldl_get (fun acc (o : Oper) => upOf acc o.after.toList) ops []
    cases ho : ops[j]? with
    | none =>
      have : (upsOf ops).getD j 0 = 0 := by
        have hl : (upsOf ops).length = ops.length := by have := h1; simpa [upsOf] using this
        rw [List.getD_eq_getElem?_getD, List.getElem?_eq_none]
        · rfl
        · rw [hl]; exact List.getElem?_eq_none_iff.1 ho
      rw [this] at hi; simp at hi
    | some o =>
      have h4 := h3 j o ho
      simp only [List.length_nil, Nat.zero_add] at h4
      have h5 : (upsOf ops)[j]? = some (upOf ((upsOf ops).take j) o.after.toList) := h4
      rw [List.getD_eq_getElem?_getD, h5, Option.getD_some] at hi
      rcases upOf_bit _ _ _ _ hi with h6 | ⟨e, h6, h7, h8⟩
      · simp at h6
      · have he := hd j o hj ho e h6 h7
        rcases h8 with rfl | h8
        · exact he
        · have hlt : e.on < j := by
            rcases Nat.lt_or_ge e.on j with h | h
            · exact h
            · rw [List.getD_eq_getElem?_getD, List.getElem?_eq_none (by simp; omega)] at h8; simp at h8
          refine ih e.on hlt he i ?_
          rw [List.getD_eq_getElem?_getD, List.getElem?_take, if_pos hlt, ← List.getD_eq_getElem?_getD] at h8
          exact h8

theorem idx_mem {α : Type} {l : List α} {i : Nat} {x : α} (h : l[i]? = some x) : (i, x) ∈ idx l := by
  unfold idx
  rw [List.mem_iff_getElem?]
  refine ⟨i, ?_⟩
  have hlt := (List.getElem?_eq_some_iff.1 h).1
  rw [List.getElem?_zip_eq_some]
  exact ⟨by rw [List.getElem?_range hlt], h⟩

theorem upsOf_len (ops : List Oper) : (upsOf ops).length = ops.length := by
  have := (foldl_get (fun acc (o : Oper) => upOf acc o.after.toList) ops []).1
  simpa [upsOf] using this

theorem open_mem {ops : List Oper} {i j : Nat} (hij : i < j) (hj : j < ops.length) (h : ((upsOf ops).getD j 0).testBit i = false) : (i, j) ∈ openPairs (upsOf ops) := by
  unfold openPairs
  rw [List.mem_flatMap]
  have hl := upsOf_len ops
  refine ⟨(j, (upsOf ops)[j]'(by omega)), idx_mem (List.getElem?_eq_getElem (by omega)), ?_⟩
  simp only [List.mem_map, List.mem_filter, List.mem_range, Prod.mk.injEq]
  refine ⟨i, ⟨hij, ?_⟩, by simp⟩
  rw [List.getD_eq_getElem?_getD, List.getElem?_eq_getElem (by omega), Option.getD_some] at h
  simp [h]

theorem getD_of (l : Array Bool) (j : Nat) : l.getD j true = true ∨ (l.getD j false = false ∧ j < l.size) := by
  simp only [Array.getD_eq_getD_getElem?]
  rcases Nat.lt_or_ge j l.size with h | h
  · rw [Array.getElem?_eq_getElem h]
    simp only [Option.getD_some]
    cases l[j] <;> simp [h]
  · left; rw [Array.getElem?_eq_none h]; rfl

theorem count_set {l : List Bool} {k : Nat} (h : l[k]? = some false) : (l.set k true).count false + 1 = l.count false := by
  induction l generalizing k with
  | nil => simp at h
  | cons b l ih =>
    cases k with
    | zero => simp at h; subst h; simp
    | succ k => simp at h; have := ih h; simp only [List.set_cons_succ, List.count_cons]; omega

def touches (r : Rec) (id : Nat) : Prop := match r.1 with | some l => id ∈ l | none => True

theorem apart_spec {r s : Rec} (h : apartOf r s = true) : (∀ id ∈ r.2, ¬ touches s id) ∧ (∀ id ∈ s.2, ¬ touches r id) := by
  unfold apartOf at h
  simp only [Bool.and_eq_true, Bool.or_eq_true, List.isEmpty_iff] at h
  obtain ⟨h1, h2⟩ := h
  constructor
  · intro id hid ht
    rcases h1 with h1 | h1
    · rw [h1] at hid; simp at hid
    · unfold touches at ht
      split at h1
      · rename_i l hl
        rw [hl] at ht
        have := List.all_eq_true.1 h1 id hid
        simp at this; exact this ht
      · cases h1
  · intro id hid ht
    rcases h2 with h2 | h2
    · rw [h2] at hid; simp at hid
    · unfold touches at ht
      split at h2
      · rename_i l hl
        rw [hl] at ht
        have := List.all_eq_true.1 h2 id hid
        simp at this; exact this ht
      · cases h2

section
variable {P : Program} {n base : Nat} {ops : Array Oper} {aops : List AOper} {s s' : St} {recs : List Rec} {S : Nat → St} {R : Nat → Rec}

def Changed (S : Nat → St) (i id : Nat) : Prop := id < (S i).h.length ∧ (S (i + 1)).h[id]? ≠ (S i).h[id]?

structure Inv (P : Program) (ops : Array Oper) (S : Nat → St) (R : Nat → Rec) (ρ0 : Pl) (a0 : Act) (w0 : World) (listed : Array Bool) (a : Act) (w : World) (ρ : Pl) (c : Nat → Option Ob) : Prop where
  size : listed.size = ops.size
  down : ∀ (j : Nat) o, listed.getD j false = true → ops.toList[j]? = some o → ∀ e ∈ o.after.toList, Region.binds .any e = true → listed.getD e.on false = true
  rel : RelF ρ c w
  le : PlLe ρ0 ρ
  dom : ∀ id pl, ρ id = some pl → ρ0 id = none → ∃ k, k < ops.size ∧ listed.getD k false = true ∧ (S k).h.length ≤ id ∧ id < (S (k + 1)).h.length
  con : ∀ j, j ≤ ops.size → listed.getD j false = false → ∀ id pl, ρ id = some pl → id < (S j).h.length → (j = ops.size ∨ touches (R j) id) → (∀ i, i < j → listed.getD i false = false → ¬ Changed S i id) → c id = (S j).h[id]?
  env : ∀ j, j ≤ ops.size → listed.getD j false = false → ∀ t, (j = ops.size ∨ ∃ o, ops.toList[j]? = some o ∧ t ∈ namesOf ops.toList o) → (∀ i, i < j → listed.getD i false = false → ∀ o, ops.toList[i]? = some o → o.dst ≠ some t) →
    ∀ v, (S j).env.get t = some v → ∃ v', a.tmps[t]? = some v' ∧ VRel ρ v v'
  frm : Frm ρ0 ρ (hp (S 0).h) c w0 w
  flags : Flags ρ0 (hp (S 0).h) c
  there : ∀ i, listed.getD i false = true → ∀ id, Changed S i id → ρ id ≠ none
  pres : ∀ id, id < (S 0).h.length → ρ0 id = none → (∀ i, listed.getD i false = true → ¬ Changed S i id)
  defers : a.defers = []
  tsize : a.tmps.size = a0.tmps.size

theorem getD_set {l : Array Bool} {k j : Nat} (hk : k < l.size) : (l.setIfInBounds k true).getD j false = if j = k then true else l.getD j false := by
  simp only [Array.getD_eq_getD_getElem?, Array.getElem?_setIfInBounds]
  by_cases c : k = j
  · subst c; simp [hk]
  · simp [c, Ne.symm c]

variable (hc : compOpers P n ops.toList ops.toList = some aops) (ht : Trace P base aops s s' [] recs S R)
include hc ht

theorem chain_h {i j : Nat} (hij : i ≤ j) (hj : j ≤ ops.size) {id : Nat} (hid : id < (S i).h.length) (h : ∀ k, i ≤ k → k < j → ¬ Changed S k id) : (S j).h[id]? = (S i).h[id]? := by
  obtain ⟨hl, _⟩ := compOpers_get hc
  have hlen : aops.length = ops.size := by simpa using hl
  induction j with
  | zero => have : i = 0 := by omega
            subst this; rfl
  | succ j ih =>
    rcases Nat.lt_or_ge i (j + 1) with hlt | hge
    · have h1 := ih (by omega) (by omega) fun k a b => h k a (by omega)
      have h2 := h j (by omega) (by omega)
      have h3 := (ht.cabs (i := i) (j := j) (by omega) (by omega)).len
      have h4 : (S (j + 1)).h[id]? = (S j).h[id]? := by
        apply Classical.byContradiction
        intro hne
        exact h2 ⟨by omega, hne⟩
      rw [h4, h1]
    · have : i = j + 1 := by omega
      subst this; rfl

theorem step_env {j : Nat} (hj : j < ops.size) {t : Nat} (h : ∀ o, ops.toList[j]? = some o → o.dst ≠ some t) : (S (j + 1)).env.get t = (S j).env.get t := by
  obtain ⟨hl, hget⟩ := compOpers_get hc
  have hjl : j < ops.toList.length := by simpa using hj
  obtain ⟨ao, ha1, ha2, ha3, _⟩ := hget j _ (List.getElem?_eq_getElem hjl)
  have hd := h _ (List.getElem?_eq_getElem hjl)
  rw [← ha3] at hd
  rcases ht.step j ao ha1 with ⟨_, v, H', tt, M, _, hs, _⟩ | ⟨_, hs, _⟩ <;> (rw [hs]; simp only [get_put, if_neg hd])

theorem chain_env {i j : Nat} (hij : i ≤ j) (hj : j ≤ ops.size) {t : Nat} (h : ∀ k, i ≤ k → k < j → ∀ o, ops.toList[k]? = some o → o.dst ≠ some t) : (S j).env.get t = (S i).env.get t := by
  induction j with
  | zero => have : i = 0 := by omega
            subst this; rfl
  | succ j ih =>
    rcases Nat.lt_or_ge i (j + 1) with hlt | hge
    · rw [step_env hc ht (by omega) (h j (by omega) (by omega)), ih (by omega) (by omega) fun k a b => h k a (by omega)]
    · have : i = j + 1 := by omega
      subst this; rfl

theorem changed_mem {i id : Nat} (hi : i < ops.size) (h : Changed S i id) : id ∈ (R i).2 ∧ touches (R i) id := by
  obtain ⟨hl, hget⟩ := compOpers_get hc
  have hjl : i < ops.toList.length := by simpa using hi
  obtain ⟨ao, ha1, _⟩ := hget i _ (List.getElem?_eq_getElem hjl)
  have hst := ht.step i ao ha1
  have hM : id ∈ (R i).2 := by
    apply Classical.byContradiction
    intro hn
    exact h.2 (hst.abs.1.log id h.1 hn)
  refine ⟨hM, ?_⟩
  rcases hst with ⟨_, v, H', tt, M, hg, _, hr⟩ | ⟨_, _, hr⟩
  · rw [hr] at hM ⊢
    cases tt with
    | none => trivial
    | some l => exact hg.mt l rfl id hM
  · rw [hr] at hM; simp at hM

theorem len_mono {i j : Nat} (hij : i ≤ j) (hj : j ≤ ops.size) : (S i).h.length ≤ (S j).h.length := by
  obtain ⟨hl, _⟩ := compOpers_get hc
  have hlen : aops.length = ops.size := by simpa using hl
  exact (ht.cabs hij (by omega)).len

end
end Go.Ev

/-
  Putting the effect of one operation into a greater heap; one step behind the other.
-/
import Derived.Test.YtaceeoghjgggjaaEvAbs
set_option linter.unusedSimpArgs false
set_option linter.unusedVariables false
namespace Go.Ev
open Go.RowKit

/-- The heap behind an operation that was looked at over a part of the heap. -/
def mergeC (c : Nat → Option Ob) (G' : List Ob) (M : List Nat) (n : Nat) : Nat → Option Ob := fun id => if id ∈ M ∨ (n ≤ id ∧ id < G'.length) then G'[id]? else c id

theorem merge_rel {ρ ρ' : Pl} {c : Nat → Option Ob} {G G' : List Ob} {M : List Nat} {w w' : World} (hc : RelF ρ c w) (hsub : ∀ (id : Nat) ob, G[id]? = some ob → ob.live = true → ρ id ≠ none → c id = some ob)
    (hext : Ext ρ ρ' G.length G'.length) (hfree : Free ρ G.length G'.length) (hr : RelF ρ' (hp G') w') (hf : Frm ρ ρ' (hp G) (hp G') w w') (ha : AbsOk G G' M) : RelF ρ' (mergeC c G' M G.length) w' := by
  have hold : ∀ {id pl}, ρ' id = some pl → ¬ (G.length ≤ id ∧ id < G'.length) → ρ id = some pl := by
    intro id pl h hn
    cases hρ : ρ id with
    | none => exact absurd (hext.dom id pl h hρ) hn
    | some p => have := hext.le id p hρ; rw [h] at this; cases this; rfl
  -- an object behind the step is one of the part's, or one outside it that is as it was
  have hcl : ∀ {id ob pl}, mergeC c G' M G.length id = some ob → ρ' id = some pl → ob.live = true → hp G' id = some ob ∨ (c id = some ob ∧ ρ id = some pl ∧ ∀ ob2, hp G id = some ob2 → ob2.live = false) := by
    intro id ob pl h hp' hl
    unfold mergeC at h
    split at h
    · exact .inl h
    · rename_i hn
      have hn' : id ∉ M ∧ ¬ (G.length ≤ id ∧ id < G'.length) := ⟨fun hm => hn (.inl hm), fun hm => hn (.inr hm)⟩
      have hρ := hold hp' hn'.2
      by_cases hlv : ∃ ob2, hp G id = some ob2 ∧ ob2.live = true
      · obtain ⟨ob2, h2, h3⟩ := hlv
        have hid : id < G.length := (List.getElem?_eq_some_iff.1 h2).1
        have := hsub id ob2 h2 h3 (by rw [hρ]; simp)
        rw [h] at this; cases this
        left
        show G'[id]? = _
        rw [ha.log id hid hn'.1]; exact h2
      · refine .inr ⟨h, hρ, fun ob2 h2 => ?_⟩
        cases hl2 : ob2.live with
        | false => rfl
        | true => exact absurd ⟨ob2, h2, hl2⟩ hlv
  have hown : ∀ {id ob pl}, hp G' id = some ob → ρ id = some pl → ob.live = true → ∃ ob2, hp G id = some ob2 ∧ ob2.live = true ∧ ob2.own = ob.own := by
    intro id ob pl h hρ hl
    have hid' : id < G'.length := (List.getElem?_eq_some_iff.1 h).1
    rcases Nat.lt_or_ge id G.length with hlt | hge
    · exact ha.flags id ob hlt h hl
    · have := hfree id hge hid'; rw [this] at hρ; cases hρ
  refine ⟨hr.bound, ?_, ?_⟩
  · intro id ob pl h hp' hl
    rcases hcl h hp' hl with h1 | ⟨h1, h2, h3⟩
    · exact hr.obj id ob pl h1 hp' hl
    · refine (hc.obj id ob pl h1 h2 hl).same_block hext.le (hf.blocks _ (hc.bound _ _ h2) fun i oi pi a1 a2 a3 a4 hb => ?_)
      have hi : i ≠ id := fun e => by subst e; rw [h3 oi a1] at a3; cases a3
      exact hc.inj i id oi ob pi pl (hsub i oi a1 a3 (by rw [a2]; simp)) h1 a2 h2 a3 a4 hl hi hb
  · intro i j oi oj pi pj hi hj hpi hpj a1 a2 a3 hij
    rcases hcl hi hpi a1 with h1 | ⟨h1, h2, h3⟩ <;> rcases hcl hj hpj a3 with k1 | ⟨k1, k2, k3⟩
    · exact hr.inj i j oi oj pi pj h1 k1 hpi hpj a1 a2 a3 hij
    · cases hρ : ρ i with
      | some p =>
        have := hext.le i p hρ; rw [hpi] at this; cases this
        obtain ⟨o2, b1, b2, b3⟩ := hown h1 hρ a1
        exact hc.inj i j o2 oj pi pj (hsub i o2 b1 b2 (by rw [hρ]; simp)) k1 hρ k2 b2 (b3.trans a2) a3 hij
      | none =>
        have hb := hc.bound _ _ k2
        rcases hf.fresh i pi hpi hρ with h | ⟨i0, o0, p0, b1, b2, b3, b4, b5, _⟩
        · omega
        · have hne : i0 ≠ j := fun e => by subst e; rw [k3 o0 b1] at b3; cases b3
          rw [← b5]
          exact hc.inj i0 j o0 oj p0 pj (hsub i0 o0 b1 b3 (by rw [b2]; simp)) k1 b2 k2 b3 b4 a3 hne
    · cases hρ : ρ j with
      | some p =>
        have := hext.le j p hρ; rw [hpj] at this; cases this
        obtain ⟨o2, b1, b2, b3⟩ := hown k1 hρ a3
        exact hc.inj i j oi o2 pi pj h1 (hsub j o2 b1 b2 (by rw [hρ]; simp)) h2 hρ a1 a2 b2 hij
      | none =>
        have hb := hc.bound _ _ h2
        rcases hf.fresh j pj hpj hρ with h | ⟨i0, o0, p0, b1, b2, b3, b4, b5, _⟩
        · omega
        · have hne : i0 ≠ i := fun e => by subst e; rw [h3 o0 b1] at b3; cases b3
          rw [← b5]
          exact fun e => hc.inj i0 i o0 oi p0 pi (hsub i0 o0 b1 b3 (by rw [b2]; simp)) h1 b2 h2 b3 b4 a1 hne e.symm
    · exact hc.inj i j oi oj pi pj h1 k1 h2 k2 a1 a2 a3 hij

/-- No dead object is alive again. -/
def Flags (ρ : Pl) (c c' : Nat → Option Ob) : Prop := ∀ id ob' pl, ρ id = some pl → c' id = some ob' → ob'.live = true → ∃ ob, c id = some ob ∧ ob.live = true ∧ ob.own = ob'.own

theorem merge_flags {ρ ρ' : Pl} {c : Nat → Option Ob} {G G' : List Ob} {M : List Nat} (hsub : ∀ (id : Nat) ob, G[id]? = some ob → ob.live = true → ρ id ≠ none → c id = some ob) (hfree : Free ρ G.length G'.length) (ha : AbsOk G G' M) :
    Flags ρ c (mergeC c G' M G.length) := by
  intro id ob' pl hρ h hl
  unfold mergeC at h
  split at h
  · rename_i hm
    have hid' : id < G'.length := (List.getElem?_eq_some_iff.1 h).1
    rcases Nat.lt_or_ge id G.length with hlt | hge
    · obtain ⟨o2, b1, b2, b3⟩ := ha.flags id ob' hlt h hl
      exact ⟨o2, hsub id o2 b1 b2 (by rw [hρ]; simp), b2, b3⟩
    · have := hfree id hge hid'; rw [this] at hρ; cases hρ
  · exact ⟨ob', h, hl, rfl⟩

theorem merge_frm {ρ ρ' : Pl} {c : Nat → Option Ob} {G G' : List Ob} {M : List Nat} {w w' : World} (hsub : ∀ (id : Nat) ob, G[id]? = some ob → ob.live = true → ρ id ≠ none → c id = some ob) (hf : Frm ρ ρ' (hp G) (hp G') w w') (ha : AbsOk G G' M) :
    Frm ρ ρ' c (mergeC c G' M G.length) w w' := by
  refine ⟨hf.os, hf.tape, hf.output, hf.size, fun b hb k => hf.blocks b hb fun id ob pl h1 h2 h3 h4 => k id ob pl (hsub id ob h1 h3 (by rw [h2]; simp)) h2 h3 h4, fun id pl h1 h2 => ?_⟩
  rcases hf.fresh id pl h1 h2 with h | ⟨i, ob, p0, b1, b2, b3, b4, b5, b6⟩
  · exact .inl h
  · refine .inr ⟨i, ob, p0, hsub i ob b1 b3 (by rw [b2]; simp), b2, b3, b4, b5, fun ob' h' => ?_⟩
    have hid : i < G.length := (List.getElem?_eq_some_iff.1 b1).1
    have hM : i ∈ M := by
      apply Classical.byContradiction
      intro hn
      have := b6 ob (by show G'[i]? = _; rw [ha.log i hid hn]; exact b1)
      rw [b3] at this; cases this
    unfold mergeC at h'
    rw [if_pos (.inl hM)] at h'
    exact b6 ob' h'

theorem Frm.trans {ρ ρ1 ρ2 : Pl} {c c1 c2 : Nat → Option Ob} {w w1 w2 : World} (h : Frm ρ ρ1 c c1 w w1) (k : Frm ρ1 ρ2 c1 c2 w1 w2) (hle : PlLe ρ ρ1) (hle2 : PlLe ρ1 ρ2) (f1 : Flags ρ c c1) (f2 : Flags ρ c1 c2) : Frm ρ ρ2 c c2 w w2 := by
  have hnone : ∀ {id pl}, ρ1 id = some pl → ρ id = none ∨ ρ id = some pl := by
    intro id pl h
    cases hρ : ρ id with
    | none => exact .inl rfl
    | some p => have := hle id p hρ; rw [h] at this; cases this; exact .inr rfl
  refine ⟨k.os.trans h.os, k.tape.trans h.tape, k.output.trans h.output, Nat.le_trans h.size k.size, fun b hb hn => ?_, fun id pl h2 h0 => ?_⟩
  · have e1 := h.blocks b hb hn
    rw [k.blocks b (Nat.lt_of_lt_of_le hb h.size) fun id ob pl a1 a2 a3 a4 hbe => ?_]
    · exact e1
    · rcases hnone a2 with hρ | hρ
      · rcases h.fresh id pl a2 hρ with h5 | ⟨i, oi, p0, b1, b2, b3, b4, b5, b6⟩
        · omega
        · exact hn i oi p0 b1 b2 b3 b4 (b5.trans hbe)
      · obtain ⟨o2, b1, b2, b3⟩ := f1 id ob pl hρ a1 a3
        exact hn id o2 pl b1 hρ b2 (b3.trans a4) hbe
  · cases h1 : ρ1 id with
    | some p =>
      have hpp := hle2 id p h1
      rw [h2] at hpp; cases hpp
      rcases h.fresh id pl h1 h0 with h5 | ⟨i, oi, p0, b1, b2, b3, b4, b5, b6⟩
      · exact .inl h5
      · refine .inr ⟨i, oi, p0, b1, b2, b3, b4, b5, fun ob' h' => ?_⟩
        cases hl : ob'.live with
        | false => rfl
        | true =>
          obtain ⟨o2, g1, g2, _⟩ := f2 i ob' p0 b2 h' hl
          rw [b6 o2 g1] at g2; cases g2
    | none =>
      rcases k.fresh id pl h2 h1 with h5 | ⟨i, oi, p0, b1, b2, b3, b4, b5, b6⟩
      · exact .inl (Nat.le_trans h.size h5)
      · rcases hnone b2 with hρ | hρ
        · rcases h.fresh i p0 b2 hρ with h6 | ⟨i', oi', p0', d1, d2, d3, d4, d5, d6⟩
          · left; omega
          · refine .inr ⟨i', oi', p0', d1, d2, d3, d4, d5.trans b5, fun ob' h' => ?_⟩
            cases hl : ob'.live with
            | false => rfl
            | true =>
              obtain ⟨o2, g1, g2, _⟩ := f2 i' ob' p0' d2 h' hl
              rw [d6 o2 g1] at g2; cases g2
        · obtain ⟨o2, g1, g2, g3⟩ := f1 i oi p0 hρ b1 b3
          exact .inr ⟨i, o2, p0, g1, hρ, g2, g3.trans b4, b5, b6⟩

end Go.Ev

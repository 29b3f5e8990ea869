/-
  What the evaluator itself keeps to: the heap grows, nothing that is dead comes back, what isn't noted as changed is as it was; an operation that tells what it touches asks for no more.
-/
import Derived.Test.YtaceeoghjgggjaaEvSimple
set_option linter.unusedSimpArgs false
set_option linter.unusedVariables false
namespace Go.Ev
open Go.RowKit

structure AbsOk (H H' : List Ob) (M : List Nat) : Prop where
  len : H.length ≤ H'.length
  flags : ∀ (id : Nat) ob', id < H.length → H'[id]? = some ob' → ob'.live = true → ∃ ob, H[id]? = some ob ∧ ob.live = true ∧ ob.own = ob'.own
  log : ∀ id : Nat, id < H.length → id ∉ M → H'[id]? = H[id]?
  ids : ∀ id ∈ M, id < H.length

theorem AbsOk.refl (H : List Ob) (M : List Nat) (h : ∀ id ∈ M, id < H.length) : AbsOk H H M := ⟨Nat.le_refl _, fun _ ob' _ h h' => ⟨ob', h, h', rfl⟩, fun _ _ _ => rfl, h⟩
theorem AbsOk.push (H : List Ob) (ob : Ob) : AbsOk H (H ++ [ob]) [] :=
  ⟨by simp, fun id ob' h1 h2 h3 => ⟨ob', by rw [List.getElem?_append_left h1] at h2; exact h2, h3, rfl⟩, fun id h _ => List.getElem?_append_left h, by simp⟩
theorem AbsOk.set {H : List Ob} {id : Nat} {ob ob' : Ob} (h : H[id]? = some ob) (hf : ob'.live = true → ob.live = true ∧ ob.own = ob'.own) : AbsOk H (H.set id ob') [id] := by
  have hid := (List.getElem?_eq_some_iff.1 h).1
  refine ⟨by simp, fun i o h1 h2 h3 => ?_, fun i h1 h2 => ?_, by simpa using hid⟩
  · rw [List.getElem?_set] at h2
    split at h2
    · subst_vars
      simp [hid] at h2; subst h2
      exact ⟨ob, h, (hf h3).1, (hf h3).2⟩
    · exact ⟨o, h2, h3, rfl⟩
  · rw [List.getElem?_set, if_neg (by simp at h2; omega)]
theorem AbsOk.trans {A B C : List Ob} {M M' N : List Nat} (h : AbsOk A B M) (k : AbsOk B C M') (hN : ∀ id, id ∈ N ↔ id ∈ M ∨ (id ∈ M' ∧ id < A.length)) : AbsOk A C N := by
  refine ⟨Nat.le_trans h.len k.len, fun id ob h1 h2 h3 => ?_, fun id h1 h2 => ?_, fun id hid => ?_⟩
  · obtain ⟨o1, a1, a2, a3⟩ := k.flags id ob (Nat.lt_of_lt_of_le h1 h.len) h2 h3
    obtain ⟨o2, b1, b2, b3⟩ := h.flags id o1 h1 a1 a2
    exact ⟨o2, b1, b2, b3.trans a3⟩
  · rw [hN] at h2
    rw [k.log id (Nat.lt_of_lt_of_le h1 h.len) (fun hm => h2 (.inr ⟨hm, h1⟩)), h.log id h1 fun hm => h2 (.inl hm)]
  · rcases (hN id).1 hid with h1 | h1
    · exact h.ids id h1
    · exact h1.2

theorem pureV_some {H : List Ob} {r : Option Value} {v : Value} {H' : List Ob} {t : Option (List Nat)} {M : List Nat} (h : pureV H r = some (v, H', t, M)) : r = some v ∧ H' = H ∧ t = some [] ∧ M = [] := pureV_inv h

theorem storeAt_abs {H H' : List Ob} {a : Addr} {vs : List Value} (h : storeAt H a vs = some H') : AbsOk H H' [a.block] := by
  obtain ⟨ob, h1, h2, h3, h4, h5, rfl⟩ := storeAt_inv h
  exact .set h1 fun _ => ⟨h2, rfl⟩

theorem simple_abs {e : Env} {H H' : List Ob} {v : Value} {t : Option (List Nat)} {M : List Nat} {ao : AOp} (h : simpleOp H e ao = some (v, H', t, M)) : AbsOk H H' M := by
  have hp : ∀ r, pureV H r = some (v, H', t, M) → AbsOk H H' M := fun r hr => by
    obtain ⟨_, rfl, _, rfl⟩ := pureV_inv hr
    exact .refl _ _ (by simp)
  cases ao <;> simp only [simpleOp] at h <;> first | exact hp _ h | skip
  case alloc z => simp only [Option.some.injEq, Prod.mk.injEq] at h; obtain ⟨_, rfl, _, rfl⟩ := h; exact .push _ _
  case box x =>
    simp only [Option.bind_eq_some_iff] at h
    obtain ⟨_, _, h⟩ := h
    split at h
    · simp only [Option.some.injEq, Prod.mk.injEq] at h; obtain ⟨_, rfl, _, rfl⟩ := h; exact .push _ _
    · cases h
  case load n a =>
    simp only [Option.bind_eq_some_iff] at h
    obtain ⟨_, _, h⟩ := h
    split at h
    · simp only [Option.bind_eq_some_iff] at h
      obtain ⟨_, _, h⟩ := h
      split at h
      · simp only [Option.bind_eq_some_iff, Option.some.injEq, Prod.mk.injEq] at h
        obtain ⟨_, _, _, rfl, _, rfl⟩ := h; exact .refl _ _ (by simp)
      · cases h
    · cases h
  case store n a x =>
    simp only [Option.bind_eq_some_iff] at h
    obtain ⟨_, _, _, _, h⟩ := h
    split at h
    · split at h
      · simp only [Option.bind_eq_some_iff, Option.some.injEq, Prod.mk.injEq] at h
        obtain ⟨H1, hst, _, rfl, _, rfl⟩ := h
        exact storeAt_abs hst
      · cases h
    · cases h
  case s2b x =>
    simp only [Option.bind_eq_some_iff] at h
    obtain ⟨_, _, h⟩ := h
    split at h
    · split at h
      · simp only [Option.some.injEq, Prod.mk.injEq] at h; obtain ⟨_, rfl, _, rfl⟩ := h; exact .push _ _
      · cases h
    · cases h
  case b2s x =>
    simp only [Option.bind_eq_some_iff] at h
    obtain ⟨_, _, h⟩ := h
    split at h
    · simp only [Option.bind_eq_some_iff, Option.some.injEq, Prod.mk.injEq] at h
      obtain ⟨_, _, _, _, _, rfl, _, rfl⟩ := h; exact .refl _ _ (by simp)
    · cases h
  case buildSlice cs l ps =>
    simp only [Option.bind_eq_some_iff, Option.some.injEq, Prod.mk.injEq] at h
    obtain ⟨_, _, _, _, _, rfl, _, rfl⟩ := h
    exact .push _ _
  case sliceSl es x lo hi mx =>
    simp only [Option.bind_eq_some_iff] at h
    obtain ⟨_, _, _, _, _, _, _, _, h⟩ := h
    split at h
    · simp only [Option.bind_eq_some_iff] at h
      obtain ⟨_, _, _, _, h⟩ := h
      split at h
      · simp only [Option.some.injEq, Prod.mk.injEq] at h; obtain ⟨_, rfl, _, rfl⟩ := h; exact .refl _ _ (by simp)
      · cases h
    · simp only [Option.bind_eq_some_iff, Option.some.injEq, Prod.mk.injEq] at h
      obtain ⟨_, _, _, rfl, _, rfl⟩ := h; exact .refl _ _ (by simp)
    · cases h
  case makeSlice z b l c =>
    simp only [Option.bind_eq_some_iff] at h
    obtain ⟨_, _, _, _, h⟩ := h
    split at h
    · split at h
      · simp only [Option.some.injEq, Prod.mk.injEq] at h; obtain ⟨_, rfl, _, rfl⟩ := h; exact .push _ _
      · cases h
    · cases h
  case append es b s x =>
    simp only [Option.bind_eq_some_iff] at h
    obtain ⟨sv, _, xv, _, h⟩ := h
    unfold appendV at h
    split at h
    · simp only [Option.bind_eq_some_iff] at h
      obtain ⟨n, _, new, _, h⟩ := h
      split at h
      · simp only [Option.some.injEq, Prod.mk.injEq] at h; obtain ⟨_, rfl, _, rfl⟩ := h; exact .refl _ _ (by simp)
      · split at h
        · cases h
        · split at h
          · split at h
            · simp only [Option.some.injEq, Prod.mk.injEq] at h; obtain ⟨_, rfl, _, rfl⟩ := h; exact .push _ _
            · cases h
          · simp only [Option.bind_eq_some_iff] at h
            obtain ⟨ob, hob, old, _, h⟩ := h
            obtain ⟨h1, h2⟩ := liveAt_inv hob
            split at h
            · cases h
            · split at h
              · simp only [Option.bind_eq_some_iff, Option.some.injEq, Prod.mk.injEq] at h
                obtain ⟨H1, hst, _, rfl, _, rfl⟩ := h
                have := storeAt_abs hst
                have e1 : ∀ (a : Addr) (k : Nat), (a.add k).block = a.block := fun a k => by unfold Addr.add; split <;> rfl
                rwa [e1] at this
              · split at h
                · simp only [Option.some.injEq, Prod.mk.injEq] at h; obtain ⟨_, rfl, _, rfl⟩ := h; exact .push _ _
                · split at h
                  · simp only [Option.some.injEq, Prod.mk.injEq] at h
                    obtain ⟨_, rfl, _, rfl⟩ := h
                    refine AbsOk.trans (.set h1 fun h => by simp [Ob.dead] at h) (.push _ _) (by simp)
                  · cases h
    · cases h
  case copy es d s =>
    simp only [Option.bind_eq_some_iff] at h
    obtain ⟨_, _, _, _, h⟩ := h
    split at h
    · simp only [Option.bind_eq_some_iff] at h
      obtain ⟨_, _, _, _, h⟩ := h
      split at h
      · simp only [Option.bind_eq_some_iff, Option.some.injEq, Prod.mk.injEq] at h
        obtain ⟨H1, hst, _, rfl, _, rfl⟩ := h
        exact storeAt_abs hst
      · split at h
        · simp only [Option.some.injEq, Prod.mk.injEq] at h; obtain ⟨_, rfl, _, rfl⟩ := h; exact .refl _ _ (by simp)
        · cases h
    · cases h
  all_goals (cases h)

/-- Two heaps that agree where an operation looks. -/
structure LocalAt (H H' G G' : List Ob) (M : List Nat) : Prop where
  len : G'.length = H'.length
  new : ∀ id : Nat, id ∈ M ∨ H.length ≤ id → G'[id]? = H'[id]?

theorem simple_local {e : Env} {H H' : List Ob} {v : Value} {l : List Nat} {M : List Nat} {ao : AOp} (h : simpleOp H e ao = some (v, H', some l, M)) {G : List Ob} (hG : G.length = H.length) (hl : ∀ id ∈ l, G[id]? = H[id]?) :
    ∃ G', simpleOp G e ao = some (v, G', some l, M) ∧ LocalAt H H' G G' M := by
  have hrefl : LocalAt H H G G [] := ⟨hG, fun id h => by rcases h with h | h; simp at h; rw [List.getElem?_eq_none (by omega), List.getElem?_eq_none h]⟩
  have hpush : ∀ ob, LocalAt H (H ++ [ob]) G (G ++ [ob]) [] := fun ob => ⟨by simp [hG], fun id h => by
    rcases h with h | h
    · simp at h
    · rw [List.getElem?_append_right (by omega), List.getElem?_append_right h, hG]⟩
  have hp : ∀ r, pureV H r = some (v, H', some l, M) → ∃ G', pureV G r = some (v, G', some l, M) ∧ LocalAt H H' G G' M := fun r hr => by
    obtain ⟨h1, rfl, h2, rfl⟩ := pureV_inv hr
    exact ⟨G, by simp only [pureV, h1, Option.bind_some, h2], hrefl⟩
  have hlive : ∀ id, id ∈ l → liveAt G id = liveAt H id := fun id hid => by simp only [liveAt, hl id hid]
  cases ao <;> simp only [simpleOp] at h ⊢ <;> first | exact hp _ h | skip
  case alloc z => simp only [Option.some.injEq, Prod.mk.injEq] at h; obtain ⟨rfl, rfl, h1, rfl⟩ := h; exact ⟨_, by rw [hG, ← h1], hpush _⟩
  case box x =>
    simp only [Option.bind_eq_some_iff] at h
    obtain ⟨u, hu, h⟩ := h
    split at h
    · rename_i hk; simp only [Option.some.injEq, Prod.mk.injEq] at h; obtain ⟨rfl, rfl, h1, rfl⟩ := h; exact ⟨_, by rw [hu, Option.bind_some, if_pos hk, hG, ← h1], hpush _⟩
    · cases h
  case load n a =>
    simp only [Option.bind_eq_some_iff] at h
    obtain ⟨u, hu, h⟩ := h
    rw [hu, Option.bind_some]
    split at h
    · rename_i ad
      simp only [Option.bind_eq_some_iff] at h
      obtain ⟨ob, hob, h⟩ := h
      split at h
      · rename_i hsp
        simp only [Option.bind_eq_some_iff, Option.some.injEq, Prod.mk.injEq] at h
        obtain ⟨x, hx, rfl, rfl, h1, rfl⟩ := h
        refine ⟨G, ?_, hrefl⟩
        (try dsimp only)
        rw [hlive ad.block (by rw [← h1]; simp), hob, Option.bind_some, if_pos hsp, hx, Option.bind_some, h1]
      · cases h
    · cases h
  case store n a x =>
    simp only [Option.bind_eq_some_iff] at h
    obtain ⟨u, hu, y, hy, h⟩ := h
    rw [hu, Option.bind_some, hy, Option.bind_some]
    split at h
    · rename_i ad
      split at h
      · rename_i hc
        simp only [Option.bind_eq_some_iff, Option.some.injEq, Prod.mk.injEq] at h
        obtain ⟨H1, hst, rfl, rfl, h1, rfl⟩ := h
        have hmem : ad.block ∈ l := by rw [← h1]; simp
        obtain ⟨ob, a1, a2, a3, a4, a5, rfl⟩ := storeAt_inv hst
        have hst' : storeAt G ad y.cells.toList = some (G.set ad.block { ob with cells := splice ob.cells ad.off y.cells.toList }) := by
          simp only [storeAt, hlive _ hmem]
          have : liveAt H ad.block = some ob := by simp [liveAt, a1, a2]
          rw [this, Option.bind_some, if_pos ⟨a3, by simp [a4], a5⟩]
        refine ⟨_, by (try dsimp only); rw [if_pos hc, hst', Option.bind_some, h1], by simp [hG], fun id hid => ?_⟩
        have hlt := (List.getElem?_eq_some_iff.1 a1).1
        rcases hid with hid | hid
        · simp at hid; subst hid
          rw [List.getElem?_set, List.getElem?_set]; simp [hlt, hG]
        · rw [List.getElem?_eq_none (by simp; omega), List.getElem?_eq_none (by simp; omega)]
      · cases h
    · cases h
  case s2b x =>
    simp only [Option.bind_eq_some_iff] at h
    obtain ⟨u, hu, h⟩ := h
    rw [hu, Option.bind_some]
    split at h
    · split at h
      · rename_i hk; simp only [Option.some.injEq, Prod.mk.injEq] at h; obtain ⟨rfl, rfl, h1, rfl⟩ := h; exact ⟨_, by (try dsimp only); rw [if_pos hk, hG, ← h1], hpush _⟩
      · cases h
    · cases h
  case b2s x =>
    simp only [Option.bind_eq_some_iff] at h
    obtain ⟨u, hu, h⟩ := h
    rw [hu, Option.bind_some]
    split at h
    · rename_i b n c
      simp only [Option.bind_eq_some_iff, Option.some.injEq, Prod.mk.injEq] at h
      obtain ⟨cs, hcs, bs, hbs, rfl, rfl, h1, rfl⟩ := h
      refine ⟨G, ?_, hrefl⟩
      (try dsimp only)
      have : elemsOf G 1 n (.slice b n c) = elemsOf H 1 n (.slice b n c) := by
        cases b with
        | none => rfl
        | some ad => simp only [elemsOf]; rw [hlive ad.block (by rw [← h1]; simp [baseOf])]
      rw [this, hcs, Option.bind_some, hbs, Option.bind_some, h1]
    · cases h
  case buildSlice cs n ps =>
    simp only [Option.bind_eq_some_iff, Option.some.injEq, Prod.mk.injEq] at h
    obtain ⟨vs, hvs, cs', hcs, rfl, rfl, h1, rfl⟩ := h
    exact ⟨_, by rw [hvs, Option.bind_some, hcs, Option.bind_some, hG, h1], hpush _⟩
  case sliceSl es x lo hi mx =>
    simp only [Option.bind_eq_some_iff] at h
    obtain ⟨u, hu, lo', hlo, hi', hhi, mx', hmx, h⟩ := h
    rw [hu, Option.bind_some, hlo, Option.bind_some, hhi, Option.bind_some, hmx, Option.bind_some]
    split at h
    · rename_i ad len cap
      simp only [Option.bind_eq_some_iff] at h
      obtain ⟨⟨p, q, r⟩, hb, ob, hob, h⟩ := h
      dsimp only at h
      split at h
      · rename_i hk
        simp only [Option.some.injEq, Prod.mk.injEq] at h
        obtain ⟨rfl, rfl, h1, rfl⟩ := h
        refine ⟨G, ?_, hrefl⟩
        (try dsimp only)
        rw [hb, Option.bind_some]
        (try dsimp only)
        rw [hlive ad.block (by rw [← h1]; simp), hob, Option.bind_some, if_pos hk, h1]
      · cases h
    · simp only [Option.bind_eq_some_iff, Option.some.injEq, Prod.mk.injEq] at h
      obtain ⟨x, hx, rfl, rfl, h1, rfl⟩ := h
      exact ⟨G, by (try dsimp only); rw [hx, Option.bind_some, h1], hrefl⟩
    · cases h
  case makeSlice z b l c =>
    simp only [Option.bind_eq_some_iff] at h
    obtain ⟨u, hu, y, hy, h⟩ := h
    rw [hu, Option.bind_some, hy, Option.bind_some]
    split at h
    · split at h
      · rename_i hk; simp only [Option.some.injEq, Prod.mk.injEq] at h; obtain ⟨rfl, rfl, h1, rfl⟩ := h; exact ⟨_, by (try dsimp only); rw [if_pos hk, hG, h1], hpush _⟩
      · cases h
    · cases h
  case append es b s x =>
    exfalso
    simp only [Option.bind_eq_some_iff] at h
    obtain ⟨sv, _, xv, _, h⟩ := h
    unfold appendV at h
    split at h
    · simp only [Option.bind_eq_some_iff] at h
      obtain ⟨n, _, new, _, h⟩ := h
      split at h
      · simp at h
      · split at h
        · cases h
        · split at h
          · split at h <;> simp at h
          · simp only [Option.bind_eq_some_iff] at h
            obtain ⟨ob, hob, old, _, h⟩ := h
            split at h
            · cases h
            · split at h
              · simp only [Option.bind_eq_some_iff] at h; obtain ⟨_, _, h⟩ := h; simp at h
              · split at h
                · simp at h
                · split at h <;> simp at h
    · cases h
  case copy es d s =>
    exfalso
    simp only [Option.bind_eq_some_iff] at h
    obtain ⟨_, _, _, _, h⟩ := h
    split at h
    · simp only [Option.bind_eq_some_iff] at h
      obtain ⟨_, _, _, _, h⟩ := h
      split at h
      · simp only [Option.bind_eq_some_iff] at h; obtain ⟨_, _, h⟩ := h; simp at h
      · split at h <;> simp at h
    · cases h
  all_goals (cases h)

end Go.Ev

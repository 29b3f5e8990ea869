/-
  All simple operations, by the compiler.
-/
import Derived.Test.YtaceeoghjgggjaaBunA
import Derived.LoopN
import Derived.ProofKit
set_option linter.unusedSimpArgs false
set_option linter.unusedVariables false
namespace Go.Ev
open Go.RowKit

section
variable {P : Program} {o : Oper} {e : Env} {H H' : List Ob} {v : Value} {t : Option (List Nat)} {M : List Nat}

def AOp.simple : AOp → Bool
  | .call .. | .callv .. => false
  | _ => true

theorem simple_ok {ao : AOp} (hc : compOp P o = some ao) (hsim : ao.simple = true) (hr : simpleOp H e ao = some (v, H', t, M)) : OpOk P o e H v H' := by
  cases hop : o.op with
  | move x => simp only [compOp, hop, Option.some.injEq] at hc; subst hc; exact ok_move (.inl hop) hr
  | assign x => simp only [compOp, hop, Option.some.injEq] at hc; subst hc; exact ok_move (.inr hop) hr
  | pick c a b => simp only [compOp, hop, Option.some.injEq] at hc; subst hc; exact ok_pick hop hr
  | alloc ty => simp only [compOp, hop, Option.map_eq_some_iff] at hc; obtain ⟨z, hz, rfl⟩ := hc; exact ok_alloc hz hop hr
  | box ty x => simp only [compOp, hop, Option.some.injEq] at hc; subst hc; exact ok_box hop hr
  | load ty x => simp only [compOp, hop, Option.map_eq_some_iff] at hc; obtain ⟨z, hz, rfl⟩ := hc; exact ok_load hz hop hr
  | store ty x y => simp only [compOp, hop, Option.map_eq_some_iff] at hc; obtain ⟨z, hz, rfl⟩ := hc; exact ok_store hz hop hr
  | nilCheck x => simp only [compOp, hop, Option.some.injEq] at hc; subst hc; exact ok_nilCheck hop hr
  | unOp op ty x => simp only [compOp, hop, Option.some.injEq] at hc; subst hc; exact ok_un hop hr
  | extract x i => simp only [compOp, hop, Option.some.injEq] at hc; subst hc; exact ok_extract hop hr
  | makeFunc fn f c => simp only [compOp, hop, Option.some.injEq] at hc; subst hc; exact ok_mkFunc hop hr
  | makeInterface ty x =>
    simp only [compOp, hop] at hc
    cases hu : P.underlying ty with
    | none => simp [hu] at hc
    | some d =>
      rw [hu] at hc
      have hn : ∀ ms, d ≠ .interface ms := fun ms hms => by subst hms; simp at hc
      have : ao = .mkIface ty x := by
        cases d <;> first | exact absurd rfl (hn _) | (simp at hc; exact hc.symm)
      subst this
      exact ok_mkIface hu hn hop hr
  | binOp op ty x y yt =>
    simp only [compOp, hop] at hc
    have hcmp : ∀ (hop2 : op = .eql ∨ op = .neq), (match P.underlying ty with
      | some (.int _) | some .string => some (AOp.bin op x y)
      | some .bool => some (.eqv none (op == .neq) x y)
      | some (.array ..) | some (.struct _) => if P.eqGuardType P.depth ty then none else (kindsT P 20 ty).map fun ks => .eqv (some ks) (op == .neq) x y
      | some d => if isNilConst (nilKind d) y then some (.isNil (nilKind d) (op == .neq) x) else none
      | _ => none) = some ao → OpOk P o e H v H' := by
      intro hop2 hc
      split at hc
      · cases hc; exact ok_bin hop hr
      · cases hc; exact ok_bin hop hr
      · rename_i hu; cases hc; exact ok_eqb hop2 hu hop hr
      · rename_i n el hu
        split at hc
        · cases hc
        · rename_i hg
          simp only [Option.map_eq_some_iff] at hc
          obtain ⟨ks, hk, rfl⟩ := hc
          exact ok_eqv hop2 hu (.inr ⟨n, el, rfl⟩) hk (by simpa using hg) hop hr
      · rename_i fs hu
        split at hc
        · cases hc
        · rename_i hg
          simp only [Option.map_eq_some_iff] at hc
          obtain ⟨ks, hk, rfl⟩ := hc
          exact ok_eqv hop2 hu (.inl ⟨fs, rfl⟩) hk (by simpa using hg) hop hr
      · rename_i d _ _ _ _ _ hu
        split at hc
        · rename_i hn; cases hc; exact ok_isNil hop2 hu hn hop hr
        · cases hc
      · cases hc
    cases op with
    | eql => exact hcmp (.inl rfl) hc
    | neq => exact hcmp (.inr rfl) hc
    | _ => simp only [Option.some.injEq] at hc; subst hc; exact ok_bin hop hr
  | convert s d x =>
    simp only [compOp, hop] at hc
    split at hc
    · rename_i ks k h1 h2; cases hc; exact ok_conv h1 h2 hop hr
    · rename_i h1 h2; cases hc; exact ok_convStr h1 h2 hop hr
    · rename_i el h1 h2
      split at hc
      · rename_i he
        cases hc
        have he' : P.underlying el = some (.int .u8) := by
          cases hu : P.underlying el with
          | none => simp [hu] at he
          | some d =>
            rw [hu] at he
            cases d with
            | int k => cases k <;> simp at he ⊢
            | _ => simp at he
        exact ok_s2b h1 h2 he' hop hr
      · cases hc
    · rename_i el h1 h2
      split at hc
      · rename_i he
        cases hc
        have he' : P.underlying el = some (.int .u8) := by
          cases hu : P.underlying el with
          | none => simp [hu] at he
          | some d =>
            rw [hu] at he
            cases d with
            | int k => cases k <;> simp at he ⊢
            | _ => simp at he
        exact ok_b2s h1 he' h2 hop hr
      · cases hc
    · cases hc
  | makeSlice ty l c =>
    simp only [compOp, hop] at hc
    split at hc
    · rename_i el hu
      simp only [Option.bind_eq_some_iff] at hc
      obtain ⟨z, hz, b, hb, hc⟩ := hc
      split at hc
      · rename_i hsz; cases hc; exact ok_makeSlice hu hz hsz hb hop hr
      · cases hc
    · cases hc
  | slice ty x lo hi mx =>
    simp only [compOp, hop] at hc
    split at hc
    · rename_i n el hu
      simp only [Option.map_eq_some_iff] at hc
      obtain ⟨s, hs, rfl⟩ := hc
      exact ok_sliceArr hu hs hop hr
    · rename_i el hu
      simp only [Option.map_eq_some_iff] at hc
      obtain ⟨s, hs, rfl⟩ := hc
      exact ok_sliceSl hu hs hop hr
    · rename_i hu
      split at hc
      · rename_i hm
        cases hc
        have : mx = none := by cases mx <;> simp at hm ⊢
        subst this
        exact ok_sliceStr hu hop hr
      · cases hc
    · cases hc
  | fieldAddr s x f =>
    simp only [compOp, hop] at hc
    split at hc
    · rename_i fs hu
      simp only [Option.bind_eq_some_iff] at hc
      obtain ⟨fd, hf, n, hn, hc⟩ := hc
      split at hc
      · cases hc
      · rename_i h0; cases hc; exact ok_fieldAddr hu hf rfl hn h0 hop hr
    · cases hc
  | field s x f =>
    simp only [compOp, hop] at hc
    split at hc
    · rename_i fs hu
      simp only [Option.bind_eq_some_iff, Option.map_eq_some_iff] at hc
      obtain ⟨fd, hf, n, hn, rfl⟩ := hc
      exact ok_field hu hf rfl hn hop hr
    · cases hc
  | indexAddr ty x i =>
    simp only [compOp, hop] at hc
    split at hc
    · rename_i n el hu
      simp only [Option.map_eq_some_iff] at hc
      obtain ⟨s, hs, rfl⟩ := hc
      exact ok_indexAddr hu hs hop hr
    · rename_i el hu
      simp only [Option.map_eq_some_iff] at hc
      obtain ⟨s, hs, rfl⟩ := hc
      exact ok_indexSl hu hs hop hr
    · cases hc
  | index ty x i =>
    simp only [compOp, hop] at hc
    split at hc
    · rename_i n el hu
      simp only [Option.bind_eq_some_iff, Option.map_eq_some_iff] at hc
      obtain ⟨s, hs, m, hm, rfl⟩ := hc
      exact ok_index hu hs hm hop hr
    · rename_i hu; cases hc; exact ok_indexStr hu hop hr
    · cases hc
  | build ty ps =>
    simp only [compOp, hop] at hc
    split at hc
    · rename_i fs hu
      split at hc
      · rename_i hall
        simp only [Option.bind_eq_some_iff, Option.map_eq_some_iff] at hc
        obtain ⟨z, hz, cps, hcp, rfl⟩ := hc
        refine ok_build hz (.inl ⟨fs, hu, rfl⟩) (fun fs' h f hf => ?_) hcp hop hr
        rw [hu] at h; cases h
        exact List.all_eq_true.1 hall f hf
      · cases hc
    · rename_i n el hu
      simp only [Option.bind_eq_some_iff, Option.map_eq_some_iff] at hc
      obtain ⟨z, hz, s, hs, cps, hcp, rfl⟩ := hc
      refine ok_build hz (.inr ⟨n, el, s, hu, hs, rfl⟩) (fun fs' h f hf => ?_) hcp hop hr
      rw [hu] at h; cases h
    · cases hc
  | buildSlice ty len ps =>
    simp only [compOp, hop] at hc
    split at hc
    · rename_i el hu
      simp only [Option.bind_eq_some_iff] at hc
      obtain ⟨z, hz, s, hs, hc⟩ := hc
      split at hc
      · rename_i hcond
        simp only [Option.map_eq_some_iff] at hc
        obtain ⟨cps, hcp, rfl⟩ := hc
        exact ok_buildSlice hu hz hs hcond.1 hcond.2.1 hcond.2.2 hcp hop hr
      · cases hc
    · cases hc
  | sliceToArrayPointer ty x =>
    simp only [compOp, hop] at hc
    split at hc
    · rename_i n el hu
      split at hc
      · cases hc; exact ok_s2ap hu hop hr
      · cases hc
    · cases hc
  | call c =>
    simp only [compOp, hop] at hc
    split at hc
    · cases hc; simp [AOp.simple] at hsim
    · cases hc; simp [AOp.simple] at hsim
    · rename_i hcal
      split at hc
      · rename_i s x ts tx h1 h2
        split at hc
        · rename_i el1 el2 hu1 hu2
          simp only [Option.bind_eq_some_iff] at hc
          obtain ⟨z, hz, b, hb, hc⟩ := hc
          split at hc
          · rename_i hsz; cases hc; exact ok_append hu1 hu2 (fun k hk => by cases hk) hz hsz hb hcal h1 h2 hop hr
          · cases hc
        · rename_i el1 hu1 hu2
          simp only [Option.bind_eq_some_iff] at hc
          obtain ⟨z, hz, b, hb, hc⟩ := hc
          split at hc
          · rename_i hsz; cases hc; exact ok_append hu1 hu2 (fun k hk => by cases hk) hz hsz hb hcal h1 h2 hop hr
          · cases hc
        · cases hc
      · cases hc
    · rename_i hcal
      split at hc
      · rename_i d s td ts h1 h2
        split at hc
        · rename_i el hu
          simp only [Option.map_eq_some_iff] at hc
          obtain ⟨n, hn, rfl⟩ := hc
          exact ok_copy hu hn hcal h1 h2 hop hr
        · cases hc
      · cases hc
    · rename_i hcal
      split at hc
      · rename_i x ty h1 h2
        split at hc
        · rename_i n el hu; cases hc; exact ok_lenArr hu hcal h1 h2 hop hr
        · rename_i hu; cases hc; exact ok_len hu (.inl ⟨rfl, rfl⟩) hcal h1 h2 hop hr
        · rename_i el hu; cases hc; exact ok_len hu (.inr ⟨rfl, el, rfl⟩) hcal h1 h2 hop hr
        · cases hc
      · cases hc
    · rename_i hcal
      split at hc
      · rename_i x y h1; cases hc; exact ok_minmax (mx := false) hcal h1 hop hr
      · cases hc
    · rename_i hcal
      split at hc
      · rename_i x y h1; cases hc; exact ok_minmax (mx := true) hcal h1 hop hr
      · cases hc
    · cases hc
  | _ => simp [compOp, hop] at hc

end
end Go.Ev

/-
  What the evaluator itself keeps to: the heap grows, nothing that is dead comes back, what isn't noted as changed is as it was; an operation that tells what it touches asks for no more.
-/
set_option linter.unusedSimpArgs false
set_option linter.unusedVariables false
namespace Go.Ev
open Go.RowKit

structure AbsOk (H H' : List Ob) (M : List Nat) : Prop where
  len : H.length ≤ H'.length
  flags : ∀ (id : Nat) ob', id < H.length → H'[id]? = some ob' → ob'.live = true → ∃ ob, H[id]? = some ob ∧ ob.live = true ∧ ob.own = ob'.own
  log : ∀ id : Nat, id < H.length → id ∉ M → H'[id]? = H[id]?
  ids : ∀ id ∈ M, id < H.length

theorem AbsOk.refl (H : List Ob) (M : List Nat) (h : ∀ id ∈ M, id < H.length) : AbsOk H H M := ⟨Nat.le_refl _, fun _ ob' _ h h' => ⟨ob', h, h', rfl⟩, fun _ _ _ => rfl, h⟩
theorem AbsOk.push (H : List Ob) (ob : Ob) : AbsOk H (H ++ [ob]) [] :=
  ⟨by simp, fun id ob' h1 h2 h3 => ⟨ob', by rw [List.getElem?_append_left h1] at h2; exact h2, h3, rfl⟩, fun id h _ => List.getElem?_append_left h, by simp⟩
theorem AbsOk.set {H : List Ob} {id : Nat} {ob ob' : Ob} (h : H[id]? = some ob) (hf : ob'.live = true → ob.live = true ∧ ob.own = ob'.own) : AbsOk H (H.set id ob') [id] := by
  have hid := (List.getElem?_eq_some_iff.1 h).1
  refine ⟨by simp, fun i o h1 h2 h3 => ?_, fun i h1 h2 => ?_, by simpa using hid⟩
  · rw [List.getElem?_set] at h2
    split at h2
    · subst_vars
      simp [hid] at h2; subst h2
      exact ⟨ob, h, (hf h3).1, (hf h3).2⟩
    · exact ⟨o, h2, h3, rfl⟩
  · rw [List.getElem?_set, if_neg (by simp at h2; omega)]
theorem AbsOk.trans {A B C : List Ob} {M M' N : List Nat} (h : AbsOk A B M) (k : AbsOk B C M') (hN : ∀ id, id ∈ N ↔ id ∈ M ∨ (id ∈ M' ∧ id < A.length)) : AbsOk A C N := by
  refine ⟨Nat.le_trans h.len k.len, fun id ob h1 h2 h3 => ?_, fun id h1 h2 => ?_, fun id hid => ?_⟩
  · obtain ⟨o1, a1, a2, a3⟩ := k.flags id ob (Nat.lt_of_lt_of_le h1 h.len) h2 h3
    obtain ⟨o2, b1, b2, b3⟩ := h.flags id o1 h1 a1 a2
    exact ⟨o2, b1, b2, b3.trans a3⟩
  · rw [hN] at h2
    rw [k.log id (Nat.lt_of_lt_of_le h1 h.len) (fun hm => h2 (.inr ⟨hm, h1⟩)), h.log id h1 fun hm => h2 (.inl hm)]
  · rcases (hN id).1 hid with h1 | h1
    · exact h.ids id h1
    · exact h1.2

theorem pureV_some {H : List Ob} {r : Option Value} {v : Value} {H' : List Ob} {t : Option (List Nat)} {M : List Nat} (h : pureV H r = some (v, H', t, M)) : r = some v ∧ H' = H ∧ t = some [] ∧ M = [] := pureV_inv h

theorem storeAt_abs {H H' : List Ob} {a : Addr} {vs : List Value} (h : storeAt H a vs = some H') : AbsOk H H' [a.block] := by
  obtain ⟨ob, h1, h2, h3, h4, h5, rfl⟩ := storeAt_inv h
  exact .set h1 fun _ => ⟨h2, rfl⟩

theorem simple_abs {e : Env} {H H' : List Ob} {v : Value} {t : Option (List Nat)} {M : List Nat} {ao : AOp} (h : simpleOp H e ao = some (v, H', t, M)) : AbsOk H H' M := by
  have hp : ∀ r, pureV H r = some (v, H', t, M) → AbsOk H H' M := fun r hr => by
    obtain ⟨_, rfl, _, rfl⟩ := pureV_inv hr
    exact .refl _ _ (by simp)
  cases ao <;> simp only [simpleOp] at h <;> first | exact hp _ h | skip
  case alloc z => simp only [Option.some.injEq, Prod.mk.injEq] at h; obtain ⟨_, rfl, _, rfl⟩ := h; exact .push _ _
  case box x =>
    simp only [Option.bind_eq_some_iff] at h
    obtain ⟨_, _, h⟩ := h
    split at h
    · simp only [Option.some.injEq, Prod.mk.injEq] at h; obtain ⟨_, rfl, _, rfl⟩ := h; exact .push _ _
    · cases h
  case load n a =>
    simp only [Option.bind_eq_some_iff] at h
    obtain ⟨_, _, h⟩ := h
    split at h
    · simp only [Option.bind_eq_some_iff] at h
      obtain ⟨_, _, h⟩ := h
      split at h
      · simp only [Option.bind_eq_some_iff, Option.some.injEq, Prod.mk.injEq] at h
        obtain ⟨_, _, _, rfl, _, rfl⟩ := h; exact .refl _ _ (by simp)
      · cases h
    · cases h
  case store n a x =>
    simp only [Option.bind_eq_some_iff] at h
    obtain ⟨_, _, _, _, h⟩ := h
    split at h
    · split at h
      · simp only [Option.bind_eq_some_iff, Option.some.injEq, Prod.mk.injEq] at h
        obtain ⟨H1, hst, _, rfl, _, rfl⟩ := h
        exact storeAt_abs hst
      · cases h
    · cases h
  case s2b x =>
    simp only [Option.bind_eq_some_iff] at h
    obtain ⟨_, _, h⟩ := h
    split at h
    · split at h
      · simp only [Option.some.injEq, Prod.mk.injEq] at h; obtain ⟨_, rfl, _, rfl⟩ := h; exact .push _ _
      · cases h
    · cases h
  case b2s x =>
    simp only [Option.bind_eq_some_iff] at h
    obtain ⟨_, _, h⟩ := h
    split at h
    · simp only [Option.bind_eq_some_iff, Option.some.injEq, Prod.mk.injEq] at h
      obtain ⟨_, _, _, _, _, rfl, _, rfl⟩ := h; exact .refl _ _ (by simp)
    · cases h
  case buildSlice cs l ps =>
    simp only [Option.bind_eq_some_iff, Option.some.injEq, Prod.mk.injEq] at h
    obtain ⟨_, _, _, _, _, rfl, _, rfl⟩ := h
    exact .push _ _
  case sliceSl es x lo hi mx =>
    simp only [Option.bind_eq_some_iff] at h
    obtain ⟨_, _, _, _, _, _, _, _, h⟩ := h
    split at h
    · simp only [Option.bind_eq_some_iff] at h
      obtain ⟨_, _, _, _, h⟩ := h
      split at h
      · simp only [Option.some.injEq, Prod.mk.injEq] at h; obtain ⟨_, rfl, _, rfl⟩ := h; exact .refl _ _ (by simp)
      · cases h
    · simp only [Option.bind_eq_some_iff, Option.some.injEq, Prod.mk.injEq] at h
      obtain ⟨_, _, _, rfl, _, rfl⟩ := h; exact .refl _ _ (by simp)
    · cases h
  case makeSlice z b l c =>
    simp only [Option.bind_eq_some_iff] at h
    obtain ⟨_, _, _, _, h⟩ := h
    split at h
    · split at h
      · simp only [Option.some.injEq, Prod.mk.injEq] at h; obtain ⟨_, rfl, _, rfl⟩ := h; exact .push _ _
      · cases h
    · cases h
  case append es b s x =>
    simp only [Option.bind_eq_some_iff] at h
    obtain ⟨sv, _, xv, _, h⟩ := h
    unfold appendV at h
    split at h
    · simp only [Option.bind_eq_some_iff] at h
      obtain ⟨n, _, new, _, h⟩ := h
      split at h
      · simp only [Option.some.injEq, Prod.mk.injEq] at h; obtain ⟨_, rfl, _, rfl⟩ := h; exact .refl _ _ (by simp)
      · split at h
        · cases h
        · split at h
          · split at h
            · simp only [Option.some.injEq, Prod.mk.injEq] at h; obtain ⟨_, rfl, _, rfl⟩ := h; exact .push _ _
            · cases h
          · simp only [Option.bind_eq_some_iff] at h
            obtain ⟨ob, hob, old, _, h⟩ := h
            obtain ⟨h1, h2⟩ := liveAt_inv hob
            split at h
            · cases h
            · split at h
              · simp only [Option.bind_eq_some_iff, Option.some.injEq, Prod.mk.injEq] at h
                obtain ⟨H1, hst, _, rfl, _, rfl⟩ := h
                have := storeAt_abs hst
                have e1 : ∀ (a : Addr) (k : Nat), (a.add k).block = a.block := fun a k => by unfold Addr.add; split <;> rfl
                rwa [e1] at this
              · split at h
                · simp only [Option.some.injEq, Prod.mk.injEq] at h; obtain ⟨_, rfl, _, rfl⟩ := h; exact .push _ _
                · split at h
                  · simp only [Option.some.injEq, Prod.mk.injEq] at h
                    obtain ⟨_, rfl, _, rfl⟩ := h
                    refine AbsOk.trans (.set h1 fun h => by simp [Ob.dead] at h) (.push _ _) (by simp)
                  · cases h
    · cases h
  case copy es d s =>
    simp only [Option.bind_eq_some_iff] at h
    obtain ⟨_, _, _, _, h⟩ := h
    split at h
    · simp only [Option.bind_eq_some_iff] at h
      obtain ⟨_, _, _, _, h⟩ := h
      split at h
      · simp only [Option.bind_eq_some_iff, Option.some.injEq, Prod.mk.injEq] at h
        obtain ⟨H1, hst, _, rfl, _, rfl⟩ := h
        exact storeAt_abs hst
      · split at h
        · simp only [Option.some.injEq, Prod.mk.injEq] at h; obtain ⟨_, rfl, _, rfl⟩ := h; exact .refl _ _ (by simp)
        · cases h
    · cases h
  all_goals (cases h)

/-- Two heaps that agree where an operation looks. -/
structure LocalAt (H H' G G' : List Ob) (M : List Nat) : Prop where
  len : G'.length = H'.length
  new : ∀ id : Nat, id ∈ M ∨ H.length ≤ id → G'[id]? = H'[id]?

theorem simple_local {e : Env} {H H' : List Ob} {v : Value} {l : List Nat} {M : List Nat} {ao : AOp} (h : simpleOp H e ao = some (v, H', some l, M)) {G : List Ob} (hG : G.length = H.length) (hl : ∀ id ∈ l, G[id]? = H[id]?) :
    ∃ G', simpleOp G e ao = some (v, G', some l, M) ∧ LocalAt H H' G G' M := by
  have hrefl : LocalAt H H G G [] := ⟨hG, fun id h => by rcases h with h | h; simp at h; rw [List.getElem?_eq_none (by omega), List.getElem?_eq_none h]⟩
  have hpush : ∀ ob, LocalAt H (H ++ [ob]) G (G ++ [ob]) [] := fun ob => ⟨by simp [hG], fun id h => by
    rcases h with h | h
    · simp at h
    · rw [List.getElem?_append_right (by omega), List.getElem?_append_right h, hG]⟩
  have hp : ∀ r, pureV H r = some (v, H', some l, M) → ∃ G', pureV G r = some (v, G', some l, M) ∧ LocalAt H H' G G' M := fun r hr => by
    obtain ⟨h1, rfl, h2, rfl⟩ := pureV_inv hr
    exact ⟨G, by simp only [pureV, h1, Option.bind_some, h2], hrefl⟩
  have hlive : ∀ id, id ∈ l → liveAt G id = liveAt H id := fun id hid => by simp only [liveAt, hl id hid]
  cases ao <;> simp only [simpleOp] at h ⊢ <;> first | exact hp _ h | skip
  case alloc z => simp only [Option.some.injEq, Prod.mk.injEq] at h; obtain ⟨rfl, rfl, h1, rfl⟩ := h; exact ⟨_, by rw [hG, ← h1], hpush _⟩
  case box x =>
    simp only [Option.bind_eq_some_iff] at h
    obtain ⟨u, hu, h⟩ := h
    split at h
    · rename_i hk; simp only [Option.some.injEq, Prod.mk.injEq] at h; obtain ⟨rfl, rfl, h1, rfl⟩ := h; exact ⟨_, by rw [hu, Option.bind_some, if_pos hk, hG, ← h1], hpush _⟩
    · cases h
  case load n a =>
    simp only [Option.bind_eq_some_iff] at h
    obtain ⟨u, hu, h⟩ := h
    rw [hu, Option.bind_some]
    split at h
    · rename_i ad
      simp only [Option.bind_eq_some_iff] at h
      obtain ⟨ob, hob, h⟩ := h
      split at h
      · rename_i hsp
        simp only [Option.bind_eq_some_iff, Option.some.injEq, Prod.mk.injEq] at h
        obtain ⟨x, hx, rfl, rfl, h1, rfl⟩ := h
        refine ⟨G, ?_, hrefl⟩
        (try dsimp only)
        rw [hlive ad.block (by rw [← h1]; simp), hob, Option.bind_some, if_pos hsp, hx, Option.bind_some, h1]
      · cases h
    · cases h
  case store n a x =>
    simp only [Option.bind_eq_some_iff] at h
    obtain ⟨u, hu, y, hy, h⟩ := h
    rw [hu, Option.bind_some, hy, Option.bind_some]
    split at h
    · rename_i ad
      split at h
      · rename_i hc
        simp only [Option.bind_eq_some_iff, Option.some.injEq, Prod.mk.injEq] at h
        obtain ⟨H1, hst, rfl, rfl, h1, rfl⟩ := h
        have hmem : ad.block ∈ l := by rw [← h1]; simp
        obtain ⟨ob, a1, a2, a3, a4, a5, rfl⟩ := storeAt_inv hst
        have hst' : storeAt G ad y.cells.toList = some (G.set ad.block { ob with cells := splice ob.cells ad.off y.cells.toList }) := by
          simp only [storeAt, hlive _ hmem]
          have : liveAt H ad.block = some ob := by simp [liveAt, a1, a2]
          rw [this, Option.bind_some, if_pos ⟨a3, by simp [a4], a5⟩]
        refine ⟨_, by (try dsimp only); rw [if_pos hc, hst', Option.bind_some, h1], by simp [hG], fun id hid => ?_⟩
        have hlt := (List.getElem?_eq_some_iff.1 a1).1
        rcases hid with hid | hid
        · simp at hid; subst hid
          rw [List.getElem?_set, List.getElem?_set]; simp [hlt, hG]
        · rw [List.getElem?_eq_none (by simp; omega), List.getElem?_eq_none (by simp; omega)]
      · cases h
    · cases h
  case s2b x =>
    simp only [Option.bind_eq_some_iff] at h
    obtain ⟨u, hu, h⟩ := h
    rw [hu, Option.bind_some]
    split at h
    · split at h
      · rename_i hk; simp only [Option.some.injEq, Prod.mk.injEq] at h; obtain ⟨rfl, rfl, h1, rfl⟩ := h; exact ⟨_, by (try dsimp only); rw [if_pos hk, hG, ← h1], hpush _⟩
      · cases h
    · cases h
  case b2s x =>
    simp only [Option.bind_eq_some_iff] at h
    obtain ⟨u, hu, h⟩ := h
    rw [hu, Option.bind_some]
    split at h
    · rename_i b n c
      simp only [Option.bind_eq_some_iff, Option.some.injEq, Prod.mk.injEq] at h
      obtain ⟨cs, hcs, bs, hbs, rfl, rfl, h1, rfl⟩ := h
      refine ⟨G, ?_, hrefl⟩
      (try dsimp only)
      have : elemsOf G 1 n (.slice b n c) = elemsOf H 1 n (.slice b n c) := by
        cases b with
        | none => rfl
        | some ad => simp only [elemsOf]; rw [hlive ad.block (by rw [← h1]; simp [baseOf])]
      rw [this, hcs, Option.bind_some, hbs, Option.bind_some, h1]
    · cases h
  case buildSlice cs n ps =>
    simp only [Option.bind_eq_some_iff, Option.some.injEq, Prod.mk.injEq] at h
    obtain ⟨vs, hvs, cs', hcs, rfl, rfl, h1, rfl⟩ := h
    exact ⟨_, by rw [hvs, Option.bind_some, hcs, Option.bind_some, hG, h1], hpush _⟩
  case sliceSl es x lo hi mx =>
    simp only [Option.bind_eq_some_iff] at h
    obtain ⟨u, hu, lo', hlo, hi', hhi, mx', hmx, h⟩ := h
    rw [hu, Option.bind_some, hlo, Option.bind_some, hhi, Option.bind_some, hmx, Option.bind_some]
    split at h
    · rename_i ad len cap
      simp only [Option.bind_eq_some_iff] at h
      obtain ⟨⟨p, q, r⟩, hb, ob, hob, h⟩ := h
      dsimp only at h
      split at h
      · rename_i hk
        simp only [Option.some.injEq, Prod.mk.injEq] at h
        obtain ⟨rfl, rfl, h1, rfl⟩ := h
        refine ⟨G, ?_, hrefl⟩
        (try dsimp only)
        rw [hb, Option.bind_some]
        (try dsimp only)
        rw [hlive ad.block (by rw [← h1]; simp), hob, Option.bind_some, if_pos hk, h1]
      · cases h
    · simp only [Option.bind_eq_some_iff, Option.some.injEq, Prod.mk.injEq] at h
      obtain ⟨x, hx, rfl, rfl, h1, rfl⟩ := h
      exact ⟨G, by (try dsimp only); rw [hx, Option.bind_some, h1], hrefl⟩
    · cases h
  case makeSlice z b l c =>
    simp only [Option.bind_eq_some_iff] at h
    obtain ⟨u, hu, y, hy, h⟩ := h
    rw [hu, Option.bind_some, hy, Option.bind_some]
    split at h
    · split at h
      · rename_i hk; simp only [Option.some.injEq, Prod.mk.injEq] at h; obtain ⟨rfl, rfl, h1, rfl⟩ := h; exact ⟨_, by (try dsimp only); rw [if_pos hk, hG, h1], hpush _⟩
      · cases h
    · cases h
  case append es b s x =>
    exfalso
    simp only [Option.bind_eq_some_iff] at h
    obtain ⟨sv, _, xv, _, h⟩ := h
    unfold appendV at h
    split at h
    · simp only [Option.bind_eq_some_iff] at h
      obtain ⟨n, _, new, _, h⟩ := h
      split at h
      · simp at h
      · split at h
        · cases h
        · split at h
          · split at h <;> simp at h
          · simp only [Option.bind_eq_some_iff] at h
            obtain ⟨ob, hob, old, _, h⟩ := h
            split at h
            · cases h
            · split at h
              · simp only [Option.bind_eq_some_iff] at h; obtain ⟨_, _, h⟩ := h; simp at h
              · split at h
                · simp at h
                · split at h <;> simp at h
    · cases h
  case copy es d s =>
    exfalso
    simp only [Option.bind_eq_some_iff] at h
    obtain ⟨_, _, _, _, h⟩ := h
    split at h
    · simp only [Option.bind_eq_some_iff] at h
      obtain ⟨_, _, _, _, h⟩ := h
      split at h
      · simp only [Option.bind_eq_some_iff] at h; obtain ⟨_, _, h⟩ := h; simp at h
      · split at h <;> simp at h
    · cases h
  all_goals (cases h)

end Go.Ev

/-
  Putting the effect of one operation into a greater heap; one step behind the other.
-/
set_option linter.unusedSimpArgs false
set_option linter.unusedVariables false
namespace Go.Ev
open Go.RowKit

/-- The heap behind an operation that was looked at over a part of the heap. -/
def mergeC (c : Nat → Option Ob) (G' : List Ob) (M : List Nat) (n : Nat) : Nat → Option Ob := fun id => if id ∈ M ∨ (n ≤ id ∧ id < G'.length) then G'[id]? else c id

theorem merge_rel {ρ ρ' : Pl} {c : Nat → Option Ob} {G G' : List Ob} {M : List Nat} {w w' : World} (hc : RelF ρ c w) (hsub : ∀ (id : Nat) ob, G[id]? = some ob → ob.live = true → ρ id ≠ none → c id = some ob)
    (hext : Ext ρ ρ' G.length G'.length) (hfree : Free ρ G.length G'.length) (hr : RelF ρ' (hp G') w') (hf : Frm ρ ρ' (hp G) (hp G') w w') (ha : AbsOk G G' M) : RelF ρ' (mergeC c G' M G.length) w' := by
  have hold : ∀ {id pl}, ρ' id = some pl → ¬ (G.length ≤ id ∧ id < G'.length) → ρ id = some pl := by
    intro id pl h hn
    cases hρ : ρ id with
    | none => exact absurd (hext.dom id pl h hρ) hn
    | some p => have := hext.le id p hρ; rw [h] at this; cases this; rfl
  -- an object behind the step is one of the part's, or one outside it that is as it was
  have hcl : ∀ {id ob pl}, mergeC c G' M G.length id = some ob → ρ' id = some pl → ob.live = true → hp G' id = some ob ∨ (c id = some ob ∧ ρ id = some pl ∧ ∀ ob2, hp G id = some ob2 → ob2.live = false) := by
    intro id ob pl h hp' hl
    unfold mergeC at h
    split at h
    · exact .inl h
    · rename_i hn
      have hn' : id ∉ M ∧ ¬ (G.length ≤ id ∧ id < G'.length) := ⟨fun hm => hn (.inl hm), fun hm => hn (.inr hm)⟩
      have hρ := hold hp' hn'.2
      by_cases hlv : ∃ ob2, hp G id = some ob2 ∧ ob2.live = true
      · obtain ⟨ob2, h2, h3⟩ := hlv
        have hid : id < G.length := (List.getElem?_eq_some_iff.1 h2).1
        have := hsub id ob2 h2 h3 (by rw [hρ]; simp)
        rw [h] at this; cases this
        left
        show G'[id]? = _
        rw [ha.log id hid hn'.1]; exact h2
      · refine .inr ⟨h, hρ, fun ob2 h2 => ?_⟩
        cases hl2 : ob2.live with
        | false => rfl
        | true => exact absurd ⟨ob2, h2, hl2⟩ hlv
  have hown : ∀ {id ob pl}, hp G' id = some ob → ρ id = some pl → ob.live = true → ∃ ob2, hp G id = some ob2 ∧ ob2.live = true ∧ ob2.own = ob.own := by
    intro id ob pl h hρ hl
    have hid' : id < G'.length := (List.getElem?_eq_some_iff.1 h).1
    rcases Nat.lt_or_ge id G.length with hlt | hge
    · exact ha.flags id ob hlt h hl
    · have := hfree id hge hid'; rw [this] at hρ; cases hρ
  refine ⟨hr.bound, ?_, ?_⟩
  · intro id ob pl h hp' hl
    rcases hcl h hp' hl with h1 | ⟨h1, h2, h3⟩
    · exact hr.obj id ob pl h1 hp' hl
    · refine (hc.obj id ob pl h1 h2 hl).same_block hext.le (hf.blocks _ (hc.bound _ _ h2) fun i oi pi a1 a2 a3 a4 hb => ?_)
      have hi : i ≠ id := fun e => by subst e; rw [h3 oi a1] at a3; cases a3
      exact hc.inj i id oi ob pi pl (hsub i oi a1 a3 (by rw [a2]; simp)) h1 a2 h2 a3 a4 hl hi hb
  · intro i j oi oj pi pj hi hj hpi hpj a1 a2 a3 hij
    rcases hcl hi hpi a1 with h1 | ⟨h1, h2, h3⟩ <;> rcases hcl hj hpj a3 with k1 | ⟨k1, k2, k3⟩
    · exact hr.inj i j oi oj pi pj h1 k1 hpi hpj a1 a2 a3 hij
    · cases hρ : ρ i with
      | some p =>
        have := hext.le i p hρ; rw [hpi] at this; cases this
        obtain ⟨o2, b1, b2, b3⟩ := hown h1 hρ a1
        exact hc.inj i j o2 oj pi pj (hsub i o2 b1 b2 (by rw [hρ]; simp)) k1 hρ k2 b2 (b3.trans a2) a3 hij
      | none =>
        have hb := hc.bound _ _ k2
        rcases hf.fresh i pi hpi hρ with h | ⟨i0, o0, p0, b1, b2, b3, b4, b5, _⟩
        · omega
        · have hne : i0 ≠ j := fun e => by subst e; rw [k3 o0 b1] at b3; cases b3
          rw [← b5]
          exact hc.inj i0 j o0 oj p0 pj (hsub i0 o0 b1 b3 (by rw [b2]; simp)) k1 b2 k2 b3 b4 a3 hne
    · cases hρ : ρ j with
      | some p =>
        have := hext.le j p hρ; rw [hpj] at this; cases this
        obtain ⟨o2, b1, b2, b3⟩ := hown k1 hρ a3
        exact hc.inj i j oi o2 pi pj h1 (hsub j o2 b1 b2 (by rw [hρ]; simp)) h2 hρ a1 a2 b2 hij
      | none =>
        have hb := hc.bound _ _ h2
        rcases hf.fresh j pj hpj hρ with h | ⟨i0, o0, p0, b1, b2, b3, b4, b5, _⟩
        · omega
        · have hne : i0 ≠ i := fun e => by subst e; rw [h3 o0 b1] at b3; cases b3
          rw [← b5]
          exact fun e => hc.inj i0 i o0 oi p0 pi (hsub i0 o0 b1 b3 (by rw [b2]; simp)) h1 b2 h2 b3 b4 a1 hne e.symm
    · exact hc.inj i j oi oj pi pj h1 k1 h2 k2 a1 a2 a3 hij

/-- No dead object is alive again. -/
def Flags (ρ : Pl) (c c' : Nat → Option Ob) : Prop := ∀ id ob' pl, ρ id = some pl → c' id = some ob' → ob'.live = true → ∃ ob, c id = some ob ∧ ob.live = true ∧ ob.own = ob'.own

theorem merge_flags {ρ ρ' : Pl} {c : Nat → Option Ob} {G G' : List Ob} {M : List Nat} (hsub : ∀ (id : Nat) ob, G[id]? = some ob → ob.live = true → ρ id ≠ none → c id = some ob) (hfree : Free ρ G.length G'.length) (ha : AbsOk G G' M) :
    Flags ρ c (mergeC c G' M G.length) := by
  intro id ob' pl hρ h hl
  unfold mergeC at h
  split at h
  · rename_i hm
    have hid' : id < G'.length := (List.getElem?_eq_some_iff.1 h).1
    rcases Nat.lt_or_ge id G.length with hlt | hge
    · obtain ⟨o2, b1, b2, b3⟩ := ha.flags id ob' hlt h hl
      exact ⟨o2, hsub id o2 b1 b2 (by rw [hρ]; simp), b2, b3⟩
    · have := hfree id hge hid'; rw [this] at hρ; cases hρ
  · exact ⟨ob', h, hl, rfl⟩

theorem merge_frm {ρ ρ' : Pl} {c : Nat → Option Ob} {G G' : List Ob} {M : List Nat} {w w' : World} (hsub : ∀ (id : Nat) ob, G[id]? = some ob → ob.live = true → ρ id ≠ none → c id = some ob) (hf : Frm ρ ρ' (hp G) (hp G') w w') (ha : AbsOk G G' M) :
    Frm ρ ρ' c (mergeC c G' M G.length) w w' := by
  refine ⟨hf.os, hf.tape, hf.output, hf.size, fun b hb k => hf.blocks b hb fun id ob pl h1 h2 h3 h4 => k id ob pl (hsub id ob h1 h3 (by rw [h2]; simp)) h2 h3 h4, fun id pl h1 h2 => ?_⟩
  rcases hf.fresh id pl h1 h2 with h | ⟨i, ob, p0, b1, b2, b3, b4, b5, b6⟩
  · exact .inl h
  · refine .inr ⟨i, ob, p0, hsub i ob b1 b3 (by rw [b2]; simp), b2, b3, b4, b5, fun ob' h' => ?_⟩
    have hid : i < G.length := (List.getElem?_eq_some_iff.1 b1).1
    have hM : i ∈ M := by
      apply Classical.byContradiction
      intro hn
      have := b6 ob (by show G'[i]? = _; rw [ha.log i hid hn]; exact b1)
      rw [b3] at this; cases this
    unfold mergeC at h'
    rw [if_pos (.inl hM)] at h'
    exact b6 ob' h'

theorem Frm.trans {ρ ρ1 ρ2 : Pl} {c c1 c2 : Nat → Option Ob} {w w1 w2 : World} (h : Frm ρ ρ1 c c1 w w1) (k : Frm ρ1 ρ2 c1 c2 w1 w2) (hle : PlLe ρ ρ1) (hle2 : PlLe ρ1 ρ2) (f1 : Flags ρ c c1) (f2 : Flags ρ c1 c2) : Frm ρ ρ2 c c2 w w2 := by
  have hnone : ∀ {id pl}, ρ1 id = some pl → ρ id = none ∨ ρ id = some pl := by
    intro id pl h
    cases hρ : ρ id with
    | none => exact .inl rfl
    | some p => have := hle id p hρ; rw [h] at this; cases this; exact .inr rfl
  refine ⟨k.os.trans h.os, k.tape.trans h.tape, k.output.trans h.output, Nat.le_trans h.size k.size, fun b hb hn => ?_, fun id pl h2 h0 => ?_⟩
  · have e1 := h.blocks b hb hn
    rw [k.blocks b (Nat.lt_of_lt_of_le hb h.size) fun id ob pl a1 a2 a3 a4 hbe => ?_]
    · exact e1
    · rcases hnone a2 with hρ | hρ
      · rcases h.fresh id pl a2 hρ with h5 | ⟨i, oi, p0, b1, b2, b3, b4, b5, b6⟩
        · omega
        · exact hn i oi p0 b1 b2 b3 b4 (b5.trans hbe)
      · obtain ⟨o2, b1, b2, b3⟩ := f1 id ob pl hρ a1 a3
        exact hn id o2 pl b1 hρ b2 (b3.trans a4) hbe
  · cases h1 : ρ1 id with
    | some p =>
      have hpp := hle2 id p h1
      rw [h2] at hpp; cases hpp
      rcases h.fresh id pl h1 h0 with h5 | ⟨i, oi, p0, b1, b2, b3, b4, b5, b6⟩
      · exact .inl h5
      · refine .inr ⟨i, oi, p0, b1, b2, b3, b4, b5, fun ob' h' => ?_⟩
        cases hl : ob'.live with
        | false => rfl
        | true =>
          obtain ⟨o2, g1, g2, _⟩ := f2 i ob' p0 b2 h' hl
          rw [b6 o2 g1] at g2; cases g2
    | none =>
      rcases k.fresh id pl h2 h1 with h5 | ⟨i, oi, p0, b1, b2, b3, b4, b5, b6⟩
      · exact .inl (Nat.le_trans h.size h5)
      · rcases hnone b2 with hρ | hρ
        · rcases h.fresh i p0 b2 hρ with h6 | ⟨i', oi', p0', d1, d2, d3, d4, d5, d6⟩
          · left; omega
          · refine .inr ⟨i', oi', p0', d1, d2, d3, d4, d5.trans b5, fun ob' h' => ?_⟩
            cases hl : ob'.live with
            | false => rfl
            | true =>
              obtain ⟨o2, g1, g2, _⟩ := f2 i' ob' p0' d2 h' hl
              rw [d6 o2 g1] at g2; cases g2
        · obtain ⟨o2, g1, g2, g3⟩ := f1 i oi p0 hρ b1 b3
          exact .inr ⟨i, o2, p0, g1, hρ, g2, g3.trans b4, b5, b6⟩

end Go.Ev

/-
  Calls; one operation as a step.
-/
set_option linter.unusedSimpArgs false
set_option linter.unusedVariables false
namespace Go.Ev
open Go.RowKit

/-- What isn't there in the world isn't changed. -/
def Pres (ρ : Pl) (H H' : List Ob) : Prop := ∀ id, id < H.length → ρ id = none → H'[id]? = H[id]?

structure Post1 (ρ : Pl) (H : List Ob) (w : World) (v : Value) (H' : List Ob) (v' : Value) (w' : World) (ρ' : Pl) : Prop extends Post ρ H w v H' v' w' ρ' where
  pres : Pres ρ H H'

/-- A call does what the evaluator says. -/
def CallOk (P : Program) (f : FuncId) (args : List Value) (H : List Ob) (v : Value) (H' : List Ob) : Prop :=
  ∀ (ρ : Pl) (args' : List Value) (w : World), LRel ρ args args' → RelF ρ (hp H) w → Free ρ H.length H'.length → ∀ (o : Oper) (a : Act) (K : Act → World → Prop) (Q : Exit → Act → World → Prop),
    (∀ v' w' ρ', Post1 ρ H w v H' v' w' ρ' → K (a.put o.dst v') w') → o.upon P a K Q ((callFunc f args'.toArray).run P w)

def OperOk (P : Program) (o : Oper) (e : Env) (H : List Ob) (v : Value) (H' : List Ob) : Prop :=
  ∀ (ρ : Pl) (a : Act) (w : World), OpRel ρ e a o.op.operands.toList → RelF ρ (hp H) w → Free ρ H.length H'.length → ∀ (K : Act → World → Prop) (Q : Exit → Act → World → Prop),
    (∀ v' w' ρ', Post1 ρ H w v H' v' w' ρ' → K (a.put o.dst v') w') → o.wp P a w K Q

theorem OpOk.oper {P : Program} {o : Oper} {e : Env} {H H' : List Ob} {v : Value} (h : OpOk P o e H v H') (hpr : ∀ (ρ : Pl) (a : Act), OpRel ρ e a o.op.operands.toList → Pres ρ H H') : OperOk P o e H v H' := by
  intro ρ a w h1 h2 h3 K Q hK
  obtain ⟨nx, v', w', ρ', hr, hn, hp⟩ := h ρ a w h1 h2 h3
  unfold Oper.wp
  rw [hr]
  cases nx <;> simp only [nextVal] at hn <;> first
    | (subst hn; exact hK _ _ _ ⟨hp, hpr ρ a h1⟩)
    | exact hn.elim

def OkOps (o : Oper) : Prop := o.op.operands.toList.all okConst = true

/-- What is known of one step of the evaluator. -/
structure StepGood (P : Program) (ao : AOp) (e : Env) (H : List Ob) (v : Value) (H' : List Ob) (t : Option (List Nat)) (M : List Nat) : Prop where
  abs : AbsOk H H' M
  ok : ∀ o : Oper, compOp P o = some ao → OperOk P o e H v H'
  loc : ∀ l, t = some l → ∀ G : List Ob, G.length = H.length → (∀ id ∈ l, G[id]? = H[id]?) → ∃ G', LocalAt H H' G G' M ∧ AbsOk G G' M ∧ ∀ o : Oper, compOp P o = some ao → OperOk P o e G v G'
  mt : ∀ l, t = some l → ∀ id ∈ M, id ∈ l
  free : ao.free = true → t = some [] ∧ M = []
  quiet : ao.quiet = true → M = []

structure TabOk (P : Program) (T : Tab) : Prop where
  fn : ∀ f af, T.fn f = some af → ∃ fn, P.funcs[f]? = some fn ∧ compFun P fn = some af.strip ∧ (fn.name == "runtime.NumGoroutine") = false
  ext : ∀ f args v, T.fn f = none → T.ext f args = some v → args.all rf = true → (∀ ρ, VRel ρ v v) ∧ ∀ w, (callFunc f args.toArray).run P w = .ok (.value v) w

section
variable {P : Program} {T : Tab}

theorem run_resolve_func {f : FuncId} {xs : Array Operand} {ρ : Operand → Value} {c : Call} {ty : TypeId} (hc : c.callee = .value (.func f)) (hf : ρ (.func f) = .func (.func f) #[] #[]) (w : World) :
    (do let d ← resolve ρ c ty; invoke d.target d.args : Sem Next).run P w = (callFunc f (c.args.map ρ)).run P w := by
  simp [resolve, hc, hf, Deferred.ofValue, invoke]

theorem free_empty (n : Nat) : Free (fun _ => none) 0 n := fun _ _ _ => rfl
theorem rel_empty (w : World) : RelF (fun _ => none) (hp []) w := ⟨fun _ _ h => by simp at h, fun _ _ _ h => by simp [hp] at h, fun _ _ _ _ _ _ h => by simp [hp] at h⟩

/-- A call by value: whatever the heap. -/
theorem callOk_byVal {f : FuncId} {args : List Value} {v : Value} {H' : List Ob} (h : CallOk P f args [] v H') (ha : args.all rf = true) (hv : rf v = true) (H : List Ob) : CallOk P f args H v H := by
  intro ρ args' w hl hrel hfree o a K Q hK
  refine h (fun _ => none) args' w (hl.rf_any ha) (rel_empty w) (free_empty _) o a K Q fun v' w' ρ' hp => hK v' w' ρ ⟨?_, fun _ _ _ => rfl⟩
  have hb : ∀ b, b < w.heap.size → w'.heap[b]? = w.heap[b]? := fun b hb => hp.frm.blocks b hb fun id ob pl h1 => by simp [Ev.hp] at h1
  refine ⟨.refl _ _ _, hp.val.rf_any hv, ⟨fun id pl h => Nat.lt_of_lt_of_le (hrel.bound id pl h) hp.frm.size, fun id ob pl h1 h2 h3 => (hrel.obj id ob pl h1 h2 h3).same_block (.refl _) (hb _ (hrel.bound _ _ h2)), hrel.inj⟩,
    ⟨hp.frm.os, hp.frm.tape, hp.frm.output, hp.frm.size, fun b hb' _ => hb b hb', fun id pl h1 h2 => by rw [h2] at h1; cases h1⟩⟩

theorem simple_free {ao : AOp} (hs : ao.simple = true) (hf : ao.free = true) {e : Env} {H H' : List Ob} {v : Value} {t : Option (List Nat)} {M : List Nat} (h : simpleOp H e ao = some (v, H', t, M)) : t = some [] ∧ M = [] := by
  have hp : ∀ r, pureV H r = some (v, H', t, M) → t = some [] ∧ M = [] := fun r hr => (pureV_inv hr).2.2
  cases ao <;> simp only [simpleOp] at h <;> simp [AOp.free] at hf <;> first
    | exact hp _ h
    | skip
  case alloc z => simp only [Option.some.injEq, Prod.mk.injEq] at h; obtain ⟨_, _, rfl, rfl⟩ := h; simp
  case box x =>
    simp only [Option.bind_eq_some_iff] at h
    obtain ⟨_, _, h⟩ := h
    split at h
    · simp only [Option.some.injEq, Prod.mk.injEq] at h; obtain ⟨_, _, rfl, rfl⟩ := h; simp
    · cases h
  case s2b x =>
    simp only [Option.bind_eq_some_iff] at h
    obtain ⟨_, _, h⟩ := h
    split at h
    · split at h
      · simp only [Option.some.injEq, Prod.mk.injEq] at h; obtain ⟨_, _, rfl, rfl⟩ := h; simp
      · cases h
    · cases h
  case buildSlice cs l ps =>
    simp only [Option.bind_eq_some_iff, Option.some.injEq, Prod.mk.injEq] at h
    obtain ⟨_, _, _, _, _, _, rfl, rfl⟩ := h
    simp
  case makeSlice z b l c =>
    simp only [Option.bind_eq_some_iff] at h
    obtain ⟨_, _, _, _, h⟩ := h
    split at h
    · split at h
      · simp only [Option.some.injEq, Prod.mk.injEq] at h; obtain ⟨_, _, rfl, rfl⟩ := h; simp
      · cases h
    · cases h
  all_goals (first | (cases h; done) | simp [AOp.simple] at hs)

theorem simple_quiet {ao : AOp} (hs : ao.simple = true) (hf : ao.quiet = true) {e : Env} {H H' : List Ob} {v : Value} {t : Option (List Nat)} {M : List Nat} (h : simpleOp H e ao = some (v, H', t, M)) : M = [] := by
  by_cases hfr : ao.free = true
  · exact (simple_free hs hfr h).2
  cases ao <;> simp only [simpleOp] at h <;> simp [AOp.free] at hfr <;> simp [AOp.quiet] at hf <;> first | (simp [AOp.simple] at hs; done) | skip
  case load n a =>
    simp only [Option.bind_eq_some_iff] at h
    obtain ⟨_, _, h⟩ := h
    split at h
    · simp only [Option.bind_eq_some_iff] at h
      obtain ⟨_, _, h⟩ := h
      split at h
      · simp only [Option.bind_eq_some_iff, Option.some.injEq, Prod.mk.injEq] at h
        obtain ⟨_, _, _, _, _, rfl⟩ := h; rfl
      · cases h
    · cases h
  case b2s x =>
    simp only [Option.bind_eq_some_iff] at h
    obtain ⟨_, _, h⟩ := h
    split at h
    · simp only [Option.bind_eq_some_iff, Option.some.injEq, Prod.mk.injEq] at h
      obtain ⟨_, _, _, _, _, _, _, rfl⟩ := h; rfl
    · cases h
  case sliceSl es x lo hi mx =>
    simp only [Option.bind_eq_some_iff] at h
    obtain ⟨_, _, _, _, _, _, _, _, h⟩ := h
    split at h
    · simp only [Option.bind_eq_some_iff] at h
      obtain ⟨_, _, _, _, h⟩ := h
      split at h
      · simp only [Option.some.injEq, Prod.mk.injEq] at h; obtain ⟨_, _, _, rfl⟩ := h; rfl
      · cases h
    · simp only [Option.bind_eq_some_iff, Option.some.injEq, Prod.mk.injEq] at h
      obtain ⟨_, _, _, _, _, rfl⟩ := h; rfl
    · cases h

/-- What a simple operation changes is named by its operands. -/
theorem simple_names {ao : AOp} {e : Env} {H H' : List Ob} {v : Value} {t : Option (List Nat)} {M : List Nat} (h : simpleOp H e ao = some (v, H', t, M)) : (∀ l, t = some l → ∀ id ∈ M, id ∈ l) ∧
    ∀ id ∈ M, ∃ x y u, (ao = .store y x u ∨ (∃ b, ao = .append y b x u) ∨ ao = .copy y x u) ∧ ∃ v, opd e x = some v ∧ baseOf v = [id] := by
  have hnil : M = [] → (∀ l, t = some l → ∀ id ∈ M, id ∈ l) ∧ ∀ id ∈ M, ∃ x y u, (ao = .store y x u ∨ (∃ b, ao = .append y b x u) ∨ ao = .copy y x u) ∧ ∃ v, opd e x = some v ∧ baseOf v = [id] := by
    rintro rfl; simp
  have hs : ao.simple = true := by cases ao <;> first | rfl | (simp [simpleOp] at h)
  by_cases hq : ao.quiet = true
  · exact hnil (simple_quiet hs hq h)
  cases ao <;> simp [AOp.quiet] at hq <;> simp [AOp.simple] at hs
  case store n x y =>
    simp only [simpleOp, Option.bind_eq_some_iff] at h
    obtain ⟨u, hu, z, hz, h⟩ := h
    split at h
    · rename_i ad
      split at h
      · simp only [Option.bind_eq_some_iff, Option.some.injEq, Prod.mk.injEq] at h
        obtain ⟨H1, hst, _, _, rfl, rfl⟩ := h
        refine ⟨fun l hl id hid => (by cases hl; exact hid), fun id hid => ⟨x, n, y, .inl rfl, _, hu, ?_⟩⟩
        simp at hid; subst hid; rfl
      · cases h
    · cases h
  case append es b x y =>
    simp only [simpleOp, Option.bind_eq_some_iff] at h
    obtain ⟨sv, hsv, xv, hxv, h⟩ := h
    unfold appendV at h
    split at h
    · rename_i base len cap
      simp only [Option.bind_eq_some_iff] at h
      obtain ⟨n, _, new, _, h⟩ := h
      split at h
      · simp only [Option.some.injEq, Prod.mk.injEq] at h; obtain ⟨_, _, _, rfl⟩ := h; exact hnil rfl
      · split at h
        · cases h
        · split at h
          · split at h
            · simp only [Option.some.injEq, Prod.mk.injEq] at h; obtain ⟨_, _, _, rfl⟩ := h; exact hnil rfl
            · cases h
          · rename_i ad
            simp only [Option.bind_eq_some_iff] at h
            obtain ⟨ob, hob, old, _, h⟩ := h
            have key : M = [ad.block] → t = none → (∀ l, t = some l → ∀ id ∈ M, id ∈ l) ∧ ∀ id ∈ M, ∃ x' y' u, (AOp.append es b x y = .store y' x' u ∨ (∃ b', AOp.append es b x y = .append y' b' x' u) ∨ AOp.append es b x y = .copy y' x' u) ∧ ∃ v, opd e x' = some v ∧ baseOf v = [id] := by
              rintro rfl rfl
              refine ⟨fun l hl => (by cases hl), fun id hid => ⟨x, es, y, .inr (.inl ⟨b, rfl⟩), _, hsv, ?_⟩⟩
              simp at hid; subst hid; rfl
            split at h
            · cases h
            · split at h
              · simp only [Option.bind_eq_some_iff, Option.some.injEq, Prod.mk.injEq] at h
                obtain ⟨H1, hst, _, _, rfl, rfl⟩ := h
                exact key rfl rfl
              · split at h
                · simp only [Option.some.injEq, Prod.mk.injEq] at h; obtain ⟨_, _, _, rfl⟩ := h; exact hnil rfl
                · split at h
                  · simp only [Option.some.injEq, Prod.mk.injEq] at h
                    obtain ⟨_, _, rfl, rfl⟩ := h
                    exact key rfl rfl
                  · cases h
    · cases h
  case copy es x y =>
    simp only [simpleOp, Option.bind_eq_some_iff] at h
    obtain ⟨dv, hdv, _, _, h⟩ := h
    split at h
    · rename_i base dl cap
      simp only [Option.bind_eq_some_iff] at h
      obtain ⟨_, _, _, _, h⟩ := h
      split at h
      · simp only [Option.bind_eq_some_iff, Option.some.injEq, Prod.mk.injEq] at h
        obtain ⟨H1, hst, _, _, rfl, rfl⟩ := h
        refine ⟨fun l hl => (by cases hl), fun id hid => ⟨x, es, y, .inr (.inr rfl), _, hdv, ?_⟩⟩
        simp at hid; subst hid; rfl
      · split at h
        · simp only [Option.some.injEq, Prod.mk.injEq] at h; obtain ⟨_, _, _, rfl⟩ := h; exact hnil rfl
        · cases h
    · cases h

theorem base_rel {ρ : Pl} {v v' : Value} {id : Nat} (h : VRel ρ v v') (hb : baseOf v = [id]) : ρ id ≠ none := by
  cases h with
  | same hs =>
    cases v with
    | pointer a => cases a with
      | none => simp [baseOf] at hb
      | some a => simp [scalarRf] at hs
    | slice a n m => cases a with
      | none => simp [baseOf] at hb
      | some a => simp [scalarRf] at hs
    | _ => simp [baseOf] at hb
  | ptr h1 h2 => simp [baseOf] at hb; subst hb; rw [h1]; simp
  | slice h1 _ _ _ _ _ _ _ => simp [baseOf] at hb; subst hb; rw [h1]; simp
  | func _ _ => simp [baseOf] at hb
  | iface _ => simp [baseOf] at hb
  | agg _ _ => simp [baseOf] at hb
  | tuple _ => simp [baseOf] at hb

theorem simple_pres {ao : AOp} {o : Oper} (hc : compOp P o = some ao) {e : Env} {H H' : List Ob} {v : Value} {t : Option (List Nat)} {M : List Nat} (h : simpleOp H e ao = some (v, H', t, M)) {ρ : Pl} {a : Act} (hop : OpRel ρ e a o.op.operands.toList) : Pres ρ H H' := by
  intro id hid hn
  refine (simple_abs h).log id hid fun hm => ?_
  obtain ⟨x, y, u, hao, w, hw, hb⟩ := (simple_names h).2 id hm
  have hx : x ∈ o.op.operands.toList := by
    rcases hao with rfl | ⟨b, rfl⟩ | rfl
    · cases hop' : o.op <;> simp only [compOp, hop'] at hc <;> first
        | (simp only [Option.map_eq_some_iff, AOp.store.injEq] at hc; obtain ⟨_, _, _, rfl, rfl⟩ := hc; simp [Op.operands]; done)
        | (exfalso; (repeat' (first | (simp at hc; done) | split at hc)) <;> (simp [Option.bind_eq_some_iff] at hc))
    · cases hop' : o.op with
      | call c =>
        simp only [compOp, hop'] at hc
        split at hc
        · simp at hc
        · simp at hc
        · split at hc
          · rename_i s z ts tx h1 h2
            have hs : s = x := by
              split at hc
              · simp only [Option.bind_eq_some_iff] at hc
                obtain ⟨_, _, _, _, hc⟩ := hc
                split at hc <;> simp at hc; exact hc.2.2.1
              · simp only [Option.bind_eq_some_iff] at hc
                obtain ⟨_, _, _, _, hc⟩ := hc
                split at hc <;> simp at hc; exact hc.2.2.1
              · cases hc
            subst hs
            simp only [Op.operands, Call.operands, Array.toList_append, List.mem_append]; right; rw [h1]; simp
          · cases hc
        all_goals (exfalso; (repeat' (first | (simp at hc; done) | split at hc)) <;> (simp [Option.bind_eq_some_iff] at hc))
      | _ => exfalso; simp only [compOp, hop'] at hc; (repeat' (first | (simp at hc; done) | split at hc)) <;> (simp [Option.bind_eq_some_iff] at hc)
    · cases hop' : o.op with
      | call c =>
        simp only [compOp, hop'] at hc
        split at hc
        · simp at hc
        · simp at hc
        · exfalso; (repeat' (first | (simp at hc; done) | split at hc)) <;> (simp [Option.bind_eq_some_iff] at hc)
        · split at hc
          · rename_i d s td ts h1 h2
            have hs : d = x := by
              split at hc
              · simp only [Option.map_eq_some_iff, AOp.copy.injEq] at hc; obtain ⟨_, _, _, h3, _⟩ := hc; exact h3
              · cases hc
            subst hs
            simp only [Op.operands, Call.operands, Array.toList_append, List.mem_append]; right; rw [h1]; simp
          · cases hc
        all_goals (exfalso; (repeat' (first | (simp at hc; done) | split at hc)) <;> (simp [Option.bind_eq_some_iff] at hc))
      | _ => exfalso; simp only [compOp, hop'] at hc; (repeat' (first | (simp at hc; done) | split at hc)) <;> (simp [Option.bind_eq_some_iff] at hc)
  exact base_rel (hop x hx w hw) hb hn

theorem simple_good {ao : AOp} (hs : ao.simple = true) {e : Env} {H H' : List Ob} {v : Value} {t : Option (List Nat)} {M : List Nat} (h : simpleOp H e ao = some (v, H', t, M)) : StepGood P ao e H v H' t M where
  abs := simple_abs h
  ok := fun o hc => (simple_ok hc hs h).oper fun ρ a hx => simple_pres hc h hx
  loc := fun l hl G hG hag => by
    subst hl
    obtain ⟨G', h1, h2⟩ := simple_local h hG hag
    exact ⟨G', h2, simple_abs h1, fun o hc => (simple_ok hc hs h1).oper fun ρ a hx => simple_pres hc h1 hx⟩
  mt := (simple_names h).1
  free := fun hf => simple_free hs hf h
  quiet := fun hf => simple_quiet hs hf h

theorem comp_call {o : Oper} {f : FuncId} {xs : List Operand} {b : Bool} (hc : compOp P o = some (.call f xs b)) : ∃ c, o.op = .call c ∧ c.callee = .value (.func f) ∧ c.args.toList = xs := by
  cases hop : o.op with
  | call c =>
    refine ⟨c, rfl, ?_⟩
    simp only [compOp, hop] at hc
    split at hc
    · rename_i g hcal; simp only [Option.some.injEq, AOp.call.injEq] at hc; obtain ⟨rfl, rfl, _⟩ := hc; exact ⟨hcal, rfl⟩
    · simp at hc
    all_goals (exfalso; (repeat' (first | (simp at hc; done) | split at hc)) <;> (simp [Option.bind_eq_some_iff] at hc))
  | _ => exfalso; simp only [compOp, hop] at hc; (repeat' (first | (simp at hc; done) | split at hc)) <;> (simp [Option.bind_eq_some_iff] at hc)

theorem comp_callv {o : Oper} {f : Operand} {xs : List Operand} (hc : compOp P o = some (.callv f xs)) : ∃ c, o.op = .call c ∧ c.callee = .value f ∧ c.args.toList = xs := by
  cases hop : o.op with
  | call c =>
    refine ⟨c, rfl, ?_⟩
    simp only [compOp, hop] at hc
    split at hc
    · simp at hc
    · rename_i g hcal; simp only [Option.some.injEq, AOp.callv.injEq] at hc; obtain ⟨rfl, rfl⟩ := hc; exact ⟨by assumption, rfl⟩
    all_goals (exfalso; (repeat' (first | (simp at hc; done) | split at hc)) <;> (simp [Option.bind_eq_some_iff] at hc))
  | _ => exfalso; simp only [compOp, hop] at hc; (repeat' (first | (simp at hc; done) | split at hc)) <;> (simp [Option.bind_eq_some_iff] at hc)

theorem operOk_call {o : Oper} {f : FuncId} {xs : List Operand} {b : Bool} (hc : compOp P o = some (.call f xs b)) {e : Env} {args : List Value} (hx : opds e xs = some args) {H H' : List Ob} {v : Value} (h : CallOk P f args H v H') : OperOk P o e H v H' := by
  obtain ⟨c, ho, hcal, hargs⟩ := comp_call hc
  intro ρ a w hop hrel hfree K Q hK
  rw [ho] at hop
  have hl : LRel ρ args (xs.map a.eval) := opds_rel (hop.of_sub fun y hy => by simp only [Op.operands, Call.operands, Array.toList_append, List.mem_append]; right; rw [hargs]; exact hy) hx
  have hr := h ρ (xs.map a.eval) w hl hrel hfree o a K Q hK
  unfold Oper.wp
  have : (execOp a.eval o).run P w = (callFunc f (xs.map a.eval).toArray).run P w := by
    simp only [execOp, ho]
    rw [run_resolve_func (f := f) (xs := c.args) hcal rfl]
    congr 2
    apply Array.toList_inj.1
    rw [Array.toList_map, hargs]
  rw [this]; exact hr

theorem operOk_callv {o : Oper} {f : Operand} {xs : List Operand} (hc : compOp P o = some (.callv f xs)) {e : Env} {g : FuncId} {fi ca : Array Value} {args : List Value} (hf : opd e f = some (.func (.func g) fi ca)) (hx : opds e xs = some args) {H H' : List Ob} {v : Value}
    (h : CallOk P g (fi.toList ++ args ++ ca.toList) H v H') : OperOk P o e H v H' := by
  obtain ⟨c, ho, hcal, hargs⟩ := comp_callv hc
  intro ρ a w hop hrel hfree K Q hK
  rw [ho] at hop
  have hl : LRel ρ args (xs.map a.eval) := opds_rel (hop.of_sub fun y hy => by simp only [Op.operands, Call.operands, Array.toList_append, List.mem_append]; right; rw [hargs]; exact hy) hx
  have hfv : VRel ρ (.func (.func g) fi ca) (a.eval f) := hop f (by simp [Op.operands, Call.operands, hcal]) _ hf
  have hfi : ∃ fi' ca' : List Value, a.eval f = .func (.func g) fi'.toArray ca'.toArray ∧ LRel ρ fi.toList fi' ∧ LRel ρ ca.toList ca' := by
    generalize a.eval f = u at hfv
    cases hfv with
    | same hs =>
      simp only [scalarRf, Bool.and_eq_true, Array.isEmpty_iff] at hs
      obtain ⟨rfl, rfl⟩ := hs
      exact ⟨[], [], rfl, .nil, .nil⟩
    | func p q => exact ⟨_, _, rfl, p, q⟩
  obtain ⟨fi', ca', e1, e2, e3⟩ := hfi
  have hr := h ρ (fi' ++ xs.map a.eval ++ ca') w ((e2.append hl).append e3) hrel hfree o a K Q hK
  unfold Oper.wp
  have : (execOp a.eval o).run P w = (callFunc g (fi' ++ xs.map a.eval ++ ca').toArray).run P w := by
    simp only [execOp, ho, resolve, hcal, e1, Deferred.ofValue, Sem.run_bind, Sem.run_pure, Result.andThen_ok, invoke]
    congr 2
    apply Array.toList_inj.1
    simp [hargs]
  rw [this]; exact hr

end
end Go.Ev

/-
  Operations one behind the other; what the compiler says of the orders.
-/
set_option linter.unusedSimpArgs false
set_option linter.unusedVariables false
namespace Go.Ev
open Go.RowKit

def EnvRel (ρ : Pl) (e : Env) (a : Act) : Prop := ∀ t v, e.get t = some v → ∃ v', a.tmps[t]? = some v' ∧ VRel ρ v v'

theorem EnvRel.mono {ρ ρ' : Pl} {e : Env} {a : Act} (h : EnvRel ρ e a) (hle : PlLe ρ ρ') : EnvRel ρ' e a := fun t v ht => by
  obtain ⟨v', h1, h2⟩ := h t v ht
  exact ⟨v', h1, h2.mono hle⟩

theorem opRel_one {ρ : Pl} {e : Env} {a : Act} {x : Operand} (hc : okConst x = true) (h : ∀ t, x = .tmp t → ∀ v, e.get t = some v → ∃ v', a.tmps[t]? = some v' ∧ VRel ρ v v') {v : Value} (hv : opd e x = some v) : VRel ρ v (a.eval x) := by
  cases x with
  | tmp t =>
    obtain ⟨v', h1, h2⟩ := h t rfl v hv
    simp only [Act.eval, Array.getD_eq_getD_getElem?, h1, Option.getD_some]; exact h2
  | const u => simp only [opd, Option.some.injEq] at hv; subst hv; exact VRel.of_const hc
  | global g => simp [okConst] at hc
  | func f => simp only [opd, Option.some.injEq] at hv; subst hv; exact .same rfl

theorem EnvRel.opRel {ρ : Pl} {e : Env} {a : Act} {xs : List Operand} (h : EnvRel ρ e a) (hc : xs.all okConst = true) : OpRel ρ e a xs :=
  fun x hx v hv => opRel_one (List.all_eq_true.1 hc x hx) (fun t _ v hv => h t v hv) hv

theorem get_put (e : Env) (dst : Option Nat) (v : Value) (t : Nat) : (e.put dst v).get t = if dst = some t then some v else e.get t := by
  cases dst with
  | none => simp [Env.put]
  | some d =>
    simp only [Env.put, Env.get, Option.some.injEq]
    by_cases c : t = d
    · subst c; simp
    · simp [c, Ne.symm c]

theorem tmps_put (a : Act) (dst : Option Nat) (v : Value) (hd : ∀ d, dst = some d → d < a.tmps.size) (t : Nat) : (a.put dst v).tmps[t]? = if dst = some t then some v else a.tmps[t]? := by
  cases dst with
  | none => simp [Act.put]
  | some d =>
    have := hd d rfl
    simp only [Act.put, Array.getElem?_setIfInBounds, Option.some.injEq]
    by_cases c : d = t
    · subst c; simp [this]
    · simp [c]

theorem put_defers (a : Act) (dst : Option Nat) (v : Value) : (a.put dst v).defers = a.defers := by cases dst <;> rfl
theorem put_size (a : Act) (dst : Option Nat) (v : Value) : (a.put dst v).tmps.size = a.tmps.size := by cases dst <;> simp [Act.put]

theorem EnvRel.put {ρ : Pl} {e : Env} {a : Act} (h : EnvRel ρ e a) {dst : Option Nat} {v v' : Value} (hv : VRel ρ v v') (hd : ∀ d, dst = some d → d < a.tmps.size) : EnvRel ρ (e.put dst v) (a.put dst v') := by
  intro t u ht
  rw [get_put] at ht
  rw [tmps_put _ _ _ hd]
  split at ht
  · cases ht; rename_i hc; rw [if_pos hc]; exact ⟨v', rfl, hv⟩
  · rename_i hc; rw [if_neg hc]; exact h t u ht

theorem keep_get : ∀ (l : List Nat) (e : Env) (t : Nat) (v : Value), (e.keep l).get t = some v → e.get t = some v
  | [], e, t, v, h => by simp [Env.keep, Env.get] at h
  | u :: l, e, t, v, h => by
    unfold Env.keep at h
    split at h
    · rename_i x hx
      simp only [Env.get] at h
      split at h
      · subst_vars; cases h; exact hx
      · exact keep_get l e t v h
    · exact keep_get l e t v h

theorem EnvRel.after {ρ : Pl} {s : St} {a : Act} (h : EnvRel ρ s.env a) (keep : Option (List Nat)) : EnvRel ρ (s.after keep).env a := by
  cases keep with
  | none => exact h
  | some l => exact fun t v ht => h t v (keep_get l _ t v ht)

theorem after_h (s : St) (keep : Option (List Nat)) : (s.after keep).h = s.h ∧ (s.after keep).log = s.log := by cases keep <;> exact ⟨rfl, rfl⟩

/-- One step of the evaluator through a list of operations. -/
def StepAt (P : Program) (base : Nat) (ao : AOper) (s s' : St) (r : Rec) : Prop :=
  (guardOf s.env ao.guard = some true ∧ ∃ v H' t M, StepGood P ao.op s.env s.h v H' t M ∧ s' = ⟨s.env.put ao.dst v, H', inMerge base s.log M⟩ ∧ r = (t, M)) ∨
  (guardOf s.env ao.guard = some false ∧ s' = ⟨s.env.put ao.dst undef, s.h, s.log⟩ ∧ r = (some [], []))

structure Trace (P : Program) (base : Nat) (aops : List AOper) (s s' : St) (recs0 recs : List Rec) (S : Nat → St) (R : Nat → Rec) : Prop where
  first : S 0 = s
  last : S aops.length = s'
  recs : recs = recs0 ++ (List.range aops.length).map R
  step : ∀ j ao, aops[j]? = some ao → StepAt P base ao (S j) (S (j + 1)) (R j)

theorem Trace.nil {P : Program} {base : Nat} {s : St} {recs : List Rec} : Trace P base [] s s recs recs (fun _ => s) (fun _ => (none, [])) := ⟨rfl, rfl, by simp, fun j ao h => by simp at h⟩

theorem Trace.cons {P : Program} {base : Nat} {ao : AOper} {aops : List AOper} {s s1 s' : St} {r : Rec} {recs0 recs : List Rec} {S : Nat → St} {R : Nat → Rec} (h1 : StepAt P base ao s s1 r) (h : Trace P base aops s1 s' (recs0 ++ [r]) recs S R) :
    Trace P base (ao :: aops) s s' recs0 recs (fun | 0 => s | j + 1 => S j) (fun | 0 => r | j + 1 => R j) := by
  refine ⟨rfl, h.last, ?_, fun j x hx => ?_⟩
  · rw [h.recs, List.length_cons, List.range_succ_eq_map]; simp [Function.comp_def]
  · cases j with
    | zero => simp at hx; subst hx; simp only; rw [h.first]; exact h1
    | succ j => exact h.step j x (by simpa using hx)

theorem inMerge_mem (base : Nat) : ∀ (M log : List Nat) (id : Nat), id ∈ inMerge base log M ↔ id ∈ log ∨ (id ∈ M ∧ id < base)
  | [], log, id => by simp [inMerge]
  | i :: M, log, id => by
    unfold inMerge
    split
    · rename_i hc
      rw [inMerge_mem base M]
      simp only [List.mem_append, List.mem_cons, List.not_mem_nil, or_false]
      constructor
      · rintro ((h | rfl) | ⟨h, h'⟩)
        · exact .inl h
        · exact .inr ⟨.inl rfl, hc.1⟩
        · exact .inr ⟨.inr h, h'⟩
      · rintro (h | ⟨rfl | h, h'⟩)
        · exact .inl (.inl h)
        · exact .inl (.inr rfl)
        · exact .inr ⟨h, h'⟩
    · rename_i hc
      rw [inMerge_mem base M]
      simp only [List.mem_cons]
      constructor
      · rintro (h | ⟨h, h'⟩)
        · exact .inl h
        · exact .inr ⟨.inr h, h'⟩
      · rintro (h | ⟨rfl | h, h'⟩)
        · exact .inl h
        · by_cases hl : id ∈ log
          · exact .inl hl
          · exact absurd ⟨h', hl⟩ hc
        · exact .inr ⟨h, h'⟩

/-- What a piece of code keeps to, in a function that began with so many objects. -/
structure CAbs (base : Nat) (s s' : St) : Prop where
  len : s.h.length ≤ s'.h.length
  flags : ∀ (id : Nat) ob', id < s.h.length → s'.h[id]? = some ob' → ob'.live = true → ∃ ob, s.h[id]? = some ob ∧ ob.live = true ∧ ob.own = ob'.own
  log : ∀ id : Nat, id < base → id < s.h.length → id ∉ s'.log → s'.h[id]? = s.h[id]?
  sub : ∀ id ∈ s.log, id ∈ s'.log
  ids : ∀ id ∈ s'.log, id ∈ s.log ∨ (id < base ∧ id < s'.h.length)

theorem CAbs.refl (base : Nat) (s : St) : CAbs base s s := ⟨Nat.le_refl _, fun _ ob' _ h h' => ⟨ob', h, h', rfl⟩, fun _ _ _ _ => rfl, fun _ h => h, fun _ h => .inl h⟩
theorem CAbs.trans {base : Nat} {a b c : St} (h : CAbs base a b) (k : CAbs base b c) : CAbs base a c := by
  refine ⟨Nat.le_trans h.len k.len, fun id ob h1 h2 h3 => ?_, fun id h1 h2 h3 => ?_, fun id hid => k.sub id (h.sub id hid), fun id hid => ?_⟩
  · obtain ⟨o1, a1, a2, a3⟩ := k.flags id ob (Nat.lt_of_lt_of_le h1 h.len) h2 h3
    obtain ⟨o2, b1, b2, b3⟩ := h.flags id o1 h1 a1 a2
    exact ⟨o2, b1, b2, b3.trans a3⟩
  · rw [k.log id h1 (Nat.lt_of_lt_of_le h2 h.len) h3, h.log id h1 h2 fun hm => h3 (k.sub id hm)]
  · rcases k.ids id hid with h1 | h1
    · rcases h.ids id h1 with h2 | h2
      · exact .inl h2
      · exact .inr ⟨h2.1, Nat.lt_of_lt_of_le h2.2 k.len⟩
    · exact .inr h1

theorem StepAt.abs {P : Program} {base : Nat} {ao : AOper} {s s' : St} {r : Rec} (h : StepAt P base ao s s' r) : AbsOk s.h s'.h r.2 ∧ CAbs base s s' := by
  rcases h with ⟨_, v, H', t, M, hg, rfl, rfl⟩ | ⟨_, rfl, rfl⟩
  · refine ⟨hg.abs, ⟨hg.abs.len, hg.abs.flags, fun id h1 h2 h3 => hg.abs.log id h2 fun hm => h3 ((inMerge_mem _ _ _ _).2 (.inr ⟨hm, h1⟩)), fun id h => (inMerge_mem _ _ _ _).2 (.inl h), fun id h => ?_⟩⟩
    rcases (inMerge_mem _ _ _ _).1 h with h1 | ⟨h1, h2⟩
    · exact .inl h1
    · exact .inr ⟨h2, Nat.lt_of_lt_of_le (hg.abs.ids id h1) hg.abs.len⟩
  · exact ⟨.refl _ _ (by simp), ⟨Nat.le_refl _, fun _ ob' _ h h' => ⟨ob', h, h', rfl⟩, fun _ _ _ _ => rfl, fun _ h => h, fun _ h => .inl h⟩⟩

theorem Trace.cabs {P : Program} {base : Nat} {aops : List AOper} {s s' : St} {recs0 recs : List Rec} {S : Nat → St} {R : Nat → Rec} (h : Trace P base aops s s' recs0 recs S R) {i j : Nat} (hij : i ≤ j) (hj : j ≤ aops.length) : CAbs base (S i) (S j) := by
  induction j with
  | zero => have : i = 0 := by omega
            subst this; exact .refl _ _
  | succ j ih =>
    rcases Nat.lt_or_ge i (j + 1) with hlt | hge
    · have hs := h.step j (aops[j]'(by omega)) (List.getElem?_eq_getElem (by omega))
      exact (ih (by omega) (by omega)).trans hs.abs.2
    · have : i = j + 1 := by omega
      subst this; exact .refl _ _

theorem flags_of {base : Nat} {s s' : St} {ρ : Pl} (h : CAbs base s s') (hfree : Free ρ s.h.length s'.h.length) : Flags ρ (hp s.h) (hp s'.h) := by
  intro id ob' pl hρ h1 h2
  have hid : id < s'.h.length := (List.getElem?_eq_some_iff.1 h1).1
  rcases Nat.lt_or_ge id s.h.length with hlt | hge
  · exact h.flags id ob' hlt h1 h2
  · have := hfree id hge hid; rw [this] at hρ; cases hρ

structure CPost (ρ : Pl) (s s' : St) (a : Act) (w : World) (a' : Act) (w' : World) (ρ' : Pl) : Prop where
  env : EnvRel ρ' s'.env a'
  defers : a'.defers = []
  size : a'.tmps.size = a.tmps.size
  ext : Ext ρ ρ' s.h.length s'.h.length
  rel : RelF ρ' (hp s'.h) w'
  frm : Frm ρ ρ' (hp s.h) (hp s'.h) w w'
  pres : Pres ρ s.h s'.h

theorem Free.later {ρ ρ1 : Pl} {n n1 n2 : Nat} (h : Free ρ n n2) (he : Ext ρ ρ1 n n1) (hn : n ≤ n1) : Free ρ1 n1 n2 := by
  intro id h1 h2
  cases hc : ρ1 id with
  | none => rfl
  | some pl =>
    have := he.dom id pl hc (h id (Nat.le_trans hn h1) h2)
    omega

theorem CPost.trans {base : Nat} {ρ ρ1 ρ2 : Pl} {s s1 s2 : St} {a a1 a2 : Act} {w w1 w2 : World} (h : CPost ρ s s1 a w a1 w1 ρ1) (k : CPost ρ1 s1 s2 a1 w1 a2 w2 ρ2) (c1 : CAbs base s s1) (c2 : CAbs base s1 s2) (hfree : Free ρ s.h.length s2.h.length) :
    CPost ρ s s2 a w a2 w2 ρ2 := by
  have f1 : Free ρ s.h.length s1.h.length := fun id h1 h2 => hfree id h1 (Nat.lt_of_lt_of_le h2 c2.len)
  refine ⟨k.env, k.defers, k.size.trans h.size, ⟨h.ext.le.trans k.ext.le, fun id pl h2 h0 => ?_⟩, k.rel, h.frm.trans k.frm h.ext.le k.ext.le (flags_of c1 f1) (flags_of c2 fun id h1 h2 => hfree id (Nat.le_trans c1.len h1) h2), fun id h1 h2 => ?_⟩
  · cases hρ1 : ρ1 id with
    | some p =>
      have := h.ext.dom id p hρ1 h0
      exact ⟨this.1, Nat.lt_of_lt_of_le this.2 c2.len⟩
    | none =>
      have := k.ext.dom id pl h2 hρ1
      exact ⟨Nat.le_trans c1.len this.1, this.2⟩
  · have hρ1 : ρ1 id = none := by
      cases hc : ρ1 id with
      | none => rfl
      | some pl => have := h.ext.dom id pl hc h2; omega
    rw [k.pres id (Nat.lt_of_lt_of_le h1 c1.len) hρ1, h.pres id h1 h2]

/-- What the compiler says of each operation. -/
theorem compOpers_get {P : Program} {n : Nat} {all : List Oper} : ∀ {ops : List Oper} {aops : List AOper}, compOpers P n all ops = some aops → aops.length = ops.length ∧ ∀ (j : Nat) (o : Oper), ops[j]? = some o → ∃ ao : AOper, aops[j]? = some ao ∧ compOp P o = some ao.op ∧ ao.dst = o.dst ∧
    compGuard all o.guard = some ao.guard ∧ o.op.operands.toList.all okConst = true ∧ ∀ d, o.dst = some d → d < n
  | [], aops, h => by simp [compOpers] at h; subst h; exact ⟨rfl, fun j o h => by simp at h⟩
  | o :: ops, aops, h => by
    simp only [compOpers] at h
    split at h
    · rename_i hc
      simp only [Option.bind_eq_some_iff, Option.map_eq_some_iff] at h
      obtain ⟨ao, h1, g, h2, l, h3, rfl⟩ := h
      obtain ⟨ih1, ih2⟩ := compOpers_get h3
      refine ⟨by simp [ih1], fun j x hx => ?_⟩
      cases j with
      | zero =>
        simp at hx; subst hx
        simp only [Bool.and_eq_true] at hc
        exact ⟨_, rfl, h1, rfl, h2, hc.1, fun d hd => by have := hc.2; rw [hd] at this; simpa using this⟩
      | succ j => simpa using ih2 j x (by simpa using hx)
    · cases h

theorem wanted_of {ρ : Pl} {e : Env} {a : Act} {ops : Array Oper} {o : Oper} {g : Option (Nat × Bool)} {b : Bool} (hg : compGuard ops.toList o.guard = some g) (hb : guardOf e g = some b)
    (hn : ∀ k want d, o.guard = some (k, want) → (ops[k]?).bind (·.dst) = some d → ∀ v, e.get d = some v → ∃ v', a.tmps[d]? = some v' ∧ VRel ρ v v') : Region.wanted o (yielded ops a.tmps) = b := by
  unfold Region.wanted
  cases ho : o.guard with
  | none =>
    rw [ho] at hg
    simp only [compGuard, Option.some.injEq] at hg
    subst hg
    simp only [guardOf, Option.some.injEq] at hb
    exact hb
  | some p =>
    obtain ⟨k, want⟩ := p
    rw [ho] at hg
    simp only [compGuard, Option.map_eq_some_iff] at hg
    obtain ⟨d, hd, rfl⟩ := hg
    simp only [guardOf, Option.bind_eq_some_iff] at hb
    obtain ⟨v, hv, hb⟩ := hb
    have hd' : (ops[k]?).bind (·.dst) = some d := by simpa using hd
    obtain ⟨v', h1, h2⟩ := hn k want d ho hd' v hv
    split at hb
    · rename_i t
      cases hb
      have := h2.bool
      subst this
      show (yielded ops a.tmps k == some want) = _
      unfold yielded
      rw [hd']
      simp [h1]
    · cases hb

section
variable {P : Program} {n base : Nat} {ops : Array Oper} {aops : List AOper} {s s' : St} {recs0 recs : List Rec} {S : Nat → St} {R : Nat → Rec} {Q : Exit → Act → World → Prop}

/-- A region whose order is fixed. -/
theorem seq_ok (hc : compOpers P n ops.toList ops.toList = some aops) (ht : Trace P base aops s s' recs0 recs S R) : ∀ (k j : Nat), j + k = aops.length → ∀ (ρ : Pl) (a : Act) (w : World), EnvRel ρ (S j).env a → a.defers = [] → n ≤ a.tmps.size → RelF ρ (hp (S j).h) w →
    Free ρ (S j).h.length s'.h.length → (∀ a' w' ρ', CPost ρ (S j) s' a w a' w' ρ' → Q .normal a' w') → wpOps P ops Q (List.range' j k) a w
  | 0, j, hj, ρ, a, w, h1, h2, h3, h4, h5, hQ => by
    simp only [List.range'_zero, wpOps]
    have hs : S j = s' := by rw [← ht.last]; congr 1
    rw [hs] at h1 h4 hQ
    exact hQ a w ρ ⟨h1, h2, rfl, .refl _ _ _, h4, .refl _ _ _ _, fun _ _ _ => rfl⟩
  | k + 1, j, hj, ρ, a, w, h1, h2, h3, h4, h5, hQ => by
    obtain ⟨hl, hget⟩ := compOpers_get hc
    have hjlt : j < ops.toList.length := by omega
    have hjs : j < ops.size := by simpa using hjlt
    obtain ⟨ao, ha1, ha2, ha3, ha4, ha5, ha6⟩ := hget j _ (List.getElem?_eq_getElem hjlt)
    have hoj : ops[j]? = some ops.toList[j] := by rw [← Array.getElem?_toList, List.getElem?_eq_getElem hjlt]
    generalize ops.toList[j] = o at ha2 ha3 ha4 ha5 ha6 hoj
    have hst := ht.step j ao ha1
    have hd : ∀ d, o.dst = some d → d < a.tmps.size := fun d hd => Nat.lt_of_lt_of_le (ha6 d hd) h3
    have hc1 := ht.cabs (i := j) (j := j + 1) (by omega) (by omega)
    have hc2 := ht.cabs (i := j + 1) (j := aops.length) (by omega) (by omega)
    rw [ht.last] at hc2
    rw [List.range'_succ]
    rw [wpOps_cons]
    unfold wpOp
    rw [hoj]
    dsimp only
    have hw : ∀ b, guardOf (S j).env ao.guard = some b → Region.wanted o (yielded ops a.tmps) = b := fun b hb => wanted_of (ρ := ρ) ha4 hb fun _ _ d _ _ v hv => h1 d v hv
    rcases hst with ⟨hg, v, H', t, M, hgood, hs1, _⟩ | ⟨hg, hs1, _⟩
    · rw [if_pos (hw true hg)]
      left
      have hf1 : Free ρ (S j).h.length H'.length := fun id i1 i2 => h5 id i1 (by have := hc2.len; rw [hs1] at this; exact Nat.lt_of_lt_of_le i2 this)
      refine hgood.ok o ha2 ρ a w (h1.opRel ha5) h4 hf1 _ _ fun v' w' ρ' hp => ?_
      have hcp : CPost ρ (S j) (S (j + 1)) a w (a.put o.dst v') w' ρ' := by
        rw [hs1]
        refine ⟨?_, by rw [put_defers]; exact h2, put_size _ _ _, hp.ext, hp.rel, hp.frm, hp.pres⟩
        rw [ha3]
        exact (h1.mono hp.ext.le).put hp.val hd
      refine seq_ok hc ht k (j + 1) (by omega) ρ' _ w' hcp.env hcp.defers (by rw [hcp.size]; exact h3) hcp.rel (h5.later hcp.ext hc1.len) fun a2 w2 ρ2 hp2 => hQ a2 w2 ρ2 (hcp.trans hp2 hc1 hc2 h5)
    · rw [if_neg (by rw [hw false hg]; simp)]
      have hcp : CPost ρ (S j) (S (j + 1)) a w (a.put o.dst undef) w ρ := by
        rw [hs1]
        refine ⟨?_, by rw [put_defers]; exact h2, put_size _ _ _, .refl _ _ _, h4, .refl _ _ _ _, fun _ _ _ => rfl⟩
        rw [ha3]
        exact h1.put (.tuple .nil) hd
      refine seq_ok hc ht k (j + 1) (by omega) ρ _ w hcp.env hcp.defers (by rw [hcp.size]; exact h3) hcp.rel (h5.later hcp.ext hc1.len) fun a2 w2 ρ2 hp2 => hQ a2 w2 ρ2 (hcp.trans hp2 hc1 hc2 h5)

end
end Go.Ev

/-
  A region whose order is open: in whatever order, the outcome is the evaluator's.
-/
set_option linter.unusedSimpArgs false
set_option linter.unusedVariables false
namespace Go.Ev
open Go.RowKit

theorem RelF.forget2 {ρ : Pl} {c c' : Nat → Option Ob} {w : World} (h : RelF ρ c w) (hc : ∀ id ob, ρ id ≠ none → c' id = some ob → ob.live = true → c id = some ob) : RelF ρ c' w :=
  ⟨h.bound, fun id ob pl h1 h2 h3 => h.obj id ob pl (hc id ob (by rw [h2]; simp) h1 h3) h2 h3,
    fun i j oi oj pi pj h1 h2 h3 h4 h5 h6 h7 h8 => h.inj i j oi oj pi pj (hc i oi (by rw [h3]; simp) h1 h5) (hc j oj (by rw [h4]; simp) h2 h7) h3 h4 h5 h6 h7 h8⟩

theorem foldl_get {α β : Type} (f : List β → α → β) : ∀ (l : List α) (init : List β), (l.foldl (fun acc o => acc ++ [f acc o]) init).length = init.length + l.length ∧ (∀ k, k < init.length → (l.foldl (fun acc o => acc ++ [f acc o]) init)[k]? = init[k]?) ∧
    ∀ (k : Nat) o, l[k]? = some o → (l.foldl (fun acc o => acc ++ [f acc o]) init)[init.length + k]? = some (f ((l.foldl (fun acc o => acc ++ [f acc o]) init).take (init.length + k)) o)
  | [], init => by simp
  | x :: l, init => by
    obtain ⟨h1, h2, h3⟩ := foldl_get f l (init ++ [f init x])
    simp only [List.foldl_cons]
    refine ⟨by rw [h1]; simp; omega, fun k hk => by rw [h2 k (by simp; omega), List.getElem?_append_left hk], fun k o hk => ?_⟩
    cases k with
    | zero =>
      simp at hk; subst hk
      rw [Nat.add_zero, h2 init.length (by simp)]
      have : (l.foldl (fun acc o => acc ++ [f acc o]) (init ++ [f init x])).take init.length = init := by
        apply List.ext_getElem?
        intro i
        rw [List.getElem?_take]
        split
        · rename_i hi
          rw [h2 i (by simp; omega), List.getElem?_append_left hi]
        · rw [List.getElem?_eq_none (by omega)]
      rw [this]; simp
    | succ k =>
      have := h3 k o (by simpa using hk)
      simp only [List.length_append, List.length_singleton] at this
      rw [show init.length + (k + 1) = init.length + 1 + k by omega]
      exact this

theorem upOf_bit : ∀ (es : List Edge) (acc : List Nat) (u i : Nat), (es.foldl (fun u e => if Region.binds .any e then u ||| (2 ^ e.on ||| acc.getD e.on 0) else u) u).testBit i = true →
    u.testBit i = true ∨ ∃ e ∈ es, Region.binds .any e = true ∧ (i = e.on ∨ (acc.getD e.on 0).testBit i = true)
  | [], acc, u, i, h => .inl h
  | e :: es, acc, u, i, h => by
    simp only [List.foldl_cons] at h
    rcases upOf_bit es acc _ i h with h1 | ⟨e', h1, h2, h3⟩
    · split at h1
      · rename_i hb
        rw [Nat.testBit_or, Nat.testBit_or, Bool.or_eq_true, Bool.or_eq_true, Nat.testBit_two_pow] at h1
        rcases h1 with h1 | h1 | h1
        · exact .inl h1
        · exact .inr ⟨e, by simp, hb, .inl (by have h1' := of_decide_eq_true h1; omega)⟩
        · exact .inr ⟨e, by simp, hb, .inr h1⟩
      · exact .inl h1
    · exact .inr ⟨e', by simp [h1], h2, h3⟩

/-- What is done already holds all that stands ahead of it. -/
theorem ups_listed {ops : List Oper} {L : Nat → Prop} (hd : ∀ j o, L j → ops[j]? = some o → ∀ e ∈ o.after.toList, Region.binds .any e = true → L e.on) : ∀ (j : Nat), L j → ∀ i, ((upsOf ops).getD j 0).testBit i = true → L i := by
  intro j
  induction j using Nat.strongRecOn with
  | _ j ih =>
    intro hj i hi
    obtain ⟨h1, h2, h3⟩ := foldl_get (fun acc (o : Oper) => upOf acc o.after.toList) ops []
    cases ho : ops[j]? with
    | none =>
      have : (upsOf ops).getD j 0 = 0 := by
        have hl : (upsOf ops).length = ops.length := by have := h1; simpa [upsOf] using this
        rw [List.getD_eq_getElem?_getD, List.getElem?_eq_none]
        · rfl
        · rw [hl]; exact List.getElem?_eq_none_iff.1 ho
      rw [this] at hi; simp at hi
    | some o =>
      have h4 := h3 j o ho
      simp only [List.length_nil, Nat.zero_add] at h4
      have h5 : (upsOf ops)[j]? = some (upOf ((upsOf ops).take j) o.after.toList) := h4
      rw [List.getD_eq_getElem?_getD, h5, Option.getD_some] at hi
      rcases upOf_bit _ _ _ _ hi with h6 | ⟨e, h6, h7, h8⟩
      · simp at h6
      · have he := hd j o hj ho e h6 h7
        rcases h8 with rfl | h8
        · exact he
        · have hlt : e.on < j := by
            rcases Nat.lt_or_ge e.on j with h | h
            · exact h
            · rw [List.getD_eq_getElem?_getD, List.getElem?_eq_none (by simp; omega)] at h8; simp at h8
          refine ih e.on hlt he i ?_
          rw [List.getD_eq_getElem?_getD, List.getElem?_take, if_pos hlt, ← List.getD_eq_getElem?_getD] at h8
          exact h8

theorem idx_mem {α : Type} {l : List α} {i : Nat} {x : α} (h : l[i]? = some x) : (i, x) ∈ idx l := by
  unfold idx
  rw [List.mem_iff_getElem?]
  refine ⟨i, ?_⟩
  have hlt := (List.getElem?_eq_some_iff.1 h).1
  rw [List.getElem?_zip_eq_some]
  exact ⟨by rw [List.getElem?_range hlt], h⟩

theorem upsOf_len (ops : List Oper) : (upsOf ops).length = ops.length := by
  have := (foldl_get (fun acc (o : Oper) => upOf acc o.after.toList) ops []).1
  simpa [upsOf] using this

theorem open_mem {ops : List Oper} {i j : Nat} (hij : i < j) (hj : j < ops.length) (h : ((upsOf ops).getD j 0).testBit i = false) : (i, j) ∈ openPairs (upsOf ops) := by
  unfold openPairs
  rw [List.mem_flatMap]
  have hl := upsOf_len ops
  refine ⟨(j, (upsOf ops)[j]'(by omega)), idx_mem (List.getElem?_eq_getElem (by omega)), ?_⟩
  simp only [List.mem_map, List.mem_filter, List.mem_range, Prod.mk.injEq]
  refine ⟨i, ⟨hij, ?_⟩, by simp⟩
  rw [List.getD_eq_getElem?_getD, List.getElem?_eq_getElem (by omega), Option.getD_some] at h
  simp [h]

theorem getD_of (l : Array Bool) (j : Nat) : l.getD j true = true ∨ (l.getD j false = false ∧ j < l.size) := by
  simp only [Array.getD_eq_getD_getElem?]
  rcases Nat.lt_or_ge j l.size with h | h
  · rw [Array.getElem?_eq_getElem h]
    simp only [Option.getD_some]
    cases l[j] <;> simp [h]
  · left; rw [Array.getElem?_eq_none h]; rfl

theorem count_set {l : List Bool} {k : Nat} (h : l[k]? = some false) : (l.set k true).count false + 1 = l.count false := by
  induction l generalizing k with
  | nil => simp at h
  | cons b l ih =>
    cases k with
    | zero => simp at h; subst h; simp
    | succ k => simp at h; have := ih h; simp only [List.set_cons_succ, List.count_cons]; omega

def touches (r : Rec) (id : Nat) : Prop := match r.1 with | some l => id ∈ l | none => True

theorem apart_spec {r s : Rec} (h : apartOf r s = true) : (∀ id ∈ r.2, ¬ touches s id) ∧ (∀ id ∈ s.2, ¬ touches r id) := by
  unfold apartOf at h
  simp only [Bool.and_eq_true, Bool.or_eq_true, List.isEmpty_iff] at h
  obtain ⟨h1, h2⟩ := h
  constructor
  · intro id hid ht
    rcases h1 with h1 | h1
    · rw [h1] at hid; simp at hid
    · unfold touches at ht
      split at h1
      · rename_i l hl
        rw [hl] at ht
        have := List.all_eq_true.1 h1 id hid
        simp at this; exact this ht
      · cases h1
  · intro id hid ht
    rcases h2 with h2 | h2
    · rw [h2] at hid; simp at hid
    · unfold touches at ht
      split at h2
      · rename_i l hl
        rw [hl] at ht
        have := List.all_eq_true.1 h2 id hid
        simp at this; exact this ht
      · cases h2

section
variable {P : Program} {n base : Nat} {ops : Array Oper} {aops : List AOper} {s s' : St} {recs : List Rec} {S : Nat → St} {R : Nat → Rec}

def Changed (S : Nat → St) (i id : Nat) : Prop := id < (S i).h.length ∧ (S (i + 1)).h[id]? ≠ (S i).h[id]?

structure Inv (P : Program) (ops : Array Oper) (S : Nat → St) (R : Nat → Rec) (ρ0 : Pl) (a0 : Act) (w0 : World) (listed : Array Bool) (a : Act) (w : World) (ρ : Pl) (c : Nat → Option Ob) : Prop where
  size : listed.size = ops.size
  down : ∀ (j : Nat) o, listed.getD j false = true → ops.toList[j]? = some o → ∀ e ∈ o.after.toList, Region.binds .any e = true → listed.getD e.on false = true
  rel : RelF ρ c w
  le : PlLe ρ0 ρ
  dom : ∀ id pl, ρ id = some pl → ρ0 id = none → ∃ k, k < ops.size ∧ listed.getD k false = true ∧ (S k).h.length ≤ id ∧ id < (S (k + 1)).h.length
  con : ∀ j, j ≤ ops.size → listed.getD j false = false → ∀ id pl, ρ id = some pl → id < (S j).h.length → (j = ops.size ∨ touches (R j) id) → (∀ i, i < j → listed.getD i false = false → ¬ Changed S i id) → c id = (S j).h[id]?
  env : ∀ j, j ≤ ops.size → listed.getD j false = false → ∀ t, (j = ops.size ∨ ∃ o, ops.toList[j]? = some o ∧ t ∈ namesOf ops.toList o) → (∀ i, i < j → listed.getD i false = false → ∀ o, ops.toList[i]? = some o → o.dst ≠ some t) →
    ∀ v, (S j).env.get t = some v → ∃ v', a.tmps[t]? = some v' ∧ VRel ρ v v'
  frm : Frm ρ0 ρ (hp (S 0).h) c w0 w
  flags : Flags ρ0 (hp (S 0).h) c
  there : ∀ i, listed.getD i false = true → ∀ id, Changed S i id → ρ id ≠ none
  pres : ∀ id, id < (S 0).h.length → ρ0 id = none → (∀ i, listed.getD i false = true → ¬ Changed S i id)
  defers : a.defers = []
  tsize : a.tmps.size = a0.tmps.size

theorem getD_set {l : Array Bool} {k j : Nat} (hk : k < l.size) : (l.setIfInBounds k true).getD j false = if j = k then true else l.getD j false := by
  simp only [Array.getD_eq_getD_getElem?, Array.getElem?_setIfInBounds]
  by_cases c : k = j
  · subst c; simp [hk]
  · simp [c, Ne.symm c]

variable (hc : compOpers P n ops.toList ops.toList = some aops) (ht : Trace P base aops s s' [] recs S R)
include hc ht

theorem chain_h {i j : Nat} (hij : i ≤ j) (hj : j ≤ ops.size) {id : Nat} (hid : id < (S i).h.length) (h : ∀ k, i ≤ k → k < j → ¬ Changed S k id) : (S j).h[id]? = (S i).h[id]? := by
  obtain ⟨hl, _⟩ := compOpers_get hc
  have hlen : aops.length = ops.size := by simpa using hl
  induction j with
  | zero => have : i = 0 := by omega
            subst this; rfl
  | succ j ih =>
    rcases Nat.lt_or_ge i (j + 1) with hlt | hge
    · have h1 := ih (by omega) (by omega) fun k a b => h k a (by omega)
      have h2 := h j (by omega) (by omega)
      have h3 := (ht.cabs (i := i) (j := j) (by omega) (by omega)).len
      have h4 : (S (j + 1)).h[id]? = (S j).h[id]? := by
        apply Classical.byContradiction
        intro hne
        exact h2 ⟨by omega, hne⟩
      rw [h4, h1]
    · have : i = j + 1 := by omega
      subst this; rfl

theorem step_env {j : Nat} (hj : j < ops.size) {t : Nat} (h : ∀ o, ops.toList[j]? = some o → o.dst ≠ some t) : (S (j + 1)).env.get t = (S j).env.get t := by
  obtain ⟨hl, hget⟩ := compOpers_get hc
  have hjl : j < ops.toList.length := by simpa using hj
  obtain ⟨ao, ha1, ha2, ha3, _⟩ := hget j _ (List.getElem?_eq_getElem hjl)
  have hd := h _ (List.getElem?_eq_getElem hjl)
  rw [← ha3] at hd
  rcases ht.step j ao ha1 with ⟨_, v, H', tt, M, _, hs, _⟩ | ⟨_, hs, _⟩ <;> (rw [hs]; simp only [get_put, if_neg hd])

theorem chain_env {i j : Nat} (hij : i ≤ j) (hj : j ≤ ops.size) {t : Nat} (h : ∀ k, i ≤ k → k < j → ∀ o, ops.toList[k]? = some o → o.dst ≠ some t) : (S j).env.get t = (S i).env.get t := by
  induction j with
  | zero => have : i = 0 := by omega
            subst this; rfl
  | succ j ih =>
    rcases Nat.lt_or_ge i (j + 1) with hlt | hge
    · rw [step_env hc ht (by omega) (h j (by omega) (by omega)), ih (by omega) (by omega) fun k a b => h k a (by omega)]
    · have : i = j + 1 := by omega
      subst this; rfl

theorem changed_mem {i id : Nat} (hi : i < ops.size) (h : Changed S i id) : id ∈ (R i).2 ∧ touches (R i) id := by
  obtain ⟨hl, hget⟩ := compOpers_get hc
  have hjl : i < ops.toList.length := by simpa using hi
  obtain ⟨ao, ha1, _⟩ := hget i _ (List.getElem?_eq_getElem hjl)
  have hst := ht.step i ao ha1
  have hM : id ∈ (R i).2 := by
    apply Classical.byContradiction
    intro hn
    exact h.2 (hst.abs.1.log id h.1 hn)
  refine ⟨hM, ?_⟩
  rcases hst with ⟨_, v, H', tt, M, hg, _, hr⟩ | ⟨_, _, hr⟩
  · rw [hr] at hM ⊢
    cases tt with
    | none => trivial
    | some l => exact hg.mt l rfl id hM
  · rw [hr] at hM; simp at hM

theorem len_mono {i j : Nat} (hij : i ≤ j) (hj : j ≤ ops.size) : (S i).h.length ≤ (S j).h.length := by
  obtain ⟨hl, _⟩ := compOpers_get hc
  have hlen : aops.length = ops.size := by simpa using hl
  exact (ht.cabs hij (by omega)).len

end
end Go.Ev

/-
  A region whose order is open: the step, and the whole.
-/
set_option linter.unusedSimpArgs false
set_option linter.unusedVariables false
namespace Go.Ev
open Go.RowKit

section
variable {P : Program} {n base : Nat} {ops : Array Oper} {aops : List AOper} {s s' : St} {recs : List Rec} {S : Nat → St} {R : Nat → Rec}

theorem slots_spec {l : List Oper} {prs : List (Nat × Nat)} (h : slotsOk l prs = true) {i j : Nat} (hp : (i, j) ∈ prs) {a b : Oper} (ha : l[i]? = some a) (hb : l[j]? = some b) :
    (∀ d, a.dst = some d → d ∉ namesOf l b ∧ b.dst ≠ some d) ∧ (∀ d, b.dst = some d → d ∉ namesOf l a) := by
  have := List.all_eq_true.1 h (i, j) hp
  simp only [ha, hb, Bool.and_eq_true] at this
  obtain ⟨h1, h2⟩ := this
  refine ⟨fun d hd => ?_, fun d hd => ?_⟩
  · rw [hd] at h1; simp at h1; exact h1
  · rw [hd] at h2; simpa using h2

variable (hc : compOpers P n ops.toList ops.toList = some aops) (ht : Trace P base aops s s' [] recs S R)
include hc ht

theorem pair_apart (hpairs : pairsOk recs (memPairs aops (openPairs (upsOf ops.toList))) = true) {i j : Nat} (hij : i < j) (hj : j < ops.size) (hp : (i, j) ∈ openPairs (upsOf ops.toList)) :
    (∀ id ∈ (R i).2, ¬ touches (R j) id) ∧ (∀ id ∈ (R j).2, ¬ touches (R i) id) := by
  obtain ⟨hl, hget⟩ := compOpers_get hc
  have hlen : aops.length = ops.size := by simpa using hl
  have hrec : ∀ k, k < ops.size → recs[k]? = some (R k) := by
    intro k hk
    rw [ht.recs]
    simp [hlen, hk]
  have hi : i < ops.size := by omega
  have hai : aops[i]? = some (aops[i]'(by omega)) := List.getElem?_eq_getElem (by omega)
  have haj : aops[j]? = some (aops[j]'(by omega)) := List.getElem?_eq_getElem (by omega)
  generalize aops[i]'(by omega) = ai at hai
  generalize aops[j]'(by omega) = aj at haj
  have hfree : ∀ k ak, aops[k]? = some ak → ak.op.free = true → R k = (some [], []) ∨ ((R k).1 = some [] ∧ (R k).2 = []) := by
    intro k ak hk hf
    rcases ht.step k ak hk with ⟨_, v, H', t, M, hg, _, hr⟩ | ⟨_, _, hr⟩
    · right; rw [hr]; exact hg.free hf
    · left; exact hr
  have hquiet : ∀ k ak, aops[k]? = some ak → ak.op.quiet = true → (R k).2 = [] := by
    intro k ak hk hf
    rcases ht.step k ak hk with ⟨_, v, H', t, M, hg, _, hr⟩ | ⟨_, _, hr⟩
    · rw [hr]; exact hg.quiet hf
    · rw [hr]
  have hnone : ∀ k ak, aops[k]? = some ak → ak.op.free = true → (R k).2 = [] ∧ ∀ id, ¬ touches (R k) id := by
    intro k ak hk hf
    rcases hfree k ak hk hf with h | ⟨h1, h2⟩
    · rw [h]; exact ⟨rfl, fun id h => by simp [touches] at h⟩
    · exact ⟨h2, fun id h => by simp [touches, h1] at h⟩
  by_cases hm : (i, j) ∈ memPairs aops (openPairs (upsOf ops.toList))
  · have := List.all_eq_true.1 hpairs (i, j) hm
    simp only [hrec i hi, hrec j hj] at this
    exact apart_spec this
  · have hx : (ai.op.free || aj.op.free || (ai.op.quiet && aj.op.quiet)) = true := by
      cases hb : (ai.op.free || aj.op.free || (ai.op.quiet && aj.op.quiet)) with
      | true => rfl
      | false =>
        exfalso; apply hm
        unfold memPairs
        rw [List.mem_filter]
        refine ⟨hp, ?_⟩
        simp only [hai, haj, hb, Bool.not_false]
    simp only [Bool.or_eq_true, Bool.and_eq_true] at hx
    rcases hx with (h1 | h1) | ⟨h1, h2⟩
    · obtain ⟨a1, a2⟩ := hnone i ai hai h1
      exact ⟨fun id hid => by rw [a1] at hid; simp at hid, fun id _ => a2 id⟩
    · obtain ⟨a1, a2⟩ := hnone j aj haj h1
      exact ⟨fun id _ => a2 id, fun id hid => by rw [a1] at hid; simp at hid⟩
    · have a1 := hquiet i ai hai h1
      have a2 := hquiet j aj haj h2
      exact ⟨fun id hid => by rw [a1] at hid; simp at hid, fun id hid => by rw [a2] at hid; simp at hid⟩

variable (hslots : slotsOk ops.toList (openPairs (upsOf ops.toList)) = true) (hpairs : pairsOk recs (memPairs aops (openPairs (upsOf ops.toList))) = true)
include hslots hpairs

theorem draw_step {ρ0 : Pl} {a0 : Act} {w0 : World} (hfree0 : Free ρ0 (S 0).h.length (S ops.size).h.length) (hn : n ≤ a0.tmps.size) {listed : Array Bool} {a : Act} {w : World} {ρ : Pl} {c : Nat → Option Ob} (hI : Inv P ops S R ρ0 a0 w0 listed a w ρ c) {k : Nat}
    (hk : k < ops.size) (hkl : listed.getD k false = false) (hready : ∀ o, ops.toList[k]? = some o → ∀ e ∈ o.after.toList, Region.binds .any e = true → listed.getD e.on false = true)
    {Q : Exit → Act → World → Prop} {K : Act → World → Prop} (hK : ∀ a' w' ρ' c', Inv P ops S R ρ0 a0 w0 (listed.setIfInBounds k true) a' w' ρ' c' → K a' w') : wpOp P ops Q k K a w := by
  obtain ⟨hl, hget⟩ := compOpers_get hc
  have hlen : aops.length = ops.size := by simpa using hl
  have hkl' : k < ops.toList.length := by simpa using hk
  obtain ⟨ao, ha1, ha2, ha3, ha4, ha5, ha6⟩ := hget k _ (List.getElem?_eq_getElem hkl')
  have hoL : ops.toList[k]? = some ops.toList[k] := List.getElem?_eq_getElem hkl'
  have hoj : ops[k]? = some ops.toList[k] := by rw [← Array.getElem?_toList]; exact hoL
  generalize ops.toList[k] = o at ha2 ha3 ha4 ha5 ha6 hoj hoL
  have hst := ht.step k ao ha1
  have hks : k < listed.size := by rw [hI.size]; exact hk
  have hls : ∀ j, (listed.setIfInBounds k true).getD j false = if j = k then true else listed.getD j false := fun j => getD_set hks
  have hdst : ∀ d, o.dst = some d → d < a.tmps.size := fun d hd => by rw [hI.tsize]; exact Nat.lt_of_lt_of_le (ha6 d hd) hn
  -- what isn't done yet, ahead of this one, isn't bound to be
  have hun1 : ∀ i, i < k → listed.getD i false = false → (i, k) ∈ openPairs (upsOf ops.toList) := by
    intro i hi hli
    refine open_mem hi hkl' ?_
    cases hb : ((upsOf ops.toList).getD k 0).testBit i with
    | false => rfl
    | true =>
      have := ups_listed (ops := ops.toList) (L := fun j => j = k ∨ listed.getD j false = true) (fun j x hj hx e he hbd => by
        rcases hj with rfl | hj
        · exact .inr (hready x hx e he hbd)
        · exact .inr (hI.down j x hj hx e he hbd)) k (.inl rfl) i hb
      rcases this with rfl | h
      · omega
      · rw [hli] at h; cases h
  -- what is done already, behind this one, isn't bound to it
  have hun2 : ∀ i, k < i → i < ops.size → listed.getD i false = true → (k, i) ∈ openPairs (upsOf ops.toList) := by
    intro i hi him hli
    refine open_mem hi (by simpa using him) ?_
    cases hb : ((upsOf ops.toList).getD i 0).testBit k with
    | false => rfl
    | true =>
      have := ups_listed (ops := ops.toList) (L := fun j => listed.getD j false = true) (fun j x hj hx e he hbd => hI.down j x hj hx e he hbd) i hli k hb
      rw [hkl] at this; cases this
  -- what isn't done yet, ahead or behind: its pair with this one
  have hun3 : ∀ j, j < k → listed.getD j false = false → (j, k) ∈ openPairs (upsOf ops.toList) := hun1
  have hconk : ∀ id, ρ id ≠ none → id < (S k).h.length → touches (R k) id → c id = (S k).h[id]? := by
    intro id hρ hid htc
    obtain ⟨pl, hpl⟩ : ∃ pl, ρ id = some pl := by cases h : ρ id with
      | none => exact absurd h hρ
      | some pl => exact ⟨pl, rfl⟩
    refine hI.con k (by omega) hkl id pl hpl hid (.inr htc) fun i hi hli hch => ?_
    have := (pair_apart hc ht hpairs hi hk (hun1 i hi hli)).1 id (changed_mem hc ht (by omega) hch).1
    exact this htc
  have henvk : ∀ t, t ∈ namesOf ops.toList o → ∀ v, (S k).env.get t = some v → ∃ v', a.tmps[t]? = some v' ∧ VRel ρ v v' := by
    intro t htn
    refine hI.env k (by omega) hkl t (.inr ⟨o, hoL, htn⟩) fun i hi hli x hx hxd => ?_
    exact ((slots_spec hslots (hun1 i hi hli) hx hoL).1 t hxd).1 htn
  have hfreek : Free ρ (S k).h.length (S (k + 1)).h.length := by
    intro id h1 h2
    cases hρ : ρ id with
    | none => rfl
    | some pl =>
      exfalso
      cases h0 : ρ0 id with
      | none =>
        obtain ⟨k', a1, a2, a3, a4⟩ := hI.dom id pl hρ h0
        have hne : k' ≠ k := fun e => by subst e; rw [hkl] at a2; cases a2
        rcases Nat.lt_or_ge k' k with h | h
        · have := len_mono hc ht (i := k' + 1) (j := k) (by omega) (by omega); omega
        · have := len_mono hc ht (i := k + 1) (j := k') (by omega) (by omega); omega
      | some p =>
        have h3 := len_mono hc ht (i := 0) (j := k) (by omega) (by omega)
        have h4 := len_mono hc ht (i := k + 1) (j := ops.size) (by omega) (by omega)
        have := hfree0 id (by omega) (by omega)
        rw [this] at h0; cases h0
  -- the end of the step: from its effect on the heap to what holds behind it
  have finish : ∀ (v : Value) (G G' : List Ob) (v' : Value) (w' : World) (ρ' : Pl), (S (k + 1)).env = (S k).env.put o.dst v → G.length = (S k).h.length → G'.length = (S (k + 1)).h.length → AbsOk G G' (R k).2 → (∀ id : Nat, id ∈ (R k).2 ∨ (S k).h.length ≤ id → G'[id]? = (S (k + 1)).h[id]?) →
      (∀ (id : Nat) ob, G[id]? = some ob → ob.live = true → ρ id ≠ none → c id = some ob) → (∀ id ∈ (R k).2, touches (R k) id → G[id]? = (S k).h[id]?) → Post1 ρ G w v G' v' w' ρ' → K (a.put o.dst v') w' := by
    intro v G G' v' w' ρ' henv hG hG' hab hnew hsub hGM hp
    refine hK _ _ ρ' (mergeC c G' (R k).2 G.length) ?_
    have hfG : Free ρ G.length G'.length := by rw [hG, hG']; exact hfreek
    have hmr := merge_rel hI.rel hsub hp.ext hfG hp.rel hp.frm hab
    have hmf := merge_frm hsub hp.frm hab
    have hmfl := merge_flags (ρ' := ρ') hsub hfG hab
    have hρnew : ∀ {id pl}, ρ' id = some pl → ¬ ((S k).h.length ≤ id ∧ id < (S (k + 1)).h.length) → ρ id = some pl := by
      intro id pl h hnn
      cases hρ : ρ id with
      | none => have := hp.ext.dom id pl h hρ; rw [hG, hG'] at this; exact absurd this hnn
      | some p => have := hp.ext.le id p hρ; rw [h] at this; cases this; rfl
    have hchk : ∀ id, Changed S k id → ρ id ≠ none := by
      intro id hch hno
      have hm := changed_mem hc ht hk hch
      have h1 := hp.pres id (by rw [hG]; exact hch.1) hno
      rw [hnew id (.inl hm.1), hGM id hm.1 hm.2] at h1
      exact hch.2 h1
    refine ⟨by simp [hI.size], ?_, hmr, hI.le.trans hp.ext.le, ?_, ?_, ?_, ?_, ?_, ?_, ?_, by rw [put_defers]; exact hI.defers, by rw [put_size]; exact hI.tsize⟩
    · intro j x hj hx e he hbd
      rw [hls] at hj ⊢
      split
      · rfl
      · split at hj
        · rename_i hjk; subst hjk; exact hready x hx e he hbd
        · exact hI.down j x hj hx e he hbd
    · intro id pl h1 h2
      cases hρ : ρ id with
      | none =>
        have := hp.ext.dom id pl h1 hρ
        rw [hG, hG'] at this
        exact ⟨k, hk, by rw [hls]; simp, this.1, this.2⟩
      | some p =>
        obtain ⟨k', a1, a2, a3, a4⟩ := hI.dom id p hρ h2
        exact ⟨k', a1, by rw [hls]; split <;> simp [a2], a3, a4⟩
    · intro j hj hjl id pl hpl hid htc hch
      rw [hls] at hjl
      have hjk : j ≠ k := fun e => by simp [e] at hjl
      rw [if_neg hjk] at hjl
      have hch' : ∀ i, i < j → i ≠ k → listed.getD i false = false → ¬ Changed S i id := fun i hi hik hli => hch i hi (by rw [hls, if_neg hik]; exact hli)
      unfold mergeC
      rw [hG, hG']
      by_cases hin : id ∈ (R k).2 ∨ ((S k).h.length ≤ id ∧ id < (S (k + 1)).h.length)
      · rw [if_pos hin]
        have hge : id ∈ (R k).2 ∨ (S k).h.length ≤ id := hin.imp (fun z => z) (fun z => z.1)
        rw [hnew id hge]
        have hidk1 : id < (S (k + 1)).h.length := by
          rcases hin with h | h
          · have := hab.ids id h; rw [hG] at this
            have := len_mono hc ht (i := k) (j := k + 1) (by omega) (by omega); omega
          · exact h.2
        rcases Nat.lt_or_ge k j with hkj | hjk'
        · refine (chain_h hc ht (i := k + 1) (j := j) (by omega) hj hidk1 fun i h1 h2 hci => ?_).symm
          cases hli : listed.getD i false with
          | false => exact hch' i h2 (by omega) hli hci
          | true =>
            have him : i < ops.size := by omega
            rcases hin with h | h
            · have hpa := pair_apart hc ht hpairs (by omega : k < i) him (hun2 i (by omega) him hli)
              exact hpa.1 id h (changed_mem hc ht him hci).2
            · have := hI.there i hli id hci
              exact this (hfreek id h.1 h.2)
        · exfalso
          have hjlt : j < k := by omega
          rcases hin with h | h
          · have hpa := pair_apart hc ht hpairs hjlt hk (hun1 j hjlt hjl)
            rcases htc with h' | h'
            · omega
            · exact hpa.2 id h h'
          · have := len_mono hc ht (i := j) (j := k) (by omega) (by omega); omega
      · rw [if_neg hin]
        have hρ := hρnew hpl fun h => hin (.inr h)
        refine hI.con j hj hjl id pl hρ hid htc fun i hi hli => ?_
        by_cases hik : i = k
        · subst hik
          exact fun hci => hin (.inl (changed_mem hc ht hk hci).1)
        · exact hch' i hi hik hli
    · intro j hj hjl t htn hnd v1 hv1
      rw [hls] at hjl
      have hjk : j ≠ k := fun e => by simp [e] at hjl
      rw [if_neg hjk] at hjl
      rw [tmps_put _ _ _ hdst]
      by_cases hdt : o.dst = some t
      · rw [if_pos hdt]
        rcases Nat.lt_or_ge k j with hkj | hjk'
        · have hce := chain_env hc ht (i := k + 1) (j := j) (t := t) (by omega) hj fun i h1 h2 x hx hxd => by
            cases hli : listed.getD i false with
            | false => exact hnd i h2 (by rw [hls, if_neg (by omega)]; exact hli) x hx hxd
            | true =>
              have him : i < ops.size := by omega
              exact ((slots_spec hslots (hun2 i (by omega) him hli) hoL hx).1 t hdt).2 hxd
          rw [hce, henv, get_put, if_pos hdt] at hv1
          cases hv1
          exact ⟨v', rfl, hp.val⟩
        · exfalso
          have hjlt : j < k := by omega
          rcases htn with h' | ⟨x, hx, hxn⟩
          · omega
          · exact (slots_spec hslots (hun1 j hjlt hjl) hx hoL).2 t hdt hxn
      · rw [if_neg hdt]
        obtain ⟨u, h1, h2⟩ := hI.env j hj hjl t htn (fun i hi hli x hx => by
          by_cases hik : i = k
          · subst hik; rw [hoL] at hx; cases hx; exact hdt
          · exact hnd i hi (by rw [hls, if_neg hik]; exact hli) x hx) v1 hv1
        exact ⟨u, h1, h2.mono hp.ext.le⟩
    · exact hI.frm.trans hmf hI.le hp.ext.le hI.flags fun id ob' pl h1 h2 h3 => hmfl id ob' pl (hI.le id pl h1) h2 h3
    · intro id ob' pl h1 h2 h3
      obtain ⟨o2, b1, b2, b3⟩ := hmfl id ob' pl (hI.le id pl h1) h2 h3
      obtain ⟨o3, d1, d2, d3⟩ := hI.flags id o2 pl h1 b1 b2
      exact ⟨o3, d1, d2, d3.trans b3⟩
    · intro i hi id hci
      rw [hls] at hi
      have : ρ id ≠ none := by
        split at hi
        · rename_i hik; subst hik; exact hchk id hci
        · exact hI.there i hi id hci
      intro hno
      cases hρ : ρ id with
      | none => exact this hρ
      | some p => rw [hp.ext.le id p hρ] at hno; cases hno
    · intro id hid hno i hi hci
      rw [hls] at hi
      split at hi
      · rename_i hik; subst hik
        have h1 := hchk id hci
        cases hρ : ρ id with
        | none => exact h1 hρ
        | some p =>
          obtain ⟨k', a1, a2, a3, a4⟩ := hI.dom id p hρ hno
          have := len_mono hc ht (i := 0) (j := k') (by omega) (by omega); omega
      · exact hI.pres id hid hno i hi hci
  -- the guard
  have hw : ∀ b, guardOf (S k).env ao.guard = some b → Region.wanted o (yielded ops a.tmps) = b := fun b hb => wanted_of (ρ := ρ) ha4 hb fun g want d h1 h2 v hv =>
    henvk d (by unfold namesOf; rw [List.mem_append]; right; rw [h1]; have h2' : (ops.toList[g]?).bind (·.dst) = some d := by simpa using h2
                simp only [h2']; simp) v hv
  unfold wpOp
  rw [hoj]
  dsimp only
  rcases hst with ⟨hg, v, H', t, M, hgood, hs1, hr⟩ | ⟨hg, hs1, hr⟩
  · rw [if_pos (hw true hg)]
    left
    have hRM : (R k).2 = M := by rw [hr]
    have hRt : (R k).1 = t := by rw [hr]
    have hS1 : (S (k + 1)).h = H' := by rw [hs1]
    have henv1 : (S (k + 1)).env = (S k).env.put o.dst v := by rw [hs1, ha3]
    have hopr : OpRel ρ (S k).env a o.op.operands.toList := fun x hx u hu => opRel_one (List.all_eq_true.1 ha5 x hx) (fun t' ht' u' hu' => henvk t' (by
      unfold namesOf; rw [List.mem_append]; left; unfold tmpsOf; rw [List.mem_filterMap]; exact ⟨x, hx, by rw [ht']⟩) u' hu') hu
    cases t with
    | none =>
      have htch : ∀ id, touches (R k) id := fun id => by unfold touches; rw [hRt]; trivial
      have hsub : ∀ (id : Nat) ob, (S k).h[id]? = some ob → ob.live = true → ρ id ≠ none → c id = some ob := fun id ob h1 _ h3 => by
        rw [hconk id h3 (List.getElem?_eq_some_iff.1 h1).1 (htch id)]; exact h1
      refine hgood.ok o ha2 ρ a w hopr (hI.rel.forget2 fun id ob h1 h2 h3 => hsub id ob h2 h3 h1) (by rw [← hS1]; exact hfreek) K Q fun v' w' ρ' hp => ?_
      refine finish v (S k).h H' v' w' ρ' henv1 rfl (by rw [hS1]) (by rw [hRM]; exact hgood.abs) (fun id _ => by rw [hS1]) hsub (fun _ _ _ => rfl) hp
    | some l =>
      let G : List Ob := (List.range (S k).h.length).map fun i => if i ∈ l then ((S k).h[i]?).getD Ob.dead else Ob.dead
      have hGl : G.length = (S k).h.length := by simp [G]
      have hGget : ∀ i : Nat, i < (S k).h.length → G[i]? = some (if i ∈ l then ((S k).h[i]?).getD Ob.dead else Ob.dead) := fun i hi => by
        simp only [G, List.getElem?_map, List.getElem?_range hi, Option.map_some]
      have hag : ∀ id ∈ l, G[id]? = (S k).h[id]? := by
        intro id hid
        rcases Nat.lt_or_ge id (S k).h.length with h | h
        · rw [hGget id h, if_pos hid, List.getElem?_eq_getElem h]; rfl
        · rw [List.getElem?_eq_none (by omega), List.getElem?_eq_none h]
      obtain ⟨G', hloc, habs, hokG⟩ := hgood.loc l rfl G hGl hag
      have htc : ∀ id, touches (R k) id ↔ id ∈ l := fun id => by unfold touches; rw [hRt]
      have hsub : ∀ (id : Nat) ob, G[id]? = some ob → ob.live = true → ρ id ≠ none → c id = some ob := by
        intro id ob h1 h2 h3
        have hid : id < (S k).h.length := by have := (List.getElem?_eq_some_iff.1 h1).1; omega
        by_cases hil : id ∈ l
        · rw [hconk id h3 hid ((htc id).2 hil), ← hag id hil]; exact h1
        · rw [hGget id hid, if_neg hil] at h1; cases h1; simp [Ob.dead] at h2
      have hGlen' : G'.length = (S (k + 1)).h.length := by rw [hS1]; exact hloc.len
      refine hokG o ha2 ρ a w hopr (hI.rel.forget2 fun id ob h1 h2 h3 => hsub id ob h2 h3 h1) (by rw [hGl, hGlen']; exact hfreek) K Q fun v' w' ρ' hp => ?_
      exact finish v G G' v' w' ρ' henv1 hGl hGlen' (by rw [hRM]; exact habs) (fun id hid => by rw [hS1]; exact hloc.new id (by rw [hRM] at hid; exact hid)) hsub (fun id _ htt => hag id ((htc id).1 htt)) hp
  · rw [if_neg (by rw [hw false hg]; simp)]
    have hS1 : (S (k + 1)).h = (S k).h := by rw [hs1]
    let G : List Ob := (List.range (S k).h.length).map fun _ => Ob.dead
    have hGget : ∀ (i : Nat) ob, G[i]? = some ob → ob = Ob.dead := fun i ob h => by
      have hi : i < (S k).h.length := by have := (List.getElem?_eq_some_iff.1 h).1; simpa [G] using this
      simp only [G, List.getElem?_map, List.getElem?_range hi, Option.map_some, Option.some.injEq] at h; exact h.symm
    have hsub : ∀ (id : Nat) ob, G[id]? = some ob → ob.live = true → ρ id ≠ none → c id = some ob := fun id ob h1 h2 _ => by rw [hGget id ob h1] at h2; simp [Ob.dead] at h2
    refine finish undef G G undef w ρ (by rw [hs1, ha3]) (by simp [G]) (by rw [hS1]; simp [G]) (by rw [hr]; exact .refl _ _ (by simp)) (fun id hid => ?_) hsub (fun id hid => by rw [hr] at hid; simp at hid) ⟨⟨.refl _ _ _, .tuple .nil, hI.rel.forget2 fun id ob h1 h2 h3 => hsub id ob h2 h3 h1, .refl _ _ _ _⟩, fun _ _ _ => rfl⟩
    rw [hr] at hid
    rcases hid with h | h
    · simp at h
    · rw [List.getElem?_eq_none (by simpa [G] using h), List.getElem?_eq_none (by rw [hS1]; exact h)]

theorem draw_any {ρ0 : Pl} {a0 : Act} {w0 : World} (hback : backEdges ops.toList = true) (hfree0 : Free ρ0 (S 0).h.length (S ops.size).h.length) (hn : n ≤ a0.tmps.size) {Q : Exit → Act → World → Prop}
    (hQ : ∀ a w ρ, CPost ρ0 s s' a0 w0 a w ρ → Q .normal a w) : ∀ (fuel : Nat) (listed : Array Bool) (a : Act) (w : World) (ρ : Pl) (c : Nat → Option Ob), listed.toList.count false = fuel → Inv P ops S R ρ0 a0 w0 listed a w ρ c → wpAny P .any ops Q fuel listed a w := by
  obtain ⟨hl, hget⟩ := compOpers_get hc
  have hlen : aops.length = ops.size := by simpa using hl
  -- all is done
  have hend : ∀ (listed : Array Bool) (a : Act) (w : World) (ρ : Pl) (c : Nat → Option Ob), Inv P ops S R ρ0 a0 w0 listed a w ρ c → (∀ j, j < ops.size → listed.getD j false = true) → Q .normal a w := by
    intro listed a w ρ c hI hall
    have hS0 : S 0 = s := ht.first
    have hSm : S ops.size = s' := by rw [← hlen]; exact ht.last
    have hnm : listed.getD ops.size false = false := by simp [Array.getD_eq_getD_getElem?, hI.size]
    have hcon : ∀ id pl, ρ id = some pl → id < s'.h.length → c id = s'.h[id]? := fun id pl h1 h2 => by
      rw [← hSm] at h2 ⊢
      exact hI.con ops.size (Nat.le_refl _) hnm id pl h1 h2 (.inl rfl) fun i hi hli => by rw [hall i hi] at hli; cases hli
    refine hQ a w ρ ⟨?_, hI.defers, hI.tsize, ⟨hI.le, fun id pl h1 h2 => ?_⟩, ?_, ?_, ?_⟩
    · intro t v hv
      rw [← hSm] at hv
      exact hI.env ops.size (Nat.le_refl _) hnm t (.inl rfl) (fun i hi hli => by rw [hall i hi] at hli; cases hli) v hv
    · obtain ⟨k, a1, a2, a3, a4⟩ := hI.dom id pl h1 h2
      have h3 := len_mono hc ht (i := 0) (j := k) (by omega) (by omega)
      have h4 := len_mono hc ht (i := k + 1) (j := ops.size) (by omega) (by omega)
      rw [hS0] at h3; rw [hSm] at h4
      omega
    · refine hI.rel.forget2 fun id ob h1 h2 _ => ?_
      cases hρ : ρ id with
      | none => exact absurd hρ h1
      | some pl => rw [hcon id pl hρ (List.getElem?_eq_some_iff.1 h2).1]; exact h2
    · have hf := hI.frm
      rw [hS0] at hf
      refine ⟨hf.os, hf.tape, hf.output, hf.size, hf.blocks, fun id pl h1 h2 => (hf.fresh id pl h1 h2).imp (fun z => z) fun ⟨i, ob, p0, b1, b2, b3, b4, b5, b6⟩ => ⟨i, ob, p0, b1, b2, b3, b4, b5, fun ob' h' => ?_⟩⟩
      refine b6 ob' ?_
      rw [hcon i p0 (hI.le i p0 b2) (List.getElem?_eq_some_iff.1 h').1]; exact h'
    · intro id h1 h2
      rw [← hSm, ← hS0]
      rw [← hS0] at h1
      refine chain_h hc ht (Nat.zero_le _) (Nat.le_refl _) h1 fun k _ hk => hI.pres id h1 h2 k (hall k hk)
  -- what isn't done has a least one, and it is ready
  have hleast : ∀ (listed : Array Bool), listed.size = ops.size → Region.ready .any ops listed = [] → ∀ j, j < ops.size → listed.getD j false = true := by
    intro listed hsz hr j
    induction j using Nat.strongRecOn with
    | _ j ih =>
      intro hj
      cases hlj : listed.getD j false with
      | true => rfl
      | false =>
        exfalso
        have hmem : j ∈ Region.ready .any ops listed := by
          unfold Region.ready
          rw [List.mem_filter]
          refine ⟨List.mem_range.2 hj, ?_⟩
          have h1 : listed.getD j true = false := by
            rcases getD_of listed j with h | h
            · simp only [Array.getD_eq_getD_getElem?] at h hlj
              rw [Array.getElem?_eq_getElem (by omega)] at h hlj
              simp only [Option.getD_some] at h hlj
              rw [h] at hlj; cases hlj
            · simp only [Array.getD_eq_getD_getElem?] at h ⊢
              rw [Array.getElem?_eq_getElem (by omega)] at h ⊢
              simpa using h.1
          have h2 : ops[j]? = some ops[j] := Array.getElem?_eq_getElem hj
          rw [h1, h2]
          simp only [Bool.not_false, Bool.true_and, Option.map_some, Option.getD_some]
          rw [← Array.all_toList, List.all_eq_true]
          intro e he
          cases hb : Region.binds .any e with
          | false => rfl
          | true =>
            have hlt : e.on < j := by
              have := List.all_eq_true.1 hback (j, ops[j]) (idx_mem (by rw [Array.getElem?_toList]; exact h2))
              have := List.all_eq_true.1 this e he
              simpa [hb] using this
            simp only [Bool.not_true, Bool.false_or]
            exact ih e.on hlt (by omega)
        rw [hr] at hmem; simp at hmem
  intro fuel
  induction fuel with
  | zero =>
    intro listed a w ρ c hf hI
    have hall : ∀ j, j < ops.size → listed.getD j false = true := by
      intro j hj
      cases hlj : listed.getD j false with
      | true => rfl
      | false =>
        exfalso
        simp only [Array.getD_eq_getD_getElem?] at hlj
        rw [Array.getElem?_eq_getElem (by rw [hI.size]; exact hj)] at hlj
        simp only [Option.getD_some] at hlj
        have : false ∈ listed.toList := by rw [← hlj]; exact Array.getElem_mem_toList _
        have := List.count_pos_iff.2 this
        omega
    refine ⟨?_, hend listed a w ρ c hI hall⟩
    unfold Region.ready
    rw [List.filter_eq_nil_iff]
    intro j hj
    have := hall j (List.mem_range.1 hj)
    have h1 : listed.getD j true = true := by
      simp only [Array.getD_eq_getD_getElem?] at this ⊢
      rw [Array.getElem?_eq_getElem (by rw [hI.size]; exact List.mem_range.1 hj)] at this ⊢
      exact this
    simp [h1]
  | succ fuel ih =>
    intro listed a w ρ c hf hI
    refine ⟨fun hr => hend listed a w ρ c hI (hleast listed hI.size hr), fun k hk => ?_⟩
    unfold Region.ready at hk
    rw [List.mem_filter] at hk
    obtain ⟨hk1, hk2⟩ := hk
    have hk1 := List.mem_range.1 hk1
    simp only [Bool.and_eq_true, Bool.not_eq_true'] at hk2
    obtain ⟨hk2, hk3⟩ := hk2
    have hks : k < listed.size := by rw [hI.size]; exact hk1
    have hkl : listed.getD k false = false := by
      simp only [Array.getD_eq_getD_getElem?] at hk2 ⊢
      rw [Array.getElem?_eq_getElem hks] at hk2 ⊢
      exact hk2
    refine draw_step hc ht hslots hpairs hfree0 hn hI hk1 hkl (fun o ho e he hb => ?_) fun a' w' ρ' c' hI' => ih _ a' w' ρ' c' ?_ hI'
    · have h2 : ops[k]? = some o := by rw [← Array.getElem?_toList]; exact ho
      rw [h2] at hk3
      simp only [Option.map_some, Option.getD_some] at hk3
      rw [← Array.all_toList, List.all_eq_true] at hk3
      have := hk3 e he
      simpa [hb] using this
    · have hke : listed.toList[k]? = some false := by
        simp only [Array.getD_eq_getD_getElem?] at hkl
        rw [Array.getElem?_eq_getElem hks] at hkl
        simp only [Option.getD_some] at hkl
        rw [Array.getElem?_toList, Array.getElem?_eq_getElem hks, hkl]
      rw [Array.toList_setIfInBounds]
      have := count_set hke
      omega

theorem draw_ok {id : Nat} {ρ : Pl} {a : Act} {w : World} (hm : P.follows .mixedOrders = true) (hback : backEdges ops.toList = true) (h1 : EnvRel ρ s.env a) (h2 : a.defers = []) (h3 : n ≤ a.tmps.size) (h4 : RelF ρ (hp s.h) w) (h5 : Free ρ s.h.length s'.h.length)
    {Q : Exit → Act → World → Prop} (hQ : ∀ a' w' ρ', CPost ρ s s' a w a' w' ρ' → Q .normal a' w') : (Code.region id ops true).wp P Q a w := by
  obtain ⟨hl, hget⟩ := compOpers_get hc
  have hlen : aops.length = ops.size := by simpa using hl
  have hS0 : S 0 = s := ht.first
  have hSm : S ops.size = s' := by rw [← hlen]; exact ht.last
  have hf0 : Free ρ (S 0).h.length (S ops.size).h.length := by rw [hS0, hSm]; exact h5
  refine wp_region_any hm (draw_any hc ht hslots hpairs (w0 := w) (a0 := a) hback hf0 h3 hQ _ _ _ _ ρ (hp s.h) (by simp) ?_)
  have hlf : ∀ j, (Array.replicate ops.size false).getD j false = false := by
    intro j; simp only [Array.getD_eq_getD_getElem?, Array.getElem?_replicate]; split <;> rfl
  refine ⟨by simp, fun j o h => (by rw [hlf] at h; cases h), h4.drawn _, .refl _, fun id pl h1 h2 => (by rw [h1] at h2; cases h2), ?_, ?_, (by rw [hS0]; exact .drawn _ _ _ _ _), ?_, fun i h => (by rw [hlf] at h; cases h), fun id _ _ i h => (by rw [hlf] at h; cases h), h2, rfl⟩
  · intro j hj _ id pl hpl hid _ hch
    have hid0 : id < (S 0).h.length := by
      rcases Nat.lt_or_ge id (S 0).h.length with h | h
      · exact h
      · have := len_mono hc ht (i := j) (j := ops.size) hj (Nat.le_refl _)
        have := hf0 id h (by omega)
        rw [this] at hpl; cases hpl
    have := chain_h hc ht (Nat.zero_le j) hj hid0 fun k _ hk => hch k hk (hlf k)
    rw [this, hS0]
  · intro j hj _ t _ hnd v hv
    have := chain_env hc ht (t := t) (Nat.zero_le j) hj fun k _ hk x hx => hnd k hk (hlf k) x hx
    rw [this, hS0] at hv
    exact h1 t v hv
  · intro id ob' pl h1 h2 h3
    rw [hS0]
    exact ⟨ob', h2, h3, rfl⟩

end
end Go.Ev

/-
  The evaluator is right: what it answers, the model's call answers, in whatever order.
-/
set_option linter.unusedSimpArgs false
set_option linter.unusedVariables false
namespace Go.Ev
open Go.RowKit

def exitOf : AExit → Exit
  | .normal => .normal
  | .exit id => .exit id
  | .ret => .ret

section
variable {P : Program} {T : Tab}

theorem load_run {ρ : Pl} {H : List Ob} {w : World} (hrel : RelF ρ (hp H) w) {ad : Addr} {pl : Place} (e1 : ρ ad.block = some pl) {ob : Ob} (hob : liveAt H ad.block = some ob) {n : Option Nat} {ty : TypeId} (ha : aggT P ty = some n) {u : Value} (hu : partL n ob.cells ad.off = some u) :
    ∃ u', (loadVar ty ⟨pl.block, pl.base + ad.off, none⟩).run P w = .ok u' w ∧ VRel ρ u u' := by
  obtain ⟨hob1, hob2⟩ := liveAt_inv hob
  obtain ⟨_, _, cs, el, fr, g1, g2, g3, g4, _⟩ := hrel.obj _ _ _ hob1 e1 hob2
  obtain ⟨b, hb, hbn, hk⟩ := run_aggT (P := P) (w := w) ha
  cases n with
  | none =>
    simp only [Option.isSome_none] at hbn; subst hbn
    obtain ⟨_, u', g5, g6⟩ := g4 ad.off u hu
    have hc : w.cell? ⟨pl.block, pl.base + ad.off, none⟩ = some u' := by rw [cell_at g1]; exact g5
    exact ⟨u', by simp [loadVar, hb, hc], g6⟩
  | some n =>
    simp only [Option.isSome_some] at hbn; subst hbn
    simp only [partL] at hu
    split at hu
    · rename_i hle
      cases hu
      refine ⟨.agg ((cs.toList.drop (pl.base + ad.off)).take n).toArray, ?_, ?_⟩
      · have := run_loadCells (P := P) (n := n) (off := pl.base + ad.off) g1 (by omega)
        simp only [loadVar, hb, run_sizeT (hk n rfl), this, Sem.run_bind, Result.andThen_ok, Sem.run_pure, Sem.run_ite, if_true]
      · refine .agg (LRel.of_get (by simp; omega) fun i u hi => ?_) fun x hx => ?_
        · simp only [List.getElem?_take, List.getElem?_drop] at hi ⊢
          split at hi
          · rename_i hlt
            obtain ⟨_, u', g5, g6⟩ := g4 _ u hi
            exact ⟨u', by rw [if_pos hlt]; simpa [Nat.add_assoc] using g5, g6⟩
          · cases hi
        · have hx' := List.mem_of_mem_drop (List.mem_of_mem_take hx)
          obtain ⟨i, hi⟩ := List.getElem?_of_mem hx'
          exact (g4 i x hi).1
    · cases hu

theorem env_get {ρ : Pl} {args args' : List Value} (h : LRel ρ args args') : ∀ (k t : Nat) (v : Value), (envOf k args).get t = some v → ∃ v', k ≤ t ∧ args'[t - k]? = some v' ∧ VRel ρ v v' := by
  induction args generalizing args' with
  | nil => intro k t v h; simp [envOf, Env.get] at h
  | cons x args ih =>
    cases h with
    | cons hx hl =>
      intro k t v hv
      simp only [envOf, Env.get] at hv
      split at hv
      · subst_vars; cases hv; exact ⟨_, Nat.le_refl _, by simp, hx⟩
      · rename_i hne
        obtain ⟨v', h1, h2, h3⟩ := ih hl (k + 1) t v hv
        refine ⟨v', by omega, ?_, h3⟩
        rw [show t - k = (t - (k + 1)) + 1 by omega]
        simpa using h2

def resOne (a : Act) (r : ResultVar) : Sem Value :=
  match r with
  | .tmp t => pure (a.tmps.getD t undef)
  | .cell a' t => do loadVar t (← asAddr (a.tmps.getD a' undef))
def resA (P : Program) (r : ResultVar) : Option (Nat × Option (Option Nat)) :=
  match r with
  | .tmp t => some (t, none)
  | .cell a t => (aggT P t).map fun n => (a, some n)

theorem results_run {ρ : Pl} {e : Env} {a : Act} {H : List Ob} {w : World} (henv : EnvRel ρ e a) (hrel : RelF ρ (hp H) w) : ∀ {rs : List ResultVar} {ars : List (Nat × Option (Option Nat))} {vs : List Value},
    rs.mapM (resA P) = some ars → resultOf e H ars = some vs → ∃ vs', (rs.mapM (resOne a)).run P w = .ok vs' w ∧ LRel ρ vs vs'
  | [], ars, vs, h, hr => by
    simp at h; subst h
    simp [resultOf] at hr; subst hr
    exact ⟨[], by simp, .nil⟩
  | r :: rs, ars, vs, h, hr => by
    rw [List.mapM_cons] at h
    simp only [bind, Option.bind_eq_some_iff, pure, Option.some.injEq] at h
    obtain ⟨ar, h1, ars', h2, rfl⟩ := h
    cases r with
    | tmp t =>
      simp only [resA, Option.some.injEq] at h1
      subst h1
      simp only [resultOf, Option.bind_eq_some_iff, Option.some.injEq] at hr
      obtain ⟨v, hv, v2, rfl, vs', hvs, rfl⟩ := hr
      obtain ⟨us, e1, e2⟩ := results_run henv hrel h2 hvs
      obtain ⟨v', e3, e4⟩ := henv t v hv
      have e5 : (resOne a (.tmp t)).run P w = .ok v' w := by simp [resOne, e3]
      refine ⟨v' :: us, ?_, .cons e4 e2⟩
      rw [List.mapM_cons]
      simp only [Sem.run_bind, Sem.run_pure, Result.andThen_ok, e1, e5]
    | cell ad ty =>
      simp only [resA, Option.map_eq_some_iff] at h1
      obtain ⟨n, hn, rfl⟩ := h1
      simp only [resultOf, Option.bind_eq_some_iff] at hr
      obtain ⟨v, hv, u, hu, vs', hvs, hr⟩ := hr
      simp only [Option.some.injEq] at hr
      subst hr
      obtain ⟨us, e1, e2⟩ := results_run henv hrel h2 hvs
      obtain ⟨v', e3, e4⟩ := henv ad v hv
      split at hu
      · rename_i a2
        simp only [Option.bind_eq_some_iff] at hu
        obtain ⟨ob, hob, hu⟩ := hu
        split at hu
        · obtain ⟨pl, e5, e6, rfl⟩ := e4.ptr_inv
          obtain ⟨u', e7, e8⟩ := load_run (P := P) hrel e5 hob hn hu
          have e9 : (resOne a (.cell ad ty)).run P w = .ok u' w := by simp [resOne, e3, asAddr, e7]
          refine ⟨u' :: us, ?_, .cons e8 e2⟩
          rw [List.mapM_cons]
          simp only [Sem.run_bind, Sem.run_pure, Result.andThen_ok, e1, e9]
        · cases hu
      · cases hu

theorem packed_rel {ρ : Pl} {vs vs' : List Value} (h : LRel ρ vs vs') : VRel ρ (packed vs) (packed vs') := by
  cases h with
  | nil => exact .tuple .nil
  | cons a b => cases b with
    | nil => exact a
    | cons c d => exact .tuple (.cons a (.cons c d))

theorem results_packed {a : Act} {w : World} {fn : Func} {vs' : List Value} (h : (fn.results.toList.mapM (resOne a)).run P w = .ok vs' w) : (results fn a.tmps).run P w = .ok (packed vs') w := by
  have h1 : results fn a.tmps = (do
    let vs ← fn.results.mapM (resOne a)
    pure (if h : vs.size = 1 then vs[0] else .tuple vs)) := by
    unfold results
    have : (fun r => match r with
      | ResultVar.tmp t => pure (a.tmps.getD t undef)
      | ResultVar.cell a' t => do loadVar t (← asAddr (a.tmps.getD a' undef)) : ResultVar → Sem Value) = resOne a := by funext r; cases r <;> rfl
    rw [← this]
    rfl
  rw [h1]
  have h2 : fn.results.mapM (resOne a) = List.toArray <$> fn.results.toList.mapM (resOne a) := by
    rw [← List.mapM_toArray]
  rw [h2]
  simp only [Sem.run_bind, Sem.run_map, h, Result.andThen_ok, Sem.run_pure]
  congr 1
  match vs' with
  | [] => rfl
  | [x] => rfl
  | x :: y :: l => simp [packed]

theorem comp_region {n : Nat} {code : Code} {l : List AOper} {prs : List (Nat × Nat)} (h : comp P n code = some (.region l none prs)) : ∃ id ops draw, code = .region id ops draw ∧ compOpers P n ops.toList ops.toList = some l ∧
    (draw = true → backEdges ops.toList = true ∧ slotsOk ops.toList (openPairs (upsOf ops.toList)) = true ∧ prs = memPairs l (openPairs (upsOf ops.toList))) := by
  cases code with
  | region id ops draw =>
    simp only [comp, Option.bind_eq_some_iff] at h
    obtain ⟨l', h1, h⟩ := h
    refine ⟨id, ops, draw, rfl, ?_⟩
    split at h
    · split at h
      · rename_i hb
        simp only [Bool.and_eq_true] at hb
        simp only [Option.some.injEq, ACode.region.injEq] at h
        obtain ⟨rfl, _, rfl⟩ := h
        exact ⟨h1, fun _ => ⟨hb.1, hb.2, rfl⟩⟩
      · cases h
    · rename_i hd
      simp only [Option.some.injEq, ACode.region.injEq] at h
      obtain ⟨rfl, _, rfl⟩ := h
      exact ⟨h1, fun hd' => absurd hd' (by simpa using hd)⟩
  | _ => simp [comp, Option.bind_eq_some_iff] at h

theorem comp_seq {n : Nat} {code : Code} {x y : ACode} (h : comp P n code = some (.seq x y)) : ∃ a b, code = .seq a b ∧ comp P n a = some x ∧ comp P n b = some y := by
  cases code with
  | seq a b =>
    simp only [comp, Option.bind_eq_some_iff, Option.map_eq_some_iff, ACode.seq.injEq] at h
    obtain ⟨x', h1, y', h2, rfl, rfl⟩ := h
    exact ⟨a, b, rfl, h1, h2⟩
  | region id ops draw => simp only [comp, Option.bind_eq_some_iff] at h; obtain ⟨_, _, h⟩ := h; split at h <;> (try split at h) <;> simp at h
  | _ => simp [comp, Option.bind_eq_some_iff] at h

theorem comp_cond {n : Nat} {code : Code} {c : Operand} {x y : ACode} (h : comp P n code = some (.cond c x y)) : ∃ a b, code = .cond c a b ∧ okConst c = true ∧ comp P n a = some x ∧ comp P n b = some y := by
  cases code with
  | cond c' a b =>
    simp only [comp] at h
    split at h
    · simp only [Option.bind_eq_some_iff, Option.map_eq_some_iff, ACode.cond.injEq] at h
      obtain ⟨x', h1, y', h2, rfl, rfl, rfl⟩ := h
      exact ⟨a, b, rfl, by assumption, h1, h2⟩
    · cases h
  | region id ops draw => simp only [comp, Option.bind_eq_some_iff] at h; obtain ⟨_, _, h⟩ := h; split at h <;> (try split at h) <;> simp at h
  | _ => simp [comp, Option.bind_eq_some_iff] at h

theorem comp_block {n id : Nat} {code : Code} {x : ACode} (h : comp P n code = some (.block id x)) : ∃ a, code = .block id a ∧ comp P n a = some x := by
  cases code with
  | block i a =>
    simp only [comp, Option.map_eq_some_iff, ACode.block.injEq] at h
    obtain ⟨x', h1, rfl, rfl⟩ := h
    exact ⟨a, rfl, h1⟩
  | region id ops draw => simp only [comp, Option.bind_eq_some_iff] at h; obtain ⟨_, _, h⟩ := h; split at h <;> (try split at h) <;> simp at h
  | cond c a b => simp only [comp] at h; split at h <;> simp [Option.bind_eq_some_iff] at h
  | _ => simp [comp, Option.bind_eq_some_iff] at h

theorem comp_loop {n : Nat} {code : Code} {x : ACode} (h : comp P n code = some (.loop x)) : ∃ a, code = .loop a ∧ comp P n a = some x := by
  cases code with
  | loop a =>
    simp only [comp, Option.map_eq_some_iff, ACode.loop.injEq] at h
    obtain ⟨x', h1, rfl⟩ := h
    exact ⟨a, rfl, h1⟩
  | region id ops draw => simp only [comp, Option.bind_eq_some_iff] at h; obtain ⟨_, _, h⟩ := h; split at h <;> (try split at h) <;> simp at h
  | cond c a b => simp only [comp] at h; split at h <;> simp [Option.bind_eq_some_iff] at h
  | _ => simp [comp, Option.bind_eq_some_iff] at h

theorem comp_leaf {n : Nat} {code : Code} {x : ACode} (hx : x = .skip ∨ x = .ret ∨ ∃ id, x = .exit id) (h : comp P n code = some x) : (x = .skip → code = .skip) ∧ (x = .ret → code = .ret) ∧ (∀ id, x = .exit id → code = .exit id) := by
  cases code with
  | region id ops draw => simp only [comp, Option.bind_eq_some_iff] at h; obtain ⟨_, _, h⟩ := h; split at h <;> (try split at h) <;> simp at h <;> subst h <;> simp at hx
  | cond c a b => simp only [comp] at h; split at h <;> simp [Option.bind_eq_some_iff] at h; obtain ⟨_, _, _, _, rfl⟩ := h; simp at hx
  | seq a b => simp [comp, Option.bind_eq_some_iff] at h; obtain ⟨_, _, _, _, rfl⟩ := h; simp at hx
  | block i a => simp [comp] at h; obtain ⟨_, _, rfl⟩ := h; simp at hx
  | loop a => simp [comp] at h; obtain ⟨_, _, rfl⟩ := h; simp at hx
  | skip => simp [comp] at h; subst h; simp
  | exit i => simp [comp] at h; subst h; simp
  | ret => simp [comp] at h; subst h; simp
  | _ => simp [comp] at h

/-- A piece of code comes to its end; a loop in so many rounds. -/
def GoodN (P : Program) (N : Nat) (code : Code) (Q : Exit → Act → World → Prop) (a : Act) (w : World) : Prop :=
  match code with
  | .loop b => Code.rounds P b Q N a w
  | c => c.wp P Q a w

theorem GoodN.wp {N : Nat} {code : Code} {Q : Exit → Act → World → Prop} {a : Act} {w : World} (h : GoodN P N code Q a w) : code.wp P Q a w := by
  cases code with
  | loop b => exact wp_loop_rounds N h
  | _ => exact h

def CodeOk (P : Program) (c : ACode) (s : St) (x : AExit) (s' : St) : Prop := ∃ N, ∀ (n : Nat) (code : Code), comp P n code = some c.strip → ∀ (ρ : Pl) (a : Act) (w : World), EnvRel ρ s.env a → a.defers = [] → n ≤ a.tmps.size → RelF ρ (hp s.h) w → Free ρ s.h.length s'.h.length →
  ∀ Q : Exit → Act → World → Prop, (∀ a' w' ρ', CPost ρ s s' a w a' w' ρ' → Q (exitOf x) a' w') → GoodN P N code Q a w

theorem compFun_inv {fn : Func} {af : AFun} (h : compFun P fn = some af.strip) : ∃ code, fn.body = some code ∧ comp P fn.ntmps code = some af.body.strip ∧ fn.results.toList.mapM (resA P) = some af.results := by
  simp only [compFun, Option.bind_eq_some_iff, Option.map_eq_some_iff] at h
  obtain ⟨code, h1, a, h2, rs, h3, h4⟩ := h
  simp only [AFun.strip, AFun.mk.injEq] at h4
  obtain ⟨rfl, rfl⟩ := h4
  refine ⟨code, h1, h2, ?_⟩
  rw [← h3]
  congr 1

theorem cpost_refl {ρ : Pl} {s : St} {a : Act} {w : World} (h1 : EnvRel ρ s.env a) (h2 : a.defers = []) (h3 : RelF ρ (hp s.h) w) : CPost ρ s s a w a w ρ := ⟨h1, h2, rfl, .refl _ _ _, h3, .refl _ _ _ _, fun _ _ _ => rfl⟩

theorem call_sound (hT : TabOk P T) {f : FuncId} {args : List Value} {H : List Ob} {fn : AFun} (hfn : T.fn f = some fn) {x : AExit} {s' : St} (hx : ∀ id, x ≠ .exit id) (hcode : CodeOk P fn.body ⟨envOf 0 args, H, []⟩ x s') {vs : List Value}
    (hres : resultOf s'.env s'.h fn.results = some vs) : CallOk P f args H (packed vs) s'.h := by
  obtain ⟨pf, h1, h2, h3⟩ := hT.fn f fn hfn
  obtain ⟨code, h4, h5, h6⟩ := compFun_inv h2
  obtain ⟨N, hN⟩ := hcode
  intro ρ args' w hl hrel hfree o a K Q hK
  have hcf : (callFunc f args'.toArray).run P w = .ok (.enter f args'.toArray) w := by
    have h3' : ¬ (pf.name = "runtime.NumGoroutine") := by simpa using h3
    simp [callFunc, h1, h3', h4]
  rw [hcf, Oper.upon_enter]
  refine calls_of_wp h1 h4 ?_
  refine (hN pf.ntmps code h5 ρ _ w ?_ rfl ?_ hrel hfree _ fun a' w' ρ' hp => ?_).wp
  · intro t v hv
    obtain ⟨v', g1, g2, g3⟩ := env_get hl 0 t v hv
    refine ⟨v', ?_, g3⟩
    have hlt := (List.getElem?_eq_some_iff.1 g2).1
    rw [Array.getElem?_append_left (by simpa using hlt)]
    simpa using g2
  · simp; omega
  · obtain ⟨vs', g1, g2⟩ := results_run (P := P) hp.env hp.rel h6 hres
    have g3 := results_packed g1
    have hfin : bodyPost P pf (fun | .returned v, w'' => K (a.put o.dst v) w'' | .panicked chain, w'' => Q (.panic chain) a w'' | .outgrown, _ => LetsOut Q) .normal a' w' :=
      ⟨hp.defers, _, g3, hK _ _ ρ' ⟨⟨hp.ext, packed_rel g2, hp.rel, hp.frm⟩, hp.pres⟩⟩
    cases x with
    | normal => exact hfin
    | ret => exact hfin
    | exit id => exact absurd rfl (hx id)

theorem cabs_abs {H : List Ob} {e : Env} {s' : St} (h : CAbs H.length ⟨e, H, []⟩ s') : AbsOk H s'.h s'.log := by
  refine ⟨h.len, h.flags, fun id h1 h2 => h.log id h1 h1 h2, fun id hid => ?_⟩
  rcases h.ids id hid with h1 | h1
  · simp at h1
  · exact h1.1

def M1 (P : Program) (f : Nat) (args : List Value) (H : List Ob) (r : Value × List Ob × List Nat) : Prop := CallOk P f args H r.1 r.2.1 ∧ AbsOk H r.2.1 r.2.2
def M2 (P : Program) (base : Nat) (c : ACode) (s : St) (r : AExit × St) : Prop := CAbs base s r.2 ∧ CodeOk P c s r.1 r.2
def M3 (P : Program) (base : Nat) (aops : List AOper) (s : St) (recs : List Rec) (r : St × List Rec) : Prop := ∃ S R, Trace P base aops s r.1 recs r.2 S R
def M4 (P : Program) (ao : AOp) (e : Env) (H : List Ob) (r : Value × List Ob × Option (List Nat) × List Nat) : Prop := StepGood P ao e H r.1 r.2.1 r.2.2.1 r.2.2.2

theorem good_call_ref {f : FuncId} {xs : List Operand} {e : Env} {args : List Value} {H H' : List Ob} {v : Value} {M : List Nat} (hx : opds e xs = some args) (hc : CallOk P f args H v H') (ha : AbsOk H H' M) : StepGood P (.call f xs false) e H v H' none M :=
  ⟨ha, fun o ho => operOk_call ho hx hc, fun l h => (by cases h), fun l h => (by cases h), fun h => (by simp [AOp.free] at h), fun h => (by simp [AOp.quiet] at h)⟩

theorem good_callv {f : Operand} {xs : List Operand} {e : Env} {g : FuncId} {fi ca : Array Value} {args : List Value} {H H' : List Ob} {v : Value} {M : List Nat} (hf : opd e f = some (.func (.func g) fi ca)) (hx : opds e xs = some args)
    (hc : CallOk P g (fi.toList ++ args ++ ca.toList) H v H') (ha : AbsOk H H' M) : StepGood P (.callv f xs) e H v H' none M :=
  ⟨ha, fun o ho => operOk_callv ho hf hx hc, fun l h => (by cases h), fun l h => (by cases h), fun h => (by simp [AOp.free] at h), fun h => (by simp [AOp.quiet] at h)⟩

theorem good_call_val {f : FuncId} {xs : List Operand} {e : Env} {args : List Value} {H0 H : List Ob} {v : Value} (hx : opds e xs = some args) (hc : CallOk P f args [] v H0) (ha : args.all rf = true) (hv : rf v = true) : StepGood P (.call f xs true) e H v H (some []) [] :=
  ⟨.refl _ _ (by simp), fun o ho => operOk_call ho hx (callOk_byVal hc ha hv H), fun l h G hG _ => ⟨G, ⟨hG, fun id h => by
    rcases h with h | h
    · simp at h
    · rw [List.getElem?_eq_none (by omega), List.getElem?_eq_none h]⟩, .refl _ _ (by simp), fun o ho => operOk_call ho hx (callOk_byVal hc ha hv G)⟩, fun l h id hid => (by simp at hid), fun _ => ⟨rfl, rfl⟩, fun _ => rfl⟩

theorem LRel.of_all {ρ : Pl} : ∀ {l l' : List Value}, LRel ρ l l' → l.all rf = true → l' = l
  | [], _, h, _ => by cases h; rfl
  | _ :: _, _, h, ha => by
    cases h with
    | cons hx hr =>
      simp only [List.all_cons, Bool.and_eq_true] at ha
      rw [hx.of_rf ha.1, LRel.of_all hr ha.2]

theorem good_ext (hT : TabOk P T) {f : FuncId} {args : List Value} {H : List Ob} {v : Value} (hn : T.fn f = none) (he : T.ext f args = some v) (ha : args.all rf = true) : CallOk P f args H v H := by
  obtain ⟨h1, h2⟩ := hT.ext f args v hn he ha
  intro ρ args' w hl hrel hfree o a K Q hK
  have : args' = args := LRel.of_all hl ha
  subst this
  rw [h2 w]
  exact hK v w ρ ⟨⟨.refl _ _ _, h1 ρ, hrel, .refl _ _ _ _⟩, fun _ _ _ => rfl⟩

theorem eval_bool {ρ : Pl} {e : Env} {a : Act} {c : Operand} {b : Bool} (hc : okConst c = true) (henv : EnvRel ρ e a) (h : opd e c = some (.bool b)) : a.eval c = .bool b :=
  (opRel_one hc (fun t _ v hv => henv t v hv) h).bool

theorem sound (hm : P.follows .mixedOrders = true) (hT : TabOk P T) : ∀ (f : Nat) (args : List Value) (H : List Ob) (r : Value × List Ob × List Nat), evFun T f args H = some r → M1 P f args H r := by
  refine evFun.partial_correctness T (M1 P) (M2 P) (M3 P) (M4 P) ?_ ?_ ?_ ?_
  · -- a call
    intro evCode hcode f args H r hr
    split at hr
    · rename_i fn hfn
      simp only [Option.bind_eq_bind, Option.bind_eq_some_iff] at hr
      obtain ⟨⟨x, s'⟩, hx, hr⟩ := hr
      have h2 := hcode _ _ _ _ hx
      dsimp only at hr
      cases x with
      | exit id => cases hr
      | normal =>
        simp only [Option.bind_eq_some_iff, Option.some.injEq] at hr
        obtain ⟨vs, hvs, rfl⟩ := hr
        exact ⟨call_sound hT hfn (fun id h => by cases h) h2.2 hvs, cabs_abs h2.1⟩
      | ret =>
        simp only [Option.bind_eq_some_iff, Option.some.injEq] at hr
        obtain ⟨vs, hvs, rfl⟩ := hr
        exact ⟨call_sound hT hfn (fun id h => by cases h) h2.2 hvs, cabs_abs h2.1⟩
    · rename_i hfn
      split at hr
      · rename_i ha
        simp only [Option.bind_eq_some_iff, Option.some.injEq] at hr
        obtain ⟨v, hv, rfl⟩ := hr
        exact ⟨good_ext hT hfn hv ha, .refl _ _ (by simp)⟩
      · cases hr
  · -- a piece of code
    intro evCode evOps hcode hops base c s r hr
    cases c with
    | skip =>
      simp only [Option.some.injEq] at hr; subst hr
      refine ⟨.refl _ _, 0, fun n code hc ρ a w h1 h2 h3 h4 h5 Q hQ => ?_⟩
      have := (comp_leaf (.inl rfl) hc).1 rfl
      subst this
      exact wp_skip (hQ a w ρ (cpost_refl h1 h2 h4))
    | exit id =>
      simp only [Option.some.injEq] at hr; subst hr
      refine ⟨.refl _ _, 0, fun n code hc ρ a w h1 h2 h3 h4 h5 Q hQ => ?_⟩
      have := (comp_leaf (.inr (.inr ⟨id, rfl⟩)) hc).2.2 id rfl
      subst this
      exact wp_exit (hQ a w ρ (cpost_refl h1 h2 h4))
    | ret =>
      simp only [Option.some.injEq] at hr; subst hr
      refine ⟨.refl _ _, 0, fun n code hc ρ a w h1 h2 h3 h4 h5 Q hQ => ?_⟩
      have := (comp_leaf (.inr (.inl rfl)) hc).2.1 rfl
      subst this
      exact wp_ret (hQ a w ρ (cpost_refl h1 h2 h4))
    | region ops keep pairs =>
      simp only [Option.bind_eq_bind, Option.bind_eq_some_iff] at hr
      obtain ⟨⟨s1, recs⟩, h1, hr⟩ := hr
      dsimp only at hr
      split at hr
      · rename_i hpk
        simp only [Option.some.injEq] at hr; subst hr
        obtain ⟨S, R, ht⟩ := hops _ _ _ _ _ h1
        dsimp only at ht ⊢
        obtain ⟨k1, k2⟩ := after_h s1 keep
        have hcab := ht.cabs (i := 0) (j := ops.length) (Nat.zero_le _) (Nat.le_refl _)
        rw [ht.first, ht.last] at hcab
        refine ⟨⟨by rw [k1]; exact hcab.len, by rw [k1]; exact hcab.flags, by rw [k1, k2]; exact hcab.log, by rw [k2]; exact hcab.sub, by rw [k1, k2]; exact hcab.ids⟩, 0, fun n code hc ρ a w e1 e2 e3 e4 e5 Q hQ => ?_⟩
        obtain ⟨id, cops, draw, rfl, hcp, hdr⟩ := comp_region hc
        rw [k1] at e5
        have hQ' : ∀ a' w' ρ', CPost ρ s s1 a w a' w' ρ' → Q .normal a' w' := fun a' w' ρ' hp => hQ a' w' ρ' ⟨hp.env.after keep, hp.defers, hp.size, by rw [k1]; exact hp.ext, by rw [k1]; exact hp.rel, by rw [k1]; exact hp.frm, by rw [k1]; exact hp.pres⟩
        show (Code.region id cops draw).wp P Q a w
        cases draw with
        | false =>
          refine wp_region ?_
          have hl := (compOpers_get hcp).1
          have : List.range cops.size = List.range' 0 ops.length := by rw [List.range_eq_range']; congr 1; simpa using hl.symm
          rw [this]
          refine seq_ok hcp ht ops.length 0 (by omega) ρ a w (by rw [ht.first]; exact e1) e2 e3 (by rw [ht.first]; exact e4) (by rw [ht.first]; exact e5) fun a' w' ρ' hp => hQ' a' w' ρ' (by rw [ht.first] at hp; exact hp)
        | true =>
          obtain ⟨d1, d2, d3⟩ := hdr rfl
          subst d3
          exact draw_ok hcp ht d2 hpk hm d1 e1 e2 e3 e4 e5 hQ'
      · cases hr
    | seq x y =>
      simp only [Option.bind_eq_bind, Option.bind_eq_some_iff] at hr
      obtain ⟨⟨ex, s1⟩, h1, hr⟩ := hr
      obtain ⟨ca1, N1, hN1⟩ := hcode _ _ _ _ h1
      dsimp only at hr ca1 hN1
      cases ex with
      | normal =>
        obtain ⟨ca2, N2, hN2⟩ := hcode _ _ _ _ hr
        refine ⟨ca1.trans ca2, 0, fun n code hc ρ a w e1 e2 e3 e4 e5 Q hQ => ?_⟩
        obtain ⟨p, q, rfl, hp1, hq1⟩ := comp_seq hc
        refine wp_seq (hN1 n p hp1 ρ a w e1 e2 e3 e4 (fun id i1 i2 => e5 id i1 (Nat.lt_of_lt_of_le i2 ca2.len)) _ fun a1 w1 ρ1 hp => ?_).wp
        show q.wp P Q a1 w1
        exact (hN2 n q hq1 ρ1 a1 w1 hp.env hp.defers (by rw [hp.size]; exact e3) hp.rel (e5.later hp.ext ca1.len) Q fun a2 w2 ρ2 hp2 => hQ a2 w2 ρ2 (hp.trans hp2 ca1 ca2 e5)).wp
      | exit id =>
        simp only [Option.some.injEq] at hr; subst hr
        refine ⟨ca1, 0, fun n code hc ρ a w e1 e2 e3 e4 e5 Q hQ => ?_⟩
        obtain ⟨p, q, rfl, hp1, hq1⟩ := comp_seq hc
        refine wp_seq (hN1 n p hp1 ρ a w e1 e2 e3 e4 e5 _ fun a1 w1 ρ1 hp => ?_).wp
        exact hQ a1 w1 ρ1 hp
      | ret =>
        simp only [Option.some.injEq] at hr; subst hr
        refine ⟨ca1, 0, fun n code hc ρ a w e1 e2 e3 e4 e5 Q hQ => ?_⟩
        obtain ⟨p, q, rfl, hp1, hq1⟩ := comp_seq hc
        refine wp_seq (hN1 n p hp1 ρ a w e1 e2 e3 e4 e5 _ fun a1 w1 ρ1 hp => ?_).wp
        exact hQ a1 w1 ρ1 hp
    | cond c x y =>
      dsimp only at hr
      split at hr
      · rename_i hb
        obtain ⟨ca1, N1, hN1⟩ := hcode _ _ _ _ hr
        refine ⟨ca1, 0, fun n code hc ρ a w e1 e2 e3 e4 e5 Q hQ => ?_⟩
        obtain ⟨p, q, rfl, hok, hp1, hq1⟩ := comp_cond hc
        exact wp_cond_true (eval_bool hok e1 hb) (hN1 n p hp1 ρ a w e1 e2 e3 e4 e5 Q hQ).wp
      · rename_i hb
        obtain ⟨ca1, N1, hN1⟩ := hcode _ _ _ _ hr
        refine ⟨ca1, 0, fun n code hc ρ a w e1 e2 e3 e4 e5 Q hQ => ?_⟩
        obtain ⟨p, q, rfl, hok, hp1, hq1⟩ := comp_cond hc
        exact wp_cond_false (eval_bool hok e1 hb) (hN1 n q hq1 ρ a w e1 e2 e3 e4 e5 Q hQ).wp
      · cases hr
    | block id x =>
      simp only [Option.bind_eq_bind, Option.bind_eq_some_iff] at hr
      obtain ⟨⟨ex, s1⟩, h1, hr⟩ := hr
      obtain ⟨ca1, N1, hN1⟩ := hcode _ _ _ _ h1
      dsimp only at hr ca1 hN1
      cases ex with
      | normal =>
        simp only [Option.some.injEq] at hr; subst hr
        refine ⟨ca1, 0, fun n code hc ρ a w e1 e2 e3 e4 e5 Q hQ => ?_⟩
        obtain ⟨p, rfl, hp1⟩ := comp_block hc
        refine wp_block (hN1 n p hp1 ρ a w e1 e2 e3 e4 e5 _ fun a1 w1 ρ1 hp => ?_).wp
        exact hQ a1 w1 ρ1 hp
      | ret =>
        simp only [Option.some.injEq] at hr; subst hr
        refine ⟨ca1, 0, fun n code hc ρ a w e1 e2 e3 e4 e5 Q hQ => ?_⟩
        obtain ⟨p, rfl, hp1⟩ := comp_block hc
        refine wp_block (hN1 n p hp1 ρ a w e1 e2 e3 e4 e5 _ fun a1 w1 ρ1 hp => ?_).wp
        exact hQ a1 w1 ρ1 hp
      | exit i =>
        dsimp only at hr
        split at hr
        · rename_i hid
          simp only [Option.some.injEq] at hr; subst hr
          refine ⟨ca1, 0, fun n code hc ρ a w e1 e2 e3 e4 e5 Q hQ => ?_⟩
          obtain ⟨p, rfl, hp1⟩ := comp_block hc
          refine wp_block (hN1 n p hp1 ρ a w e1 e2 e3 e4 e5 _ fun a1 w1 ρ1 hp => ?_).wp
          show Exit.inBlock id Q (.exit i) a1 w1
          simp only [Exit.inBlock, if_pos hid]
          exact hQ a1 w1 ρ1 hp
        · rename_i hid
          simp only [Option.some.injEq] at hr; subst hr
          refine ⟨ca1, 0, fun n code hc ρ a w e1 e2 e3 e4 e5 Q hQ => ?_⟩
          obtain ⟨p, rfl, hp1⟩ := comp_block hc
          refine wp_block (hN1 n p hp1 ρ a w e1 e2 e3 e4 e5 _ fun a1 w1 ρ1 hp => ?_).wp
          show Exit.inBlock id Q (.exit i) a1 w1
          simp only [Exit.inBlock, if_neg hid]
          exact hQ a1 w1 ρ1 hp
    | loop x =>
      simp only [Option.bind_eq_bind, Option.bind_eq_some_iff] at hr
      obtain ⟨⟨ex, s1⟩, h1, hr⟩ := hr
      obtain ⟨ca1, N1, hN1⟩ := hcode _ _ _ _ h1
      dsimp only at hr ca1 hN1
      cases ex with
      | normal =>
        obtain ⟨ca2, N2, hN2⟩ := hcode _ _ _ _ hr
        refine ⟨ca1.trans ca2, N2 + 1, fun n code hc ρ a w e1 e2 e3 e4 e5 Q hQ => ?_⟩
        obtain ⟨p, rfl, hp1⟩ := comp_loop hc
        show Code.rounds P p Q (N2 + 1) a w
        rw [rounds_succ]
        refine (hN1 n p hp1 ρ a w e1 e2 e3 e4 (fun id i1 i2 => e5 id i1 (Nat.lt_of_lt_of_le i2 ca2.len)) _ fun a1 w1 ρ1 hp => ?_).wp
        show Code.rounds P p Q N2 a1 w1
        exact hN2 n (.loop p) hc ρ1 a1 w1 hp.env hp.defers (by rw [hp.size]; exact e3) hp.rel (e5.later hp.ext ca1.len) Q fun a2 w2 ρ2 hp2 => hQ a2 w2 ρ2 (hp.trans hp2 ca1 ca2 e5)
      | exit id =>
        simp only [Option.some.injEq] at hr; subst hr
        refine ⟨ca1, 1, fun n code hc ρ a w e1 e2 e3 e4 e5 Q hQ => ?_⟩
        obtain ⟨p, rfl, hp1⟩ := comp_loop hc
        show Code.rounds P p Q (0 + 1) a w
        rw [rounds_succ]
        refine (hN1 n p hp1 ρ a w e1 e2 e3 e4 e5 _ fun a1 w1 ρ1 hp => ?_).wp
        exact hQ a1 w1 ρ1 hp
      | ret =>
        simp only [Option.some.injEq] at hr; subst hr
        refine ⟨ca1, 1, fun n code hc ρ a w e1 e2 e3 e4 e5 Q hQ => ?_⟩
        obtain ⟨p, rfl, hp1⟩ := comp_loop hc
        show Code.rounds P p Q (0 + 1) a w
        rw [rounds_succ]
        refine (hN1 n p hp1 ρ a w e1 e2 e3 e4 e5 _ fun a1 w1 ρ1 hp => ?_).wp
        exact hQ a1 w1 ρ1 hp
  · -- operations
    intro evOps evOper hops hoper base aops s recs r hr
    cases aops with
    | nil => simp only [Option.some.injEq] at hr; subst hr; exact ⟨_, _, .nil⟩
    | cons ao aops =>
      dsimp only at hr
      split at hr
      · rename_i hg
        simp only [Option.bind_eq_bind, Option.bind_eq_some_iff] at hr
        obtain ⟨⟨v, H', t, M⟩, h1, hr⟩ := hr
        obtain ⟨S, R, ht⟩ := hops _ _ _ _ _ hr
        exact ⟨_, _, Trace.cons (.inl ⟨hg, v, H', t, M, hoper _ _ _ _ h1, rfl, rfl⟩) ht⟩
      · rename_i hg
        obtain ⟨S, R, ht⟩ := hops _ _ _ _ _ hr
        exact ⟨_, _, Trace.cons (.inr ⟨hg, rfl, rfl⟩) ht⟩
      · cases hr
  · -- one operation
    intro evFun hfun ao e H r hr
    cases ao with
    | call f xs b =>
      dsimp only at hr
      cases b with
      | true =>
        simp only [if_true] at hr
        split at hr
        · rename_i args hx
          split at hr
          · rename_i ha
            simp only [Option.bind_eq_bind, Option.bind_eq_some_iff] at hr
            obtain ⟨⟨v, H', M⟩, h1, hr⟩ := hr
            dsimp only at hr
            split at hr
            · rename_i hv
              simp only [Option.some.injEq] at hr; subst hr
              exact good_call_val hx (hfun _ _ _ _ h1).1 ha hv
            · cases hr
          · cases hr
        · cases hr
      | false =>
        simp only [Bool.false_eq_true, if_false] at hr
        split at hr
        · rename_i args hx
          simp only [Option.bind_eq_bind, Option.bind_eq_some_iff, Option.some.injEq] at hr
          obtain ⟨⟨v, H', M⟩, h1, rfl⟩ := hr
          exact good_call_ref hx (hfun _ _ _ _ h1).1 (hfun _ _ _ _ h1).2
        · cases hr
    | callv f xs =>
      dsimp only at hr
      split at hr
      · rename_i g fi ca args hf hx
        simp only [Option.bind_eq_bind, Option.bind_eq_some_iff, Option.some.injEq] at hr
        obtain ⟨⟨v, H', M⟩, h1, rfl⟩ := hr
        exact good_callv hf hx (hfun _ _ _ _ h1).1 (hfun _ _ _ _ h1).2
      · cases hr
    | _ => exact simple_good rfl hr

end
end Go.Ev

/-
  From the evaluator to the calls of the model.
-/
set_option linter.unusedSimpArgs false
set_option linter.unusedVariables false
namespace Go.Ev
open Go.RowKit Go.WideShapes Go.ChangeShapes
section
variable {P : Program} {T : Tab}

theorem VRel.refl_in {ρ : Pl} {v : Value} (h : rfIn v = true) : VRel ρ v v := by
  rcases rfIn_cases h with h1 | ⟨cs, rfl⟩
  · exact .same h1
  · have h2 : cs.toList.all scalarRf = true := h
    exact VRel.agg (l := cs.toList) (l' := cs.toList) (LRel.same h2) fun v hv => scalarRf_oneCell (List.all_eq_true.1 h2 v hv)

theorem LRel.refl_in {ρ : Pl} : ∀ {l : List Value}, l.all rfIn = true → LRel ρ l l
  | [], _ => .nil
  | _ :: _, h => by
    simp only [List.all_cons, Bool.and_eq_true] at h
    exact .cons (VRel.refl_in h.1) (LRel.refl_in h.2)

theorem calls_value (hm : P.follows .mixedOrders = true) (hT : TabOk P T) {f : Nat} {args : List Value} {v : Value} {H' : List Ob} {M : List Nat} (h : evFun T f args [] = some (v, H', M)) (hn : T.fn f ≠ none) (ha : args.all rfIn = true) (hv : rf v = true) (w : World) :
    Calls P f args.toArray w fun e w' => e = .returned v ∧ Below w.heap.size w w' := by
  have h1 := (sound hm hT f args [] _ h).1
  have h2 := h1 (fun _ => none) args w (LRel.refl_in ha) (rel_empty w) (fun _ _ _ => rfl) { (default : Oper) with dst := some 0 } { tmps := #[undef], defers := [] }
    (fun a w' => ∃ v', a.tmps = #[v'] ∧ v' = v ∧ Below w.heap.size w w') (fun _ _ _ => False) fun v' w' ρ' hp => ⟨v', by simp [Act.put], hp.val.of_rf hv, ⟨hp.frm.os, hp.frm.tape, hp.frm.output, hp.frm.size, fun k hk => hp.frm.blocks k hk fun id ob pl hc => by simp [hp] at hc⟩⟩
  obtain ⟨af, haf⟩ := Option.ne_none_iff_exists'.1 hn
  obtain ⟨pf, g1, g2, g3⟩ := hT.fn f af haf
  obtain ⟨code, g4, g5, g6⟩ := compFun_inv g2
  have hcf : (callFunc f args.toArray).run P w = .ok (.enter f args.toArray) w := by
    have g3' : ¬ (pf.name = "runtime.NumGoroutine") := by simpa using g3
    simp [callFunc, g1, g3', g4]
  rw [hcf, Oper.upon_enter] at h2
  refine h2.mono fun e w' he => ?_
  cases e with
  | returned v1 =>
    obtain ⟨v', k1, k2, k3⟩ := he
    have : v1 = v' := by simpa [Act.put] using k1
    exact ⟨by rw [this, k2], k3⟩
  | panicked c => exact he.elim
  | outgrown => obtain ⟨_, _, hx⟩ := he; exact hx.elim


open Go.RowKit Go.WideShapes Go.ChangeShapes in
theorem post_of_below {H : Type} {enc : TypeId × Value → H} {f : Func} {s : ChangeSpec} {apart fresh handsOn again : Bool} {W W' : World} {args : Array Value} {v : Value} {ds gs : List (DataW H)} {before pa pv : List MemPlace}
    (hW : DataW.Whole enc P f.params.toList s.vars apart W args.toList ds gs before)
    (hres : ∀ (b : Nat) (sp : Nat → Bool) (hd : Bool), DataW.TrodAll enc P W' b sp hd f.resultTypes.toList (v.resultList f.resultTypes.size) (s.fn H (ds ++ gs)).results [])
    (hargs : ∀ sp : Nat → Bool, (∀ p ∈ before, sp p.block = true) → DataW.TrodAll enc P W' 0 sp true f.params.toList args.toList (s.fn H (ds ++ gs)).args pa)
    (hvars : ∀ sp : Nat → Bool, (∀ p ∈ before, sp p.block = true) → DataW.TrodVars enc P W' sp s.vars (s.fn H (ds ++ gs)).vars pv)
    (hps : before = pa ++ pv) (hb : Below W.heap.size W W')
    (hok : ∀ (j : Nat) (t : TypeId) (r : Value), f.resultTypes[j]? = some t → (v.resultList f.resultTypes.size)[j]? = some r → Value.okWide P W' .any 0 t r) :
    s.post enc P f apart fresh handsOn again W args v W' := by
  have hlt : ∀ p ∈ before, p.block < W.heap.size := fun p hp => hW.lt p hp
  have hold : ∀ p ∈ before, (fun b => decide (b < W.heap.size)) p.block = true := fun p hp => by simpa using hlt p hp
  refine ⟨ds, gs, before, [], pa, pv, hW, hres _ _ _, hargs _ hold, hvars _ hold, World.keptBut_mono (fun p hp => ⟨hp, ?_⟩) (hb.frame (· ∈ before)), fun _ => ?_⟩
  · rw [hps, List.mem_append] at hp
    exact Or.inr hp
  · obtain ⟨_, _, _, _, _, hz, hn⟩ := hW
    refine ⟨hok, _, _, ([] ++ pa) ++ pv, ⟨[] ++ pa, pv, trodAll_append (hargs _ (fun _ _ => rfl)) (hres _ _ _), hvars _ (fun _ _ => rfl), rfl, ?_, ?_⟩, ?_⟩
    · intro b off hp
      have hin : MemPlace.cell b off ∈ before := by rw [hps]; simpa using hp
      rw [hb.frozen (hlt _ hin)]
      exact hz b off hin
    · intro ha
      have := hn ha
      rw [hps] at this
      simpa using this
    · intro p hp _
      rw [hps]
      simpa using hp
end
end Go.Ev


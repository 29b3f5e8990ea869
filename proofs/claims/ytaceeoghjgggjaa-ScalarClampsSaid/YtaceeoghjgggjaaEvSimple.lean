/-
  All simple operations, by the compiler.
-/
import Derived.Test.YtaceeoghjgggjaaEvApp
set_option linter.unusedSimpArgs false
set_option linter.unusedVariables false
namespace Go.Ev
open Go.RowKit

section
variable {P : Program} {o : Oper} {e : Env} {H H' : List Ob} {v : Value} {t : Option (List Nat)} {M : List Nat}

def AOp.simple : AOp → Bool
  | .call .. | .callv .. => false
  | _ => true

theorem simple_ok {ao : AOp} (hc : compOp P o = some ao) (hsim : ao.simple = true) (hr : simpleOp H e ao = some (v, H', t, M)) : OpOk P o e H v H' := by
  cases hop : o.op with
  | move x => simp only [compOp, hop, Option.some.injEq] at hc; subst hc; exact ok_move (.inl hop) hr
  | assign x => simp only [compOp, hop, Option.some.injEq] at hc; subst hc; exact ok_move (.inr hop) hr
  | pick c a b => simp only [compOp, hop, Option.some.injEq] at hc; subst hc; exact ok_pick hop hr
  | alloc ty => simp only [compOp, hop, Option.map_eq_some_iff] at hc; obtain ⟨z, hz, rfl⟩ := hc; exact ok_alloc hz hop hr
  | box ty x => simp only [compOp, hop, Option.some.injEq] at hc; subst hc; exact ok_box hop hr
  | load ty x => simp only [compOp, hop, Option.map_eq_some_iff] at hc; obtain ⟨z, hz, rfl⟩ := hc; exact ok_load hz hop hr
  | store ty x y => simp only [compOp, hop, Option.map_eq_some_iff] at hc; obtain ⟨z, hz, rfl⟩ := hc; exact ok_store hz hop hr
  | nilCheck x => simp only [compOp, hop, Option.some.injEq] at hc; subst hc; exact ok_nilCheck hop hr
  | unOp op ty x => simp only [compOp, hop, Option.some.injEq] at hc; subst hc; exact ok_un hop hr
  | extract x i => simp only [compOp, hop, Option.some.injEq] at hc; subst hc; exact ok_extract hop hr
  | makeFunc fn f c => simp only [compOp, hop, Option.some.injEq] at hc; subst hc; exact ok_mkFunc hop hr
  | makeInterface ty x =>
    simp only [compOp, hop] at hc
    cases hu : P.underlying ty with
    | none => simp [hu] at hc
    | some d =>
      rw [hu] at hc
      have hn : ∀ ms, d ≠ .interface ms := fun ms hms => by subst hms; simp at hc
      have : ao = .mkIface ty x := by
        cases d <;> first | exact absurd rfl (hn _) | (simp at hc; exact hc.symm)
      subst this
      exact ok_mkIface hu hn hop hr
  | binOp op ty x y yt =>
    simp only [compOp, hop] at hc
    have hcmp : ∀ (hop2 : op = .eql ∨ op = .neq), (match P.underlying ty with
      | some (.int _) | some .string => some (AOp.bin op x y)
      | some .bool => some (.eqv none (op == .neq) x y)
      | some (.array ..) | some (.struct _) => if P.eqGuardType P.depth ty then none else (kindsT P 20 ty).map fun ks => .eqv (some ks) (op == .neq) x y
      | some d => if isNilConst (nilKind d) y then some (.isNil (nilKind d) (op == .neq) x) else none
      | _ => none) = some ao → OpOk P o e H v H' := by
      intro hop2 hc
      split at hc
      · cases hc; exact ok_bin hop hr
      · cases hc; exact ok_bin hop hr
      · rename_i hu; cases hc; exact ok_eqb hop2 hu hop hr
      · rename_i n el hu
        split at hc
        · cases hc
        · rename_i hg
          simp only [Option.map_eq_some_iff] at hc
          obtain ⟨ks, hk, rfl⟩ := hc
          exact ok_eqv hop2 hu (.inr ⟨n, el, rfl⟩) hk (by simpa using hg) hop hr
      · rename_i fs hu
        split at hc
        · cases hc
        · rename_i hg
          simp only [Option.map_eq_some_iff] at hc
          obtain ⟨ks, hk, rfl⟩ := hc
          exact ok_eqv hop2 hu (.inl ⟨fs, rfl⟩) hk (by simpa using hg) hop hr
      · rename_i d _ _ _ _ _ hu
        split at hc
        · rename_i hn; cases hc; exact ok_isNil hop2 hu hn hop hr
        · cases hc
      · cases hc
    cases op with
    | eql => exact hcmp (.inl rfl) hc
    | neq => exact hcmp (.inr rfl) hc
    | _ => simp only [Option.some.injEq] at hc; subst hc; exact ok_bin hop hr
  | convert s d x =>
    simp only [compOp, hop] at hc
    split at hc
    · rename_i ks k h1 h2; cases hc; exact ok_conv h1 h2 hop hr
    · rename_i h1 h2; cases hc; exact ok_convStr h1 h2 hop hr
    · rename_i el h1 h2
      split at hc
      · rename_i he
        cases hc
        have he' : P.underlying el = some (.int .u8) := by
          cases hu : P.underlying el with
          | none => simp [hu] at he
          | some d =>
            rw [hu] at he
            cases d with
            | int k => cases k <;> simp at he ⊢
            | _ => simp at he
        exact ok_s2b h1 h2 he' hop hr
      · cases hc
    · rename_i el h1 h2
      split at hc
      · rename_i he
        cases hc
        have he' : P.underlying el = some (.int .u8) := by
          cases hu : P.underlying el with
          | none => simp [hu] at he
          | some d =>
            rw [hu] at he
            cases d with
            | int k => cases k <;> simp at he ⊢
            | _ => simp at he
        exact ok_b2s h1 he' h2 hop hr
      · cases hc
    · cases hc
  | makeSlice ty l c =>
    simp only [compOp, hop] at hc
    split at hc
    · rename_i el hu
      simp only [Option.bind_eq_some_iff] at hc
      obtain ⟨z, hz, b, hb, hc⟩ := hc
      split at hc
      · rename_i hsz; cases hc; exact ok_makeSlice hu hz hsz hb hop hr
      · cases hc
    · cases hc
  | slice ty x lo hi mx =>
    simp only [compOp, hop] at hc
    split at hc
    · rename_i n el hu
      simp only [Option.map_eq_some_iff] at hc
      obtain ⟨s, hs, rfl⟩ := hc
      exact ok_sliceArr hu hs hop hr
    · rename_i el hu
      simp only [Option.map_eq_some_iff] at hc
      obtain ⟨s, hs, rfl⟩ := hc
      exact ok_sliceSl hu hs hop hr
    · rename_i hu
      split at hc
      · rename_i hm
        cases hc
        have : mx = none := by cases mx <;> simp at hm ⊢
        subst this
        exact ok_sliceStr hu hop hr
      · cases hc
    · cases hc
  | fieldAddr s x f =>
    simp only [compOp, hop] at hc
    split at hc
    · rename_i fs hu
      simp only [Option.bind_eq_some_iff] at hc
      obtain ⟨fd, hf, n, hn, hc⟩ := hc
      split at hc
      · cases hc
      · rename_i h0; cases hc; exact ok_fieldAddr hu hf rfl hn h0 hop hr
    · cases hc
  | field s x f =>
    simp only [compOp, hop] at hc
    split at hc
    · rename_i fs hu
      simp only [Option.bind_eq_some_iff, Option.map_eq_some_iff] at hc
      obtain ⟨fd, hf, n, hn, rfl⟩ := hc
      exact ok_field hu hf rfl hn hop hr
    · cases hc
  | indexAddr ty x i =>
    simp only [compOp, hop] at hc
    split at hc
    · rename_i n el hu
      simp only [Option.map_eq_some_iff] at hc
      obtain ⟨s, hs, rfl⟩ := hc
      exact ok_indexAddr hu hs hop hr
    · rename_i el hu
      simp only [Option.map_eq_some_iff] at hc
      obtain ⟨s, hs, rfl⟩ := hc
      exact ok_indexSl hu hs hop hr
    · cases hc
  | index ty x i =>
    simp only [compOp, hop] at hc
    split at hc
    · rename_i n el hu
      simp only [Option.bind_eq_some_iff, Option.map_eq_some_iff] at hc
      obtain ⟨s, hs, m, hm, rfl⟩ := hc
      exact ok_index hu hs hm hop hr
    · rename_i hu; cases hc; exact ok_indexStr hu hop hr
    · cases hc
  | build ty ps =>
    simp only [compOp, hop] at hc
    split at hc
    · rename_i fs hu
      split at hc
      · rename_i hall
        simp only [Option.bind_eq_some_iff, Option.map_eq_some_iff] at hc
        obtain ⟨z, hz, cps, hcp, rfl⟩ := hc
        refine ok_build hz (.inl ⟨fs, hu, rfl⟩) (fun fs' h f hf => ?_) hcp hop hr
        rw [hu] at h; cases h
        exact List.all_eq_true.1 hall f hf
      · cases hc
    · rename_i n el hu
      simp only [Option.bind_eq_some_iff, Option.map_eq_some_iff] at hc
      obtain ⟨z, hz, s, hs, cps, hcp, rfl⟩ := hc
      refine ok_build hz (.inr ⟨n, el, s, hu, hs, rfl⟩) (fun fs' h f hf => ?_) hcp hop hr
      rw [hu] at h; cases h
    · cases hc
  | buildSlice ty len ps =>
    simp only [compOp, hop] at hc
    split at hc
    · rename_i el hu
      simp only [Option.bind_eq_some_iff] at hc
      obtain ⟨z, hz, s, hs, hc⟩ := hc
      split at hc
      · rename_i hcond
        simp only [Option.map_eq_some_iff] at hc
        obtain ⟨cps, hcp, rfl⟩ := hc
        exact ok_buildSlice hu hz hs hcond.1 hcond.2.1 hcond.2.2 hcp hop hr
      · cases hc
    · cases hc
  | sliceToArrayPointer ty x =>
    simp only [compOp, hop] at hc
    split at hc
    · rename_i n el hu
      split at hc
      · cases hc; exact ok_s2ap hu hop hr
      · cases hc
    · cases hc
  | call c =>
    simp only [compOp, hop] at hc
    split at hc
    · cases hc; simp [AOp.simple] at hsim
    · cases hc; simp [AOp.simple] at hsim
    · rename_i hcal
      split at hc
      · rename_i s x ts tx h1 h2
        split at hc
        · rename_i el1 el2 hu1 hu2
          simp only [Option.bind_eq_some_iff] at hc
          obtain ⟨z, hz, b, hb, hc⟩ := hc
          split at hc
          · rename_i hsz; cases hc; exact ok_append hu1 hu2 (fun k hk => by cases hk) hz hsz hb hcal h1 h2 hop hr
          · cases hc
        · rename_i el1 hu1 hu2
          simp only [Option.bind_eq_some_iff] at hc
          obtain ⟨z, hz, b, hb, hc⟩ := hc
          split at hc
          · rename_i hsz; cases hc; exact ok_append hu1 hu2 (fun k hk => by cases hk) hz hsz hb hcal h1 h2 hop hr
          · cases hc
        · cases hc
      · cases hc
    · rename_i hcal
      split at hc
      · rename_i d s td ts h1 h2
        split at hc
        · rename_i el hu
          simp only [Option.map_eq_some_iff] at hc
          obtain ⟨n, hn, rfl⟩ := hc
          exact ok_copy hu hn hcal h1 h2 hop hr
        · cases hc
      · cases hc
    · rename_i hcal
      split at hc
      · rename_i x ty h1 h2
        split at hc
        · rename_i n el hu; cases hc; exact ok_lenArr hu hcal h1 h2 hop hr
        · rename_i hu; cases hc; exact ok_len hu (.inl ⟨rfl, rfl⟩) hcal h1 h2 hop hr
        · rename_i el hu; cases hc; exact ok_len hu (.inr ⟨rfl, el, rfl⟩) hcal h1 h2 hop hr
        · cases hc
      · cases hc
    · rename_i hcal
      split at hc
      · rename_i x y h1; cases hc; exact ok_minmax (mx := false) hcal h1 hop hr
      · cases hc
    · rename_i hcal
      split at hc
      · rename_i x y h1; cases hc; exact ok_minmax (mx := true) hcal h1 hop hr
      · cases hc
    · cases hc
  | _ => simp [compOp, hop] at hc

end
end Go.Ev

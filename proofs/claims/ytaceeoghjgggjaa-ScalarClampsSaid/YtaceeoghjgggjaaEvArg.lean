/-
  Arguments: an array of bytes.
-/
import Derived.Test.YtaceeoghjgggjaaEvLaw
import Derived.Test.YtaceeoghjgggjaaEvLoop
set_option linter.unusedSimpArgs false
set_option linter.unusedVariables false
namespace Go.Ev
open Go.RowKit Go.WideShapes Go.ChangeShapes

/-- An array of bytes is a row of numbers below 256. -/
theorem open_bytes {P : Program} {w : World} {r : Reach} {base : Nat} {t e : TypeId} {v : Value} {n : Nat} {e' : TypeId} (ht : P.underlying t = some (.array n e')) (hc : P.cellsOf t = n) (hts : P.cellTypes P.depth t = some (List.replicate n e)) (he : P.underlying e = some (.int .u8)) (hn : 0 < n)
    (h : Value.okWide P w r base t v) : ∃ l : List Nat, v = .agg (u8s l).toArray ∧ l.length = n ∧ ∀ x ∈ l, x < 256 := by
  simp only [Value.okWide, ht] at h
  obtain ⟨cs, rfl, h1, ts, h2, -, h3⟩ := h
  rw [hc] at h1
  rw [hts] at h2
  cases h2
  have hcell : ∀ (i : Nat) (v : Value), cs[i]? = some v → ∃ x : Nat, v = Value.int .u8 (x : Nat) ∧ x < 256 := by
    intro i v hv
    obtain ⟨u, g1, g2⟩ := h3 i v hv
    have hu : u = e := by
      have := List.mem_of_getElem? g1
      exact List.eq_of_mem_replicate this
    subst hu
    simp only [Cell.okWide, Cell.ok, he] at g2
    cases v <;> try (exact g2.elim)
    · rename_i k x
      obtain ⟨rfl, g3, g4⟩ := g2
      have g3' : (0 : Int) ≤ x := g3
      have g4' : x ≤ 255 := g4
      exact ⟨x.toNat, by rw [Int.toNat_of_nonneg g3'], by omega⟩
  refine ⟨cs.toList.map fun v => match v with | .int _ n => n.toNat | _ => 0, ?_, by simp [h1], ?_⟩
  · congr 1
    apply Array.ext_getElem?
    intro i
    simp only [u8s, List.map_map, List.getElem?_toArray, List.getElem?_map, Array.getElem?_toList]
    cases hv : cs[i]? with
    | none => rfl
    | some v =>
      obtain ⟨x, rfl, hx⟩ := hcell i v hv
      simp
  · intro x hx
    simp only [List.mem_map] at hx
    obtain ⟨v, hv, rfl⟩ := hx
    obtain ⟨i, hi⟩ := List.mem_iff_getElem?.1 hv
    rw [Array.getElem?_toList] at hi
    obtain ⟨x, rfl, hx⟩ := hcell i v hi
    simpa using hx
end Go.Ev

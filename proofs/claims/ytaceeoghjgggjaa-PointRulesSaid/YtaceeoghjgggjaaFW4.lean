/-
  field: Bytes: the least of the numbers that are alike.
-/
import Derived.Test.YtaceeoghjgggjaaFW3
set_option linter.unusedSimpArgs false
set_option linter.unusedVariables false
namespace Go.Ev.Ytaceeoghjgggjaa
open Go Go.Ev
attribute [local congr] bind_congr2 ite_congr2 qElse_congr gate_congr guardV_congr
set_option maxRecDepth 100000

theorem dm (a b : Nat) : ∃ r, a = b * (a / b) + r ∧ a % b = r ∧ (0 < b → r < b) := ⟨a % b, (Nat.div_add_mod a b).symm, rfl, fun h => Nat.mod_lt _ h⟩
/-- Carried twice, the first part is hardly above 51 bits, the others have 51. -/
theorem car_twice {x0 x1 x2 x3 x4 : Nat} (h0 : x0 < 9223372036854775808) (h1 : x1 < 9223372036854775808) (h2 : x2 < 9223372036854775808) (h3 : x3 < 9223372036854775808) (h4 : x4 < 9223372036854775808) :
    ∃ y0 y1 y2 y3 y4 z0 z1 z2 z3 z4, carL x0 x1 x2 x3 x4 = [y0, y1, y2, y3, y4] ∧ y0 < 9223372036854775808 ∧ y1 < 9223372036854775808 ∧ y2 < 9223372036854775808 ∧ y3 < 9223372036854775808 ∧ y4 < 9223372036854775808 ∧
      carL y0 y1 y2 y3 y4 = [z0, z1, z2, z3, z4] ∧ z0 < 2251799813685248 + 19 ∧ z1 < 2251799813685248 ∧ z2 < 2251799813685248 ∧ z3 < 2251799813685248 ∧ z4 < 2251799813685248 ∧ (∃ k, v51 [z0, z1, z2, z3, z4] + k * Go.Fp.P = v51 [x0, x1, x2, x3, x4]) := by
  have key : ∀ y0 y1 y2 y3 y4 : Nat, y0 < 2251799813685248 + 19 * 8192 → y1 < 2251799813685248 → y2 < 2251799813685248 → y3 < 2251799813685248 → y4 < 2251799813685248 → carL x0 x1 x2 x3 x4 = [y0, y1, y2, y3, y4] →
      ∃ z0 z1 z2 z3 z4, carL y0 y1 y2 y3 y4 = [z0, z1, z2, z3, z4] ∧ z0 < 2251799813685248 + 19 ∧ z1 < 2251799813685248 ∧ z2 < 2251799813685248 ∧ z3 < 2251799813685248 ∧ z4 < 2251799813685248 ∧ (∃ k, v51 [z0, z1, z2, z3, z4] + k * Go.Fp.P = v51 [x0, x1, x2, x3, x4]) := by
    intro y0 y1 y2 y3 y4 b0 b1 b2 b3 b4 hy
    refine ⟨_, _, _, _, _, rfl, ?_, Nat.mod_lt _ (by decide), Nat.mod_lt _ (by decide), Nat.mod_lt _ (by decide), Nat.mod_lt _ (by decide), ?_⟩
    · have c0 : y0 / 2251799813685248 ≤ 1 := by omega
      have c1 : (y1 + y0 / 2251799813685248) / 2251799813685248 ≤ 1 := by omega
      have c2 : (y2 + (y1 + y0 / 2251799813685248) / 2251799813685248) / 2251799813685248 ≤ 1 := by omega
      have c3 : (y3 + (y2 + (y1 + y0 / 2251799813685248) / 2251799813685248) / 2251799813685248) / 2251799813685248 ≤ 1 := by omega
      generalize (y3 + (y2 + (y1 + y0 / 2251799813685248) / 2251799813685248) / 2251799813685248) / 2251799813685248 = c at *
      rcases Nat.lt_or_ge y0 2251799813685248 with h | h
      · -- nothing carries: each part is below
        have d0 : y0 / 2251799813685248 = 0 := by omega
        have c4 : (y4 + c) / 2251799813685248 ≤ 1 := by omega
        have := Nat.mod_lt y0 (by decide : 0 < 2251799813685248)
        omega
      · have c4 : (y4 + c) / 2251799813685248 ≤ 1 := by omega
        have := Nat.mod_lt y0 (by decide : 0 < 2251799813685248)
        omega
    · obtain ⟨k1, e1⟩ := carL_val (x0 := y0) (x1 := y1) (x2 := y2) (x3 := y3) (x4 := y4)
      obtain ⟨k2, e2⟩ := carL_val (x0 := x0) (x1 := x1) (x2 := x2) (x3 := x3) (x4 := x4)
      rw [hy] at e2
      refine ⟨k1 + k2, ?_⟩
      rw [Nat.add_mul, ← Nat.add_assoc, ← e2, ← e1]
      rfl
  have c0 : x0 / 2251799813685248 < 8192 := by omega
  have c1 : (x1 + x0 / 2251799813685248) / 2251799813685248 < 8192 := by omega
  have c2 : (x2 + (x1 + x0 / 2251799813685248) / 2251799813685248) / 2251799813685248 < 8192 := by omega
  have c3 : (x3 + (x2 + (x1 + x0 / 2251799813685248) / 2251799813685248) / 2251799813685248) / 2251799813685248 < 8192 := by omega
  have c4 : (x4 + (x3 + (x2 + (x1 + x0 / 2251799813685248) / 2251799813685248) / 2251799813685248) / 2251799813685248) / 2251799813685248 < 8192 := by omega
  have m0 := Nat.mod_lt x0 (by decide : 0 < 2251799813685248)
  have m1 := Nat.mod_lt (x1 + x0 / 2251799813685248) (by decide : 0 < 2251799813685248)
  have m2 := Nat.mod_lt (x2 + (x1 + x0 / 2251799813685248) / 2251799813685248) (by decide : 0 < 2251799813685248)
  have m3 := Nat.mod_lt (x3 + (x2 + (x1 + x0 / 2251799813685248) / 2251799813685248) / 2251799813685248) (by decide : 0 < 2251799813685248)
  have m4 := Nat.mod_lt (x4 + (x3 + (x2 + (x1 + x0 / 2251799813685248) / 2251799813685248) / 2251799813685248) / 2251799813685248) (by decide : 0 < 2251799813685248)
  obtain ⟨z0, z1, z2, z3, z4, g1, g2⟩ := key _ _ _ _ _ (by
    generalize (x4 + (x3 + (x2 + (x1 + x0 / 2251799813685248) / 2251799813685248) / 2251799813685248) / 2251799813685248) / 2251799813685248 = c at *
    generalize x0 % 2251799813685248 = r at *
    show r + 19 * c < _
    omega) m1 m2 m3 m4 rfl
  refine ⟨_, _, _, _, _, z0, z1, z2, z3, z4, rfl, ?_, Nat.lt_trans m1 (by decide), Nat.lt_trans m2 (by decide), Nat.lt_trans m3 (by decide), Nat.lt_trans m4 (by decide), g1, g2⟩
  generalize (x4 + (x3 + (x2 + (x1 + x0 / 2251799813685248) / 2251799813685248) / 2251799813685248) / 2251799813685248) / 2251799813685248 = c at *
  generalize x0 % 2251799813685248 = r at *
  show r + 19 * c < _
  omega

/-- What carries out of the highest part, if 19 more are put to it. -/
def topC (z0 z1 z2 z3 z4 : Nat) : Nat := (z4 + (z3 + (z2 + (z1 + (z0 + 19) / 2251799813685248) / 2251799813685248) / 2251799813685248) / 2251799813685248) / 2251799813685248
def finL (z0 z1 z2 z3 z4 : Nat) : List Nat :=
  let u0 := z0 / 2251799813685248
  let u1 := (z1 + u0) / 2251799813685248
  let u2 := (z2 + u1) / 2251799813685248
  let u3 := (z3 + u2) / 2251799813685248
  [z0 % 2251799813685248, (z1 + u0) % 2251799813685248, (z2 + u1) % 2251799813685248, (z3 + u2) % 2251799813685248, (z4 + u3) % 2251799813685248]
theorem fin_val {z0 z1 z2 z3 z4 : Nat} (h0 : z0 < 2251799813685248 + 19) (h1 : z1 < 2251799813685248) (h2 : z2 < 2251799813685248) (h3 : z3 < 2251799813685248) (h4 : z4 < 2251799813685248) :
    topC z0 z1 z2 z3 z4 ≤ 1 ∧ finL (z0 + 19 * topC z0 z1 z2 z3 z4) z1 z2 z3 z4 = dig (2 ^ 51) 5 (v51 [z0, z1, z2, z3, z4] % Go.Fp.P) := by
  have hc : topC z0 z1 z2 z3 z4 ≤ 1 ∧ ((topC z0 z1 z2 z3 z4 = 0 ∧ v51 [z0, z1, z2, z3, z4] < Go.Fp.P) ∨ (topC z0 z1 z2 z3 z4 = 1 ∧ Go.Fp.P ≤ v51 [z0, z1, z2, z3, z4])) := by
    simp only [topC, v51, num, Go.Fp.P_eq]
    obtain ⟨r0, e0, -, l0⟩ := dm (z0 + 19) 2251799813685248
    generalize (z0 + 19) / 2251799813685248 = t0 at *
    obtain ⟨r1, e1, -, l1⟩ := dm (z1 + t0) 2251799813685248
    generalize (z1 + t0) / 2251799813685248 = t1 at *
    obtain ⟨r2, e2, -, l2⟩ := dm (z2 + t1) 2251799813685248
    generalize (z2 + t1) / 2251799813685248 = t2 at *
    obtain ⟨r3, e3, -, l3⟩ := dm (z3 + t2) 2251799813685248
    generalize (z3 + t2) / 2251799813685248 = t3 at *
    obtain ⟨r4, e4, -, l4⟩ := dm (z4 + t3) 2251799813685248
    generalize (z4 + t3) / 2251799813685248 = t4 at *
    have l0 := l0 (by decide)
    have l1 := l1 (by decide)
    have l2 := l2 (by decide)
    have l3 := l3 (by decide)
    have l4 := l4 (by decide)
    omega
  have hP := Go.Fp.P_eq
  obtain ⟨hc1, hc2⟩ := hc
  refine ⟨hc1, ?_⟩
  generalize topC z0 z1 z2 z3 z4 = c at *
  have hlt : ∀ x ∈ finL (z0 + 19 * c) z1 z2 z3 z4, x < 2251799813685248 := by
    intro x hx
    simp only [finL, List.mem_cons, List.not_mem_nil, or_false] at hx
    rcases hx with h | h | h | h | h <;> (rw [h]; exact Nat.mod_lt _ (by decide))
  have hnum : num 2251799813685248 (finL (z0 + 19 * c) z1 z2 z3 z4) = v51 [z0, z1, z2, z3, z4] % Go.Fp.P := by
    have hV : v51 [z0, z1, z2, z3, z4] % Go.Fp.P = v51 [z0, z1, z2, z3, z4] - c * Go.Fp.P := by
      rcases hc2 with ⟨g1, g2⟩ | ⟨g1, g2⟩
      · rw [Nat.mod_eq_of_lt g2, g1]; omega
      · have g3 : v51 [z0, z1, z2, z3, z4] < Go.Fp.P + Go.Fp.P := by
          simp only [v51, num, Go.Fp.P_eq] at *
          omega
        rw [g1, Nat.one_mul, Nat.mod_eq_sub_mod g2, Nat.mod_eq_of_lt (by omega)]
    rw [hV]
    simp only [finL, v51, num, Go.Fp.P_eq] at hc2 ⊢
    obtain ⟨r0, e0, f0, l0⟩ := dm (z0 + 19 * c) 2251799813685248
    rw [f0]
    generalize (z0 + 19 * c) / 2251799813685248 = t0 at *
    obtain ⟨r1, e1, f1, l1⟩ := dm (z1 + t0) 2251799813685248
    rw [f1]
    generalize (z1 + t0) / 2251799813685248 = t1 at *
    obtain ⟨r2, e2, f2, l2⟩ := dm (z2 + t1) 2251799813685248
    rw [f2]
    generalize (z2 + t1) / 2251799813685248 = t2 at *
    obtain ⟨r3, e3, f3, l3⟩ := dm (z3 + t2) 2251799813685248
    rw [f3]
    generalize (z3 + t2) / 2251799813685248 = t3 at *
    obtain ⟨r4, e4, f4, l4⟩ := dm (z4 + t3) 2251799813685248
    rw [f4]
    generalize (z4 + t3) / 2251799813685248 = t4 at *
    have l0 := l0 (by decide)
    have l1 := l1 (by decide)
    have l2 := l2 (by decide)
    have l3 := l3 (by decide)
    have l4 := l4 (by decide)
    rcases hc2 with ⟨g1, g2⟩ | ⟨g1, g2⟩ <;> subst g1 <;> omega
  have h5 := dig_num (B := 2251799813685248) (by decide) hlt
  rw [hnum] at h5
  exact h5.symm
end Go.Ev.Ytaceeoghjgggjaa

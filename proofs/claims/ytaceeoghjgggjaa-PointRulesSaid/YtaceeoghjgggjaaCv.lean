/-
  The points of the curve -x^2 + y^2 = 1 + d x^2 y^2 are a group: over the numbers modulo n, where each number but nought has an inverse, d is no square and -1 is one. No program.
-/
import Derived.Test.YtaceeoghjgggjaaNT
set_option linter.unusedSimpArgs false
set_option linter.unusedVariables false
namespace Go.Cv
section
variable {n : Nat} [NeZero n]

/-- What is asked of the numbers and of the curve's factor. -/
structure Fld (n : Nat) [NeZero n] (iv : Fin n → Fin n) (d i : Fin n) : Prop where
  inv : ∀ a : Fin n, a ≠ 0 → a * iv a = 1
  iv0 : iv 0 = 0
  one : (1 : Fin n) ≠ 0
  two : (2 : Fin n) ≠ 0
  root : i * i = -1
  nosq : ∀ r : Fin n, r * r ≠ d

variable {iv : Fin n → Fin n} {d i : Fin n} (F : Fld n iv d i)
include F
theorem Fld.dom {a b : Fin n} (h : a * b = 0) : a = 0 ∨ b = 0 := by
  by_cases ha : a = 0
  · exact .inl ha
  · have := F.inv a ha
    exact .inr (by grobner)
theorem Fld.mul_ne {a b : Fin n} (ha : a ≠ 0) (hb : b ≠ 0) : a * b ≠ 0 := fun h => by
  rcases F.dom h with h | h
  · exact ha h
  · exact hb h
theorem Fld.cancel {a b c : Fin n} (ha : a ≠ 0) (h : a * b = a * c) : b = c := by
  have := F.inv a ha
  grobner
theorem Fld.noratio {u v : Fin n} (hv : v ≠ 0) : u * u ≠ d * (v * v) := fun h => by
  have := F.inv v hv
  apply F.nosq (u * iv v)
  grobner
omit F

def On (d x y : Fin n) : Prop := -(x * x) + y * y = 1 + d * (x * x) * (y * y)
theorem On.sub {d x y : Fin n} (h : On d x y) : -(x * x) + y * y - 1 - d * (x * x) * (y * y) = 0 := by
  unfold On at h; grobner
theorem two_rows {L R a b c e : Fin n} (h : L - R = a * c + b * e) (hc : c = 0) (he : e = 0) : L = R := by
  subst hc he; grobner
theorem three_rows {L R a b c e f g : Fin n} (h : L - R = a * c + b * e + f * g) (hc : c = 0) (he : e = 0) (hg : g = 0) : L = R := by
  subst hc he hg; grobner

theorem closedId (d x1 y1 x2 y2 : Fin n) : -((x1 * y2 + x2 * y1) * (x1 * y2 + x2 * y1) * ((1 - d * x1 * x2 * y1 * y2) * (1 - d * x1 * x2 * y1 * y2))) + (y1 * y2 + x1 * x2) * (y1 * y2 + x1 * x2) * ((1 + d * x1 * x2 * y1 * y2) * (1 + d * x1 * x2 * y1 * y2)) -
      (((1 + d * x1 * x2 * y1 * y2) * (1 - d * x1 * x2 * y1 * y2)) * ((1 + d * x1 * x2 * y1 * y2) * (1 - d * x1 * x2 * y1 * y2)) + d * ((x1 * y2 + x2 * y1) * (x1 * y2 + x2 * y1)) * ((y1 * y2 + x1 * x2) * (y1 * y2 + x1 * x2))) =
      (d * d * d * x1 * x1 * x2 * x2 * x2 * x2 * y1 * y1 * y2 * y2 * y2 * y2 - d * d * x1 * x1 * x2 * x2 * x2 * x2 * y2 * y2 * y2 * y2 + d * d * x2 * x2 * x2 * x2 * y1 * y1 * y2 * y2 * y2 * y2 - d * d * x2 * x2 * x2 * x2 * y2 * y2 * y2 * y2 - d * x1 * x1 * x2 * x2 * x2 * x2 * y2 * y2 + d * x1 * x1 * x2 * x2 * y2 * y2 * y2 * y2 + d * x2 * x2 * x2 * x2 * y1 * y1 * y2 * y2 - 2 * d * x2 * x2 * x2 * x2 * y2 * y2 * y2 * y2 - d * x2 * x2 * y1 * y1 * y2 * y2 * y2 * y2 - 2 * d * x2 * x2 * y2 * y2 - 2 * x2 * x2 * x2 * x2 * y2 * y2 + x2 * x2 * x2 * x2 + 2 * x2 * x2 * y2 * y2 * y2 * y2 - 4 * x2 * x2 * y2 * y2 + y2 * y2 * y2 * y2) * (-(x1 * x1) + y1 * y1 - 1 - d * (x1 * x1) * (y1 * y1)) + (d * x1 * x1 * x1 * x1 * x2 * x2 * y2 * y2 + 2 * d * x1 * x1 * x2 * x2 * y2 * y2 + d * x2 * x2 * y1 * y1 * y1 * y1 * y2 * y2 - 2 * d * x2 * x2 * y1 * y1 * y2 * y2 + d * x2 * x2 * y2 * y2 + 2 * x1 * x1 * x2 * x2 * y2 * y2 - x1 * x1 * x2 * x2 + x1 * x1 * y2 * y2 - 2 * x2 * x2 * y1 * y1 * y2 * y2 + x2 * x2 * y1 * y1 + 2 * x2 * x2 * y2 * y2 - x2 * x2 - y1 * y1 * y2 * y2 + y2 * y2 + 1) * (-(x2 * x2) + y2 * y2 - 1 - d * (x2 * x2) * (y2 * y2)) := by grobner
theorem assocX (d x1 y1 x2 y2 x3 y3 : Fin n) : ((x1 * y2 + x2 * y1) * (1 - d * x1 * x2 * y1 * y2) * y3 + x3 * (y1 * y2 + x1 * x2) * (1 + d * x1 * x2 * y1 * y2)) * ((1 + d * x2 * x3 * y2 * y3) * (1 - d * x2 * x3 * y2 * y3) + d * (x2 * y3 + x3 * y2) * (y2 * y3 + x2 * x3) * x1 * y1) -
      (x1 * (y2 * y3 + x2 * x3) * (1 + d * x2 * x3 * y2 * y3) + (x2 * y3 + x3 * y2) * (1 - d * x2 * x3 * y2 * y3) * y1) * ((1 + d * x1 * x2 * y1 * y2) * (1 - d * x1 * x2 * y1 * y2) + d * (x1 * y2 + x2 * y1) * (y1 * y2 + x1 * x2) * x3 * y3) =
      (-d * d * x1 * x2 * x2 * x2 * x2 * x3 * x3 * y2 * y2 * y2 * y3 - d * d * x1 * x2 * x2 * x2 * x3 * y2 * y2 * y2 * y2 * y3 * y3 + d * d * x2 * x2 * x2 * x2 * x3 * y1 * y2 * y2 * y2 * y3 * y3 + d * d * x2 * x2 * x2 * x3 * x3 * y1 * y2 * y2 * y2 * y2 * y3 - d * x1 * x2 * x2 * x2 * x2 * x3 * x3 * y2 * y3 - d * x1 * x2 * x2 * x2 * x3 * x3 * x3 * y2 * y2 - d * x1 * x2 * x2 * x2 * x3 * y2 * y2 + d * x1 * x2 * x2 * y2 * y2 * y2 * y3 * y3 * y3 - d * x1 * x2 * x2 * y2 * y2 * y2 * y3 + d * x1 * x2 * x3 * y2 * y2 * y2 * y2 * y3 * y3 + d * x2 * x2 * x2 * x2 * x3 * y1 * y2 * y3 * y3 + d * x2 * x2 * x2 * y1 * y2 * y2 * y3 * y3 * y3 - d * x2 * x2 * x2 * y1 * y2 * y2 * y3 - d * x2 * x2 * x3 * x3 * x3 * y1 * y2 * y2 * y2 - d * x2 * x2 * x3 * y1 * y2 * y2 * y2 - d * x2 * x3 * x3 * y1 * y2 * y2 * y2 * y2 * y3) * (-(x1 * x1) + y1 * y1 - 1 - d * (x1 * x1) * (y1 * y1)) + (d * d * x1 * x1 * x2 * x2 * x3 * x3 * x3 * y1 * y2 * y3 * y3 - d * d * x1 * x1 * x2 * x3 * x3 * y1 * y2 * y2 * y3 * y3 * y3 - d * d * x1 * x2 * x2 * x3 * x3 * y1 * y1 * y2 * y3 * y3 * y3 + d * d * x1 * x2 * x3 * x3 * x3 * y1 * y1 * y2 * y2 * y3 * y3 + d * x1 * x1 * x1 * x2 * x2 * x3 * x3 * y2 * y3 + d * x1 * x1 * x1 * x2 * x3 * x3 * x3 * y3 * y3 + d * x1 * x1 * x1 * x2 * x3 * y2 * y2 * y3 * y3 + d * x1 * x1 * x1 * x3 * x3 * y2 * y3 * y3 * y3 - d * x1 * x1 * x2 * x2 * x3 * y1 * y2 * y3 * y3 - d * x1 * x1 * x2 * x3 * x3 * y1 * y2 * y2 * y3 + d * x1 * x1 * x2 * x3 * x3 * y1 * y3 * y3 * y3 + d * x1 * x1 * x3 * x3 * x3 * y1 * y2 * y3 * y3 - d * x1 * x2 * x2 * x3 * x3 * y1 * y1 * y2 * y3 + d * x1 * x2 * x2 * x3 * x3 * y2 * y3 - d * x1 * x2 * x3 * x3 * x3 * y1 * y1 * y3 * y3 + d * x1 * x2 * x3 * x3 * x3 * y3 * y3 - d * x1 * x2 * x3 * y1 * y1 * y2 * y2 * y3 * y3 + d * x1 * x2 * x3 * y2 * y2 * y3 * y3 - d * x1 * x3 * x3 * y1 * y1 * y2 * y3 * y3 * y3 + d * x1 * x3 * x3 * y2 * y3 * y3 * y3 + d * x2 * x2 * x3 * y1 * y1 * y1 * y2 * y3 * y3 - d * x2 * x2 * x3 * y1 * y2 * y3 * y3 + d * x2 * x3 * x3 * y1 * y1 * y1 * y2 * y2 * y3 - d * x2 * x3 * x3 * y1 * y1 * y1 * y3 * y3 * y3 - d * x2 * x3 * x3 * y1 * y2 * y2 * y3 + d * x2 * x3 * x3 * y1 * y3 * y3 * y3 - d * x3 * x3 * x3 * y1 * y1 * y1 * y2 * y3 * y3 + d * x3 * x3 * x3 * y1 * y2 * y3 * y3 + x1 * x1 * x1 * x2 * x3 * x3 * x3 - x1 * x1 * x1 * x2 * x3 * y3 * y3 + x1 * x1 * x1 * x2 * x3 + x1 * x1 * x1 * x3 * x3 * y2 * y3 - x1 * x1 * x1 * y2 * y3 * y3 * y3 + x1 * x1 * x1 * y2 * y3 + x1 * x1 * x2 * x3 * x3 * y1 * y3 - x1 * x1 * x2 * y1 * y3 * y3 * y3 + x1 * x1 * x2 * y1 * y3 + x1 * x1 * x3 * x3 * x3 * y1 * y2 - x1 * x1 * x3 * y1 * y2 * y3 * y3 + x1 * x1 * x3 * y1 * y2 - x1 * x2 * x3 * x3 * x3 * y1 * y1 + x1 * x2 * x3 * x3 * x3 + x1 * x2 * x3 * y1 * y1 * y3 * y3 - x1 * x2 * x3 * y1 * y1 - x1 * x2 * x3 * y3 * y3 + x1 * x2 * x3 - x1 * x3 * x3 * y1 * y1 * y2 * y3 + x1 * x3 * x3 * y2 * y3 + x1 * y1 * y1 * y2 * y3 * y3 * y3 - x1 * y1 * y1 * y2 * y3 - x1 * y2 * y3 * y3 * y3 + x1 * y2 * y3 - x2 * x3 * x3 * y1 * y1 * y1 * y3 + x2 * x3 * x3 * y1 * y3 + x2 * y1 * y1 * y1 * y3 * y3 * y3 - x2 * y1 * y1 * y1 * y3 - x2 * y1 * y3 * y3 * y3 + x2 * y1 * y3 - x3 * x3 * x3 * y1 * y1 * y1 * y2 + x3 * x3 * x3 * y1 * y2 + x3 * y1 * y1 * y1 * y2 * y3 * y3 - x3 * y1 * y1 * y1 * y2 - x3 * y1 * y2 * y3 * y3 + x3 * y1 * y2) * (-(x2 * x2) + y2 * y2 - 1 - d * (x2 * x2) * (y2 * y2)) + (-d * x1 * x1 * x2 * x2 * x3 * y1 * y2 + d * x1 * x1 * x2 * y1 * y2 * y2 * y3 + d * x1 * x2 * x2 * y1 * y1 * y2 * y3 - d * x1 * x2 * x3 * y1 * y1 * y2 * y2 - x1 * x1 * x1 * x2 * x2 * x2 * x3 - x1 * x1 * x1 * x2 * x2 * y2 * y3 + x1 * x1 * x1 * x2 * x3 * y2 * y2 - x1 * x1 * x1 * x2 * x3 + x1 * x1 * x1 * y2 * y2 * y2 * y3 - x1 * x1 * x1 * y2 * y3 - x1 * x1 * x2 * x2 * x2 * y1 * y3 - x1 * x1 * x2 * x2 * x3 * y1 * y2 + x1 * x1 * x2 * y1 * y2 * y2 * y3 - x1 * x1 * x2 * y1 * y3 + x1 * x1 * x3 * y1 * y2 * y2 * y2 - x1 * x1 * x3 * y1 * y2 + x1 * x2 * x2 * x2 * x3 * y1 * y1 - x1 * x2 * x2 * x2 * x3 + x1 * x2 * x2 * y1 * y1 * y2 * y3 - x1 * x2 * x2 * y2 * y3 - x1 * x2 * x3 * y1 * y1 * y2 * y2 + x1 * x2 * x3 * y1 * y1 + x1 * x2 * x3 * y2 * y2 - x1 * x2 * x3 - x1 * y1 * y1 * y2 * y2 * y2 * y3 + x1 * y1 * y1 * y2 * y3 + x1 * y2 * y2 * y2 * y3 - x1 * y2 * y3 + x2 * x2 * x2 * y1 * y1 * y1 * y3 - x2 * x2 * x2 * y1 * y3 + x2 * x2 * x3 * y1 * y1 * y1 * y2 - x2 * x2 * x3 * y1 * y2 - x2 * y1 * y1 * y1 * y2 * y2 * y3 + x2 * y1 * y1 * y1 * y3 + x2 * y1 * y2 * y2 * y3 - x2 * y1 * y3 - x3 * y1 * y1 * y1 * y2 * y2 * y2 + x3 * y1 * y1 * y1 * y2 + x3 * y1 * y2 * y2 * y2 - x3 * y1 * y2) * (-(x3 * x3) + y3 * y3 - 1 - d * (x3 * x3) * (y3 * y3)) := by grobner
theorem assocY (d x1 y1 x2 y2 x3 y3 : Fin n) : ((y1 * y2 + x1 * x2) * (1 + d * x1 * x2 * y1 * y2) * y3 + (x1 * y2 + x2 * y1) * (1 - d * x1 * x2 * y1 * y2) * x3) * ((1 + d * x2 * x3 * y2 * y3) * (1 - d * x2 * x3 * y2 * y3) - d * (x2 * y3 + x3 * y2) * (y2 * y3 + x2 * x3) * x1 * y1) -
      (y1 * (y2 * y3 + x2 * x3) * (1 + d * x2 * x3 * y2 * y3) + x1 * (x2 * y3 + x3 * y2) * (1 - d * x2 * x3 * y2 * y3)) * ((1 + d * x1 * x2 * y1 * y2) * (1 - d * x1 * x2 * y1 * y2) - d * (x1 * y2 + x2 * y1) * (y1 * y2 + x1 * x2) * x3 * y3) =
      (d * d * x1 * x2 * x2 * x2 * x2 * x3 * y2 * y2 * y2 * y3 * y3 + d * d * x1 * x2 * x2 * x2 * x3 * x3 * y2 * y2 * y2 * y2 * y3 - d * d * x2 * x2 * x2 * x2 * x3 * x3 * y1 * y2 * y2 * y2 * y3 - d * d * x2 * x2 * x2 * x3 * y1 * y2 * y2 * y2 * y2 * y3 * y3 + d * x1 * x2 * x2 * x2 * x2 * x3 * y2 * y3 * y3 + d * x1 * x2 * x2 * x2 * y2 * y2 * y3 * y3 * y3 - d * x1 * x2 * x2 * x2 * y2 * y2 * y3 - d * x1 * x2 * x2 * x3 * x3 * x3 * y2 * y2 * y2 - d * x1 * x2 * x2 * x3 * y2 * y2 * y2 - d * x1 * x2 * x3 * x3 * y2 * y2 * y2 * y2 * y3 - d * x2 * x2 * x2 * x2 * x3 * x3 * y1 * y2 * y3 - d * x2 * x2 * x2 * x3 * x3 * x3 * y1 * y2 * y2 - d * x2 * x2 * x2 * x3 * y1 * y2 * y2 + d * x2 * x2 * y1 * y2 * y2 * y2 * y3 * y3 * y3 - d * x2 * x2 * y1 * y2 * y2 * y2 * y3 + d * x2 * x3 * y1 * y2 * y2 * y2 * y2 * y3 * y3) * (-(x1 * x1) + y1 * y1 - 1 - d * (x1 * x1) * (y1 * y1)) + (d * d * x1 * x1 * x2 * x2 * x3 * x3 * y1 * y2 * y3 * y3 * y3 - d * d * x1 * x1 * x2 * x3 * x3 * x3 * y1 * y2 * y2 * y3 * y3 - d * d * x1 * x2 * x2 * x3 * x3 * x3 * y1 * y1 * y2 * y3 * y3 + d * d * x1 * x2 * x3 * x3 * y1 * y1 * y2 * y2 * y3 * y3 * y3 - d * x1 * x1 * x1 * x2 * x2 * x3 * y2 * y3 * y3 - d * x1 * x1 * x1 * x2 * x3 * x3 * y2 * y2 * y3 + d * x1 * x1 * x1 * x2 * x3 * x3 * y3 * y3 * y3 + d * x1 * x1 * x1 * x3 * x3 * x3 * y2 * y3 * y3 + d * x1 * x1 * x2 * x2 * x3 * x3 * y1 * y2 * y3 + d * x1 * x1 * x2 * x3 * x3 * x3 * y1 * y3 * y3 + d * x1 * x1 * x2 * x3 * y1 * y2 * y2 * y3 * y3 + d * x1 * x1 * x3 * x3 * y1 * y2 * y3 * y3 * y3 + d * x1 * x2 * x2 * x3 * y1 * y1 * y2 * y3 * y3 - d * x1 * x2 * x2 * x3 * y2 * y3 * y3 + d * x1 * x2 * x3 * x3 * y1 * y1 * y2 * y2 * y3 - d * x1 * x2 * x3 * x3 * y1 * y1 * y3 * y3 * y3 - d * x1 * x2 * x3 * x3 * y2 * y2 * y3 + d * x1 * x2 * x3 * x3 * y3 * y3 * y3 - d * x1 * x3 * x3 * x3 * y1 * y1 * y2 * y3 * y3 + d * x1 * x3 * x3 * x3 * y2 * y3 * y3 - d * x2 * x2 * x3 * x3 * y1 * y1 * y1 * y2 * y3 + d * x2 * x2 * x3 * x3 * y1 * y2 * y3 - d * x2 * x3 * x3 * x3 * y1 * y1 * y1 * y3 * y3 + d * x2 * x3 * x3 * x3 * y1 * y3 * y3 - d * x2 * x3 * y1 * y1 * y1 * y2 * y2 * y3 * y3 + d * x2 * x3 * y1 * y2 * y2 * y3 * y3 - d * x3 * x3 * y1 * y1 * y1 * y2 * y3 * y3 * y3 + d * x3 * x3 * y1 * y2 * y3 * y3 * y3 + x1 * x1 * x1 * x2 * x3 * x3 * y3 - x1 * x1 * x1 * x2 * y3 * y3 * y3 + x1 * x1 * x1 * x2 * y3 + x1 * x1 * x1 * x3 * x3 * x3 * y2 - x1 * x1 * x1 * x3 * y2 * y3 * y3 + x1 * x1 * x1 * x3 * y2 + x1 * x1 * x2 * x3 * x3 * x3 * y1 - x1 * x1 * x2 * x3 * y1 * y3 * y3 + x1 * x1 * x2 * x3 * y1 + x1 * x1 * x3 * x3 * y1 * y2 * y3 - x1 * x1 * y1 * y2 * y3 * y3 * y3 + x1 * x1 * y1 * y2 * y3 - x1 * x2 * x3 * x3 * y1 * y1 * y3 + x1 * x2 * x3 * x3 * y3 + x1 * x2 * y1 * y1 * y3 * y3 * y3 - x1 * x2 * y1 * y1 * y3 - x1 * x2 * y3 * y3 * y3 + x1 * x2 * y3 - x1 * x3 * x3 * x3 * y1 * y1 * y2 + x1 * x3 * x3 * x3 * y2 + x1 * x3 * y1 * y1 * y2 * y3 * y3 - x1 * x3 * y1 * y1 * y2 - x1 * x3 * y2 * y3 * y3 + x1 * x3 * y2 - x2 * x3 * x3 * x3 * y1 * y1 * y1 + x2 * x3 * x3 * x3 * y1 + x2 * x3 * y1 * y1 * y1 * y3 * y3 - x2 * x3 * y1 * y1 * y1 - x2 * x3 * y1 * y3 * y3 + x2 * x3 * y1 - x3 * x3 * y1 * y1 * y1 * y2 * y3 + x3 * x3 * y1 * y2 * y3 + y1 * y1 * y1 * y2 * y3 * y3 * y3 - y1 * y1 * y1 * y2 * y3 - y1 * y2 * y3 * y3 * y3 + y1 * y2 * y3) * (-(x2 * x2) + y2 * y2 - 1 - d * (x2 * x2) * (y2 * y2)) + (-d * x1 * x1 * x2 * x2 * y1 * y2 * y3 + d * x1 * x1 * x2 * x3 * y1 * y2 * y2 + d * x1 * x2 * x2 * x3 * y1 * y1 * y2 - d * x1 * x2 * y1 * y1 * y2 * y2 * y3 - x1 * x1 * x1 * x2 * x2 * x2 * y3 - x1 * x1 * x1 * x2 * x2 * x3 * y2 + x1 * x1 * x1 * x2 * y2 * y2 * y3 - x1 * x1 * x1 * x2 * y3 + x1 * x1 * x1 * x3 * y2 * y2 * y2 - x1 * x1 * x1 * x3 * y2 - x1 * x1 * x2 * x2 * x2 * x3 * y1 - x1 * x1 * x2 * x2 * y1 * y2 * y3 + x1 * x1 * x2 * x3 * y1 * y2 * y2 - x1 * x1 * x2 * x3 * y1 + x1 * x1 * y1 * y2 * y2 * y2 * y3 - x1 * x1 * y1 * y2 * y3 + x1 * x2 * x2 * x2 * y1 * y1 * y3 - x1 * x2 * x2 * x2 * y3 + x1 * x2 * x2 * x3 * y1 * y1 * y2 - x1 * x2 * x2 * x3 * y2 - x1 * x2 * y1 * y1 * y2 * y2 * y3 + x1 * x2 * y1 * y1 * y3 + x1 * x2 * y2 * y2 * y3 - x1 * x2 * y3 - x1 * x3 * y1 * y1 * y2 * y2 * y2 + x1 * x3 * y1 * y1 * y2 + x1 * x3 * y2 * y2 * y2 - x1 * x3 * y2 + x2 * x2 * x2 * x3 * y1 * y1 * y1 - x2 * x2 * x2 * x3 * y1 + x2 * x2 * y1 * y1 * y1 * y2 * y3 - x2 * x2 * y1 * y2 * y3 - x2 * x3 * y1 * y1 * y1 * y2 * y2 + x2 * x3 * y1 * y1 * y1 + x2 * x3 * y1 * y2 * y2 - x2 * x3 * y1 - y1 * y1 * y1 * y2 * y2 * y2 * y3 + y1 * y1 * y1 * y2 * y3 + y1 * y2 * y2 * y2 * y3 - y1 * y2 * y3) * (-(x3 * x3) + y3 * y3 - 1 - d * (x3 * x3) * (y3 * y3)) := by grobner
include F
/-- The denominators are never nought. -/
theorem Fld.den {x1 y1 x2 y2 : Fin n} (h1 : On d x1 y1) (h2 : On d x2 y2) (e : Fin n) (he : e * e = 1) : d * x1 * x2 * y1 * y2 ≠ e := fun hD => by
  unfold On at h1 h2
  have h10 := F.one
  have hr := F.root
  have hx1 : x1 ≠ 0 := fun h => by subst h; grobner
  have hy1 : y1 ≠ 0 := fun h => by subst h; grobner
  have hx2 : x2 ≠ 0 := fun h => by subst h; grobner
  have key : d * (x1 * x1) * (y1 * y1) * (y2 * y2 - x2 * x2) = y1 * y1 - x1 * x1 := by grobner
  have h3 : (y1 + e * i * x1) * (y1 + e * i * x1) = d * ((x1 * y1 * (y2 + i * x2)) * (x1 * y1 * (y2 + i * x2))) := by grobner
  have h4 : (y1 - e * i * x1) * (y1 - e * i * x1) = d * ((x1 * y1 * (y2 - i * x2)) * (x1 * y1 * (y2 - i * x2))) := by grobner
  by_cases ha : y2 + i * x2 = 0
  · by_cases hb : y2 - i * x2 = 0
    · have hi : i ≠ 0 := fun h => by subst h; grobner
      have : (2 : Fin n) * (i * x2) = 0 := by grobner
      exact F.mul_ne F.two (F.mul_ne hi hx2) this
    · exact F.noratio (F.mul_ne (F.mul_ne hx1 hy1) hb) h4
  · exact F.noratio (F.mul_ne (F.mul_ne hx1 hy1) ha) h3
theorem Fld.denP {x1 y1 x2 y2 : Fin n} (h1 : On d x1 y1) (h2 : On d x2 y2) : 1 + d * x1 * x2 * y1 * y2 ≠ 0 := fun h =>
  F.den h1 h2 (-1) (by grobner) (by grobner)
theorem Fld.denM {x1 y1 x2 y2 : Fin n} (h1 : On d x1 y1) (h2 : On d x2 y2) : 1 - d * x1 * x2 * y1 * y2 ≠ 0 := fun h =>
  F.den h1 h2 1 (by grobner) (by grobner)

theorem closed_poly {x1 y1 x2 y2 : Fin n} (h1 : On d x1 y1) (h2 : On d x2 y2) {a b : Fin n} (ha : a * (1 + d * x1 * x2 * y1 * y2) = x1 * y2 + x2 * y1) (hb : b * (1 - d * x1 * x2 * y1 * y2) = y1 * y2 + x1 * x2) : On d a b := by
  have hp := F.denP h1 h2
  have hm := F.denM h1 h2
  have hC : -((x1 * y2 + x2 * y1) * (x1 * y2 + x2 * y1) * ((1 - d * x1 * x2 * y1 * y2) * (1 - d * x1 * x2 * y1 * y2))) + (y1 * y2 + x1 * x2) * (y1 * y2 + x1 * x2) * ((1 + d * x1 * x2 * y1 * y2) * (1 + d * x1 * x2 * y1 * y2)) =
      ((1 + d * x1 * x2 * y1 * y2) * (1 - d * x1 * x2 * y1 * y2)) * ((1 + d * x1 * x2 * y1 * y2) * (1 - d * x1 * x2 * y1 * y2)) + d * ((x1 * y2 + x2 * y1) * (x1 * y2 + x2 * y1)) * ((y1 * y2 + x1 * x2) * (y1 * y2 + x1 * x2)) := by
    exact two_rows (closedId d x1 y1 x2 y2) h1.sub h2.sub
  unfold On
  have hp2 := F.mul_ne (F.mul_ne hp hm) (F.mul_ne hp hm)
  refine F.cancel hp2 ?_
  rw [← ha, ← hb] at hC
  generalize 1 + d * x1 * x2 * y1 * y2 = p at *
  generalize 1 - d * x1 * x2 * y1 * y2 = m at *
  clear ha hb hp hm hp2 h1 h2
  grobner

/-- In any brackets. -/
theorem assoc_poly {x1 y1 x2 y2 x3 y3 a b a' b' u v u' v' : Fin n} (h1 : On d x1 y1) (h2 : On d x2 y2) (h3 : On d x3 y3)
    (ha : a * (1 + d * x1 * x2 * y1 * y2) = x1 * y2 + x2 * y1) (hb : b * (1 - d * x1 * x2 * y1 * y2) = y1 * y2 + x1 * x2)
    (ha' : a' * (1 + d * x2 * x3 * y2 * y3) = x2 * y3 + x3 * y2) (hb' : b' * (1 - d * x2 * x3 * y2 * y3) = y2 * y3 + x2 * x3)
    (hu : u * (1 + d * a * x3 * b * y3) = a * y3 + x3 * b) (hv : v * (1 - d * a * x3 * b * y3) = b * y3 + a * x3)
    (hu' : u' * (1 + d * x1 * a' * y1 * b') = x1 * b' + a' * y1) (hv' : v' * (1 - d * x1 * a' * y1 * b') = y1 * b' + x1 * a') : u = u' ∧ v = v' := by
  have o12 := closed_poly F h1 h2 ha hb
  have o23 := closed_poly F h2 h3 ha' hb'
  have hp := F.denP h1 h2
  have hm := F.denM h1 h2
  have hp' := F.denP h2 h3
  have hm' := F.denM h2 h3
  have kp := F.denP o12 h3
  have km := F.denM o12 h3
  have kp' := F.denP h1 o23
  have km' := F.denM h1 o23
  have e1 := h1.sub
  have e2 := h2.sub
  have e3 := h3.sub
  clear h1 h2 h3 o12 o23
  have hX : ((x1 * y2 + x2 * y1) * (1 - d * x1 * x2 * y1 * y2) * y3 + x3 * (y1 * y2 + x1 * x2) * (1 + d * x1 * x2 * y1 * y2)) * ((1 + d * x2 * x3 * y2 * y3) * (1 - d * x2 * x3 * y2 * y3) + d * (x2 * y3 + x3 * y2) * (y2 * y3 + x2 * x3) * x1 * y1) =
      (x1 * (y2 * y3 + x2 * x3) * (1 + d * x2 * x3 * y2 * y3) + (x2 * y3 + x3 * y2) * (1 - d * x2 * x3 * y2 * y3) * y1) * ((1 + d * x1 * x2 * y1 * y2) * (1 - d * x1 * x2 * y1 * y2) + d * (x1 * y2 + x2 * y1) * (y1 * y2 + x1 * x2) * x3 * y3) := by
    exact three_rows (assocX d x1 y1 x2 y2 x3 y3) e1 e2 e3
  have hY : ((y1 * y2 + x1 * x2) * (1 + d * x1 * x2 * y1 * y2) * y3 + (x1 * y2 + x2 * y1) * (1 - d * x1 * x2 * y1 * y2) * x3) * ((1 + d * x2 * x3 * y2 * y3) * (1 - d * x2 * x3 * y2 * y3) - d * (x2 * y3 + x3 * y2) * (y2 * y3 + x2 * x3) * x1 * y1) =
      (y1 * (y2 * y3 + x2 * x3) * (1 + d * x2 * x3 * y2 * y3) + x1 * (x2 * y3 + x3 * y2) * (1 - d * x2 * x3 * y2 * y3)) * ((1 + d * x1 * x2 * y1 * y2) * (1 - d * x1 * x2 * y1 * y2) - d * (x1 * y2 + x2 * y1) * (y1 * y2 + x1 * x2) * x3 * y3) := by
    exact three_rows (assocY d x1 y1 x2 y2 x3 y3) e1 e2 e3
  clear e1 e2 e3
  rw [← ha, ← hb, ← ha', ← hb'] at hX hY
  have hp2 := F.mul_ne hp hm
  have hp2' := F.mul_ne hp' hm'
  generalize 1 + d * x1 * x2 * y1 * y2 = p at *
  generalize 1 - d * x1 * x2 * y1 * y2 = m at *
  generalize 1 + d * x2 * x3 * y2 * y3 = p' at *
  generalize 1 - d * x2 * x3 * y2 * y3 = m' at *
  clear ha hb ha' hb' hp hm hp' hm' x2 y2
  have f1 : a * p * m * y3 + x3 * (b * m) * p = (p * m) * (a * y3 + x3 * b) := by grobner
  have f2 : p' * m' + d * (a' * p') * (b' * m') * x1 * y1 = (p' * m') * (1 + d * x1 * a' * y1 * b') := by grobner
  have f3 : x1 * (b' * m') * p' + a' * p' * m' * y1 = (p' * m') * (x1 * b' + a' * y1) := by grobner
  have f4 : p * m + d * (a * p) * (b * m) * x3 * y3 = (p * m) * (1 + d * a * x3 * b * y3) := by grobner
  have f5 : b * m * p * y3 + a * p * m * x3 = (p * m) * (b * y3 + a * x3) := by grobner
  have f6 : p' * m' - d * (a' * p') * (b' * m') * x1 * y1 = (p' * m') * (1 - d * x1 * a' * y1 * b') := by grobner
  have f7 : y1 * (b' * m') * p' + x1 * (a' * p') * m' = (p' * m') * (y1 * b' + x1 * a') := by grobner
  have f8 : p * m - d * (a * p) * (b * m) * x3 * y3 = (p * m) * (1 - d * a * x3 * b * y3) := by grobner
  rw [f1, f2, f3, f4, ← hu, ← hu'] at hX
  rw [f5, f6, f7, f8, ← hv, ← hv'] at hY
  clear f1 f2 f3 f4 f5 f6 f7 f8 hu hu' hv hv'
  generalize 1 + d * x1 * a' * y1 * b' = k' at *
  generalize 1 + d * a * x3 * b * y3 = k at *
  generalize 1 - d * x1 * a' * y1 * b' = l' at *
  generalize 1 - d * a * x3 * b * y3 = l at *
  generalize p * m = s at *
  generalize p' * m' = s' at *
  constructor
  · refine F.cancel (a := s * s' * k * k') (F.mul_ne (F.mul_ne (F.mul_ne hp2 hp2') kp) kp') ?_
    grobner
  · refine F.cancel (a := s * s' * l * l') (F.mul_ne (F.mul_ne (F.mul_ne hp2 hp2') km) km') ?_
    grobner
omit F
end

/-- The points. -/
structure Pt (n : Nat) [NeZero n] (d : Fin n) where
  x : Fin n
  y : Fin n
  on : On d x y
theorem Pt.ext {n : Nat} [NeZero n] {d : Fin n} {p q : Pt n d} (hx : p.x = q.x) (hy : p.y = q.y) : p = q := by
  cases p; cases q; cases hx; cases hy; rfl

section
variable {n : Nat} [NeZero n] {iv : Fin n → Fin n} {d i : Fin n} (F : Fld n iv d i)
def Pt.zero : Pt n d := ⟨0, 1, by unfold On; grobner⟩
def Pt.neg (p : Pt n d) : Pt n d := ⟨-p.x, p.y, by have := p.on; unfold On at *; grobner⟩
def Pt.add (p q : Pt n d) : Pt n d :=
  ⟨(p.x * q.y + q.x * p.y) * iv (1 + d * p.x * q.x * p.y * q.y), (p.y * q.y + p.x * q.x) * iv (1 - d * p.x * q.x * p.y * q.y),
    closed_poly F p.on q.on (by have := F.inv _ (F.denP p.on q.on); grobner) (by have := F.inv _ (F.denM p.on q.on); grobner)⟩
theorem add_x (p q : Pt n d) : (Pt.add F p q).x * (1 + d * p.x * q.x * p.y * q.y) = p.x * q.y + q.x * p.y := by
  have := F.inv _ (F.denP p.on q.on)
  simp only [Pt.add]
  generalize 1 + d * p.x * q.x * p.y * q.y = k at *
  grobner
theorem add_y (p q : Pt n d) : (Pt.add F p q).y * (1 - d * p.x * q.x * p.y * q.y) = p.y * q.y + p.x * q.x := by
  have := F.inv _ (F.denM p.on q.on)
  simp only [Pt.add]
  generalize 1 - d * p.x * q.x * p.y * q.y = k at *
  grobner
/-- What the sum is, is told by these two. -/
theorem add_eq {p q r : Pt n d} (hx : r.x * (1 + d * p.x * q.x * p.y * q.y) = p.x * q.y + q.x * p.y) (hy : r.y * (1 - d * p.x * q.x * p.y * q.y) = p.y * q.y + p.x * q.x) : Pt.add F p q = r := by
  apply Pt.ext
  · apply F.cancel (F.denP p.on q.on)
    rw [← add_x F] at hx
    grobner
  · apply F.cancel (F.denM p.on q.on)
    rw [← add_y F] at hy
    grobner
theorem add_comm (p q : Pt n d) : Pt.add F p q = Pt.add F q p := by
  apply add_eq
  · have := add_x F q p; grobner
  · have := add_y F q p; grobner
theorem add_zero (p : Pt n d) : Pt.add F p Pt.zero = p := by
  apply add_eq <;> simp only [Pt.zero] <;> grobner
theorem zero_add (p : Pt n d) : Pt.add F Pt.zero p = p := by rw [add_comm, add_zero]
theorem add_neg (p : Pt n d) : Pt.add F p p.neg = Pt.zero := by
  have := p.on
  unfold On at this
  apply add_eq <;> simp only [Pt.zero, Pt.neg] <;> grobner
theorem add_assoc (p q r : Pt n d) : Pt.add F (Pt.add F p q) r = Pt.add F p (Pt.add F q r) := by
  obtain ⟨h1, h2⟩ := assoc_poly F p.on q.on r.on (add_x F p q) (add_y F p q) (add_x F q r) (add_y F q r) (add_x F (Pt.add F p q) r) (add_y F (Pt.add F p q) r) (add_x F p (Pt.add F q r)) (add_y F p (Pt.add F q r))
  exact Pt.ext h1 h2
theorem add_left_cancel {p q r : Pt n d} (h : Pt.add F p q = Pt.add F p r) : q = r := by
  have : Pt.add F p.neg (Pt.add F p q) = Pt.add F p.neg (Pt.add F p r) := by rw [h]
  rwa [← add_assoc, ← add_assoc, add_comm F p.neg p, add_neg, zero_add, zero_add] at this
theorem neg_neg (p : Pt n d) : p.neg.neg = p := by
  apply Pt.ext <;> simp only [Pt.neg]
  grobner
theorem neg_zero : (Pt.zero : Pt n d).neg = Pt.zero := by
  apply Pt.ext <;> simp only [Pt.neg, Pt.zero]
  grobner
theorem add_add_comm (a b c e : Pt n d) : Pt.add F (Pt.add F a b) (Pt.add F c e) = Pt.add F (Pt.add F a c) (Pt.add F b e) := by
  rw [add_assoc, add_assoc, ← add_assoc F b, add_comm F b c, add_assoc F c]
theorem neg_add (p q : Pt n d) : (Pt.add F p q).neg = Pt.add F p.neg q.neg := by
  apply add_left_cancel F (p := Pt.add F p q)
  rw [add_neg, add_add_comm, add_neg, add_neg, add_zero]

/-- So many times. -/
def Pt.mul (k : Nat) (p : Pt n d) : Pt n d := match k with
  | 0 => Pt.zero
  | k + 1 => Pt.add F (Pt.mul k p) p
theorem mul_add (a b : Nat) (p : Pt n d) : Pt.mul F (a + b) p = Pt.add F (Pt.mul F a p) (Pt.mul F b p) := by
  induction b with
  | zero => rw [Nat.add_zero, Pt.mul, add_zero]
  | succ b ih => rw [← Nat.add_assoc, Pt.mul, ih, Pt.mul, add_assoc]
theorem mul_one (p : Pt n d) : Pt.mul F 1 p = p := by rw [Pt.mul, Pt.mul, zero_add]
theorem mul_two (p : Pt n d) : Pt.mul F 2 p = Pt.add F p p := by rw [Pt.mul, mul_one]
theorem mul_zero (k : Nat) : Pt.mul F k (Pt.zero : Pt n d) = Pt.zero := by
  induction k with
  | zero => rfl
  | succ k ih => rw [Pt.mul, ih, zero_add]
theorem mul_padd (k : Nat) (p q : Pt n d) : Pt.mul F k (Pt.add F p q) = Pt.add F (Pt.mul F k p) (Pt.mul F k q) := by
  induction k with
  | zero => rw [Pt.mul, Pt.mul, Pt.mul, add_zero]
  | succ k ih => rw [Pt.mul, ih, Pt.mul, Pt.mul, add_add_comm]
theorem mul_mul (a b : Nat) (p : Pt n d) : Pt.mul F (a * b) p = Pt.mul F a (Pt.mul F b p) := by
  induction a with
  | zero => rw [Nat.zero_mul, Pt.mul, Pt.mul]
  | succ a ih => rw [Nat.succ_mul, mul_add, ih, Pt.mul]
theorem mul_neg (k : Nat) (p : Pt n d) : Pt.mul F k p.neg = (Pt.mul F k p).neg := by
  induction k with
  | zero => rw [Pt.mul, Pt.mul, neg_zero]
  | succ k ih => rw [Pt.mul, ih, Pt.mul, neg_add]
theorem mul_swap (a b : Nat) (p : Pt n d) : Pt.mul F a (Pt.mul F b p) = Pt.mul F b (Pt.mul F a p) := by
  rw [← mul_mul, ← mul_mul, Nat.mul_comm]
theorem mul_mod {l : Nat} {p : Pt n d} (hl : Pt.mul F l p = Pt.zero) (k : Nat) : Pt.mul F (k % l) p = Pt.mul F k p := by
  have h : Pt.mul F k p = Pt.mul F (l * (k / l) + k % l) p := by rw [Nat.div_add_mod]
  rw [h, mul_add, Nat.mul_comm, mul_mul, hl, mul_zero, zero_add]
end
end Go.Cv

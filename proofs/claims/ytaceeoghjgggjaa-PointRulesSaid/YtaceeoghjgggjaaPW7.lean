/-
  The order times the base is nothing, and eight times it isn't (both reckoned by the kernel); the laws' own test of the base.
-/
import Derived.Test.YtaceeoghjgggjaaPW6
set_option linter.unusedSimpArgs false
set_option linter.unusedVariables false
namespace Go.Ev.Ytaceeoghjgggjaa
open Go Go.Ev
attribute [local congr] bind_congr2 ite_congr2 qElse_congr gate_congr guardV_congr
set_option maxRecDepth 100000

/-- A point in numbers. -/
structure Jac where
  x : Nat
  y : Nat
  z : Nat
  t : Nat
structure JRep (a : Jac) (p : Go.Cv.Pt Go.Fp.P Go.Fp.d) : Prop where
  nz : Go.Fp.fp a.z ≠ 0
  x : Go.Fp.fp a.x = p.x * Go.Fp.fp a.z
  y : Go.Fp.fp a.y = p.y * Go.Fp.fp a.z
  t : Go.Fp.fp a.t = p.x * p.y * Go.Fp.fp a.z
def nsub (a b : Nat) : Nat := a + (Go.Fp.P - b % Go.Fp.P)
theorem fp_nsub (a b : Nat) : Go.Fp.fp (nsub a b) = Go.Fp.fp a - Go.Fp.fp b := by
  unfold nsub
  have h : b % Go.Fp.P ≤ Go.Fp.P := Nat.le_of_lt (Nat.mod_lt _ (by rw [Go.Fp.P_eq]; decide))
  rw [Go.Fp.fp_add, Go.Fp.fp_sub h, Go.Fp.fp_P, Go.Fp.fp_mod]
  grobner
def jaddA (a b : Jac) : Nat := nsub a.y a.x * nsub b.y b.x % Go.Fp.P
def jaddB (a b : Jac) : Nat := (a.y + a.x) * (b.y + b.x) % Go.Fp.P
def jaddC (a b : Jac) : Nat := 1 * 2 * Go.Fp.dN * a.t * b.t % Go.Fp.P
def jaddD (a b : Jac) : Nat := 1 * 2 * a.z * b.z % Go.Fp.P
def jfin (a b c e : Nat) : Jac := ⟨nsub b a * nsub e c % Go.Fp.P, (e + c) * (b + a) % Go.Fp.P, nsub e c * (e + c) % Go.Fp.P, nsub b a * (b + a) % Go.Fp.P⟩
def jadd (a b : Jac) : Jac := jfin (jaddA a b) (jaddB a b) (jaddC a b) (jaddD a b)
theorem JRep.add {a b : Jac} {p q : Go.Cv.Pt Go.Fp.P Go.Fp.d} (h1 : JRep a p) (h2 : JRep b q) : JRep (jadd a b) (padd p q) := by
  have ha : Go.Fp.fp (jaddA a b) = (Go.Fp.fp a.y - Go.Fp.fp a.x) * (Go.Fp.fp b.y - Go.Fp.fp b.x) := by
    unfold jaddA; rw [Go.Fp.fp_mod, Go.Fp.fp_mul, fp_nsub, fp_nsub]
  have hb : Go.Fp.fp (jaddB a b) = (Go.Fp.fp a.y + Go.Fp.fp a.x) * (Go.Fp.fp b.y + Go.Fp.fp b.x) := by
    unfold jaddB; rw [Go.Fp.fp_mod, Go.Fp.fp_mul, Go.Fp.fp_add, Go.Fp.fp_add]
  have hc : Go.Fp.fp (jaddC a b) = 1 * 2 * Go.Fp.d * Go.Fp.fp a.t * Go.Fp.fp b.t := by
    unfold jaddC; rw [Go.Fp.fp_mod, Go.Fp.fp_mul, Go.Fp.fp_mul, Go.Fp.fp_mul, Go.Fp.fp_mul, Go.Fp.fp_one, Go.Fp.fp_two]; rfl
  have hd : Go.Fp.fp (jaddD a b) = 1 * 2 * Go.Fp.fp a.z * Go.Fp.fp b.z := by
    unfold jaddD; rw [Go.Fp.fp_mod, Go.Fp.fp_mul, Go.Fp.fp_mul, Go.Fp.fp_mul, Go.Fp.fp_one, Go.Fp.fp_two]
  have hx : Go.Fp.fp (jadd a b).x = (Go.Fp.fp (jaddB a b) - Go.Fp.fp (jaddA a b)) * (Go.Fp.fp (jaddD a b) - Go.Fp.fp (jaddC a b)) := by
    show Go.Fp.fp (_ % _) = _; rw [Go.Fp.fp_mod, Go.Fp.fp_mul, fp_nsub, fp_nsub]
  have hy : Go.Fp.fp (jadd a b).y = (Go.Fp.fp (jaddD a b) + Go.Fp.fp (jaddC a b)) * (Go.Fp.fp (jaddB a b) + Go.Fp.fp (jaddA a b)) := by
    show Go.Fp.fp (_ % _) = _; rw [Go.Fp.fp_mod, Go.Fp.fp_mul, Go.Fp.fp_add, Go.Fp.fp_add]
  have hz : Go.Fp.fp (jadd a b).z = (Go.Fp.fp (jaddD a b) - Go.Fp.fp (jaddC a b)) * (Go.Fp.fp (jaddD a b) + Go.Fp.fp (jaddC a b)) := by
    show Go.Fp.fp (_ % _) = _; rw [Go.Fp.fp_mod, Go.Fp.fp_mul, Go.Fp.fp_add, fp_nsub]
  have ht : Go.Fp.fp (jadd a b).t = (Go.Fp.fp (jaddB a b) - Go.Fp.fp (jaddA a b)) * (Go.Fp.fp (jaddB a b) + Go.Fp.fp (jaddA a b)) := by
    show Go.Fp.fp (_ % _) = _; rw [Go.Fp.fp_mod, Go.Fp.fp_mul, Go.Fp.fp_add, fp_nsub]
  obtain ⟨g1, g2, g3, g4⟩ := plus_math h1.x h1.y h1.t h2.x h2.y h2.t ha hb hc hd hx hy hz ht (Go.Cv.add_x Go.Fp.fld p q) (Go.Cv.add_y Go.Fp.fld p q)
  refine ⟨?_, g1, g2, g3⟩
  rw [g4]
  have F := Go.Fp.fld
  have w := F.mul_ne (F.mul_ne F.two h1.nz) h2.nz
  exact F.mul_ne (F.mul_ne w w) (F.mul_ne (F.denM p.on q.on) (F.denP p.on q.on))
def jmul (p : Jac) : Nat → Nat → Jac
  | 0, _ => ⟨0, 1, 1, 0⟩
  | f + 1, k => (fun r => if k % 2 = 1 then jadd (jadd r r) p else jadd r r) (jmul p f (k / 2))
theorem JRep.mul {a : Jac} {p : Go.Cv.Pt Go.Fp.P Go.Fp.d} (h : JRep a p) : ∀ {f k : Nat}, k < 2 ^ f → JRep (jmul a f k) (pmul k p)
  | 0, k, hk => by
    have : k = 0 := by omega
    subst this
    exact ⟨Go.Fp.one_ne, by show (0 : Go.Fp.Fe) = 0 * 1; grobner, by show (1 : Go.Fp.Fe) = 1 * 1; grobner, by show (0 : Go.Fp.Fe) = 0 * 1 * 1; grobner⟩
  | f + 1, k, hk => by
    have ih := JRep.mul h (f := f) (k := k / 2) (by omega)
    have hb := Nat.mod_lt k (by decide : 0 < 2)
    have e : pmul k p = pmul (2 * (k / 2) + k % 2) p := by rw [Nat.div_add_mod]
    rw [e, pmul_step p (k / 2) (k % 2) hb]
    simp only [jmul]
    split
    · exact (ih.add ih).add h
    · exact ih.add ih
def jbase : Jac := ⟨bxN, byN, 1, bxN * byN % Go.Fp.P⟩
theorem jbase_rep : JRep jbase pbase := by
  have h1 : Go.Fp.fp 1 = (1 : Go.Fp.Fe) := rfl
  refine ⟨Go.Fp.one_ne, ?_, ?_, ?_⟩
  · show Go.Fp.fp bxN = Go.Fp.fp bxN * Go.Fp.fp 1; rw [h1]; grobner
  · show Go.Fp.fp byN = Go.Fp.fp byN * Go.Fp.fp 1; rw [h1]; grobner
  · show Go.Fp.fp (bxN * byN % Go.Fp.P) = Go.Fp.fp bxN * Go.Fp.fp byN * Go.Fp.fp 1; rw [h1, Go.Fp.fp_mod, Go.Fp.fp_mul]; grobner
theorem eight_base : pmul 8 pbase ≠ pzero := fun h => by
  have r := jbase_rep.mul (f := 4) (k := 8) (by decide)
  rw [h] at r
  have hx := r.x
  rw [show (pzero : Go.Cv.Pt Go.Fp.P Go.Fp.d).x = 0 from rfl] at hx
  have h0 : Go.Fp.fp (jmul jbase 4 8).x = Go.Fp.fp 0 := by rw [hx]; show _ = (0 : Go.Fp.Fe); grobner
  have h1 := Go.Fp.fp_eq.1 h0
  have h2 : (jmul jbase 4 8).x % Go.Fp.P ≠ 0 % Go.Fp.P := by decide +kernel
  exact h2 h1
theorem jac_zero {a : Jac} {q : Go.Cv.Pt Go.Fp.P Go.Fp.d} (r : JRep a q) (c1 : a.x % Go.Fp.P = 0 % Go.Fp.P) (c2 : a.y % Go.Fp.P = a.z % Go.Fp.P) : q = pzero := by
  have d1 := Go.Fp.fp_eq.2 c1
  have d2 := Go.Fp.fp_eq.2 c2
  have F := Go.Fp.fld
  have hx := r.x
  have hy := r.y
  have hz := r.nz
  rw [d1] at hx
  rw [d2] at hy
  generalize Go.Fp.fp a.z = z at *
  apply Go.Cv.Pt.ext
  · show _ = (0 : Go.Fp.Fe)
    have h0 : Go.Fp.fp 0 = (0 : Go.Fp.Fe) := rfl
    rw [h0] at hx
    refine F.cancel hz ?_
    generalize q.x = w at *
    clear r hy d1 d2
    grobner
  · show _ = (1 : Go.Fp.Fe)
    refine F.cancel hz ?_
    generalize q.y = w at *
    clear r hx d1 d2
    grobner
def ellTest (a : Jac) : Bool := Nat.beq (a.x % Go.Fp.P) 0 && Nat.beq (a.y % Go.Fp.P) (a.z % Go.Fp.P)
theorem ell_test : ellTest (jmul jbase 253 ell) = true := by decide +kernel
theorem ell_base : pmul ell pbase = pzero := by
  have h := ell_test
  simp only [ellTest, Bool.and_eq_true] at h
  exact jac_zero (jbase_rep.mul (f := 253) (k := ell) (by decide +kernel)) (Nat.eq_of_beq_eq_true h.1) (Nat.eq_of_beq_eq_true h.2)
end Go.Ev.Ytaceeoghjgggjaa

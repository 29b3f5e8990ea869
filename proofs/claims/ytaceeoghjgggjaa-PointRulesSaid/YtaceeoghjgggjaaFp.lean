/-
  2^255 - 19 is a prime; each number modulo it but nought has an inverse; the curve's factor is no square there. No program.
-/
import Derived.Test.YtaceeoghjgggjaaCv
set_option linter.unusedSimpArgs false
set_option linter.unusedVariables false
namespace Go.NT
theorem pwf_eq (m a : Nat) : ∀ (f e : Nat), pwf m a f e = pw m a f e
  | 0, _ => rfl
  | f + 1, e => by simp only [pwf, pw, pwf_eq m a f]
theorem pwf_pow {m a f e : Nat} (h : e < 2 ^ f) : pwf m a f e = a ^ e % m := by rw [pwf_eq, pw_eq m a f e h]

def certB (n q k a f : Nat) : Bool := n == q * k + 1 && decide (q * k < 2 ^ f) && pwf n a f (q * k) == 1 && Nat.gcd (pwf n a f k + n - 1) n == 1
theorem certB_spec {n q k a f : Nat} (hq : Pr q) (h : certB n q k a f = true) : n = q * k + 1 ∧ a ^ (q * k) % n = 1 ∧ Nat.gcd (a ^ k % n + n - 1) n = 1 := by
  simp only [certB, Bool.and_eq_true, beq_iff_eq, decide_eq_true_eq] at h
  obtain ⟨⟨⟨h1, h2⟩, h3⟩, h4⟩ := h
  have h5 : k < 2 ^ f := by
    have : k ≤ q * k := Nat.le_mul_of_pos_left k (by have := hq.1; omega)
    omega
  rw [pwf_pow h2] at h3
  rw [pwf_pow h5] at h4
  exact ⟨h1, h3, h4⟩
theorem cert_one {n q k a f : Nat} (hq : Pr q) (h : (certB n q k a f && decide (2 ≤ n) && decide (n < q * q)) = true) : Pr n := by
  simp only [Bool.and_eq_true, decide_eq_true_eq] at h
  obtain ⟨h1, h2, h3⟩ := certB_spec hq h.1.1
  exact pock_one h.1.2 hq h1 h.2 h2 h3
theorem cert_two {n q k a q2 k2 a2 f : Nat} (hq : Pr q) (hq2 : Pr q2) (h : (certB n q k a f && certB n q2 k2 a2 f && decide (2 ≤ n) && decide (q ≠ q2) && decide (n < (q * q2) * (q * q2))) = true) : Pr n := by
  simp only [Bool.and_eq_true, decide_eq_true_eq] at h
  obtain ⟨h1, h2, h3⟩ := certB_spec hq h.1.1.1.1
  obtain ⟨h1', h2', h3'⟩ := certB_spec hq2 h.1.1.1.2
  exact pock_two h.1.1.2 hq h1 hq2 h1' h.1.2 h.2 h2 h3 h2' h3'
theorem pr1 : Pr 991 := small_prime (f := 30) (by decide) (by decide) (by decide +kernel)
theorem pr2 : Pr 103 := small_prime (f := 9) (by decide) (by decide) (by decide +kernel)
theorem pr3 : Pr 8574133 := cert_two (q := 991) (k := 8652) (a := 2) (q2 := 103) (k2 := 83244) (a2 := 2) (f := 25) pr1 pr2 (by decide +kernel)
theorem pr4 : Pr 127 := small_prime (f := 10) (by decide) (by decide) (by decide +kernel)
theorem pr5 : Pr 1919519569386763 := cert_two (q := 8574133) (k := 223873314) (a := 2) (q2 := 127) (k2 := 15114327318006) (a2 := 2) (f := 52) pr3 pr4 (by decide +kernel)
theorem pr6 : Pr 569003 := small_prime (f := 753) (by decide) (by decide) (by decide +kernel)
theorem pr7 : Pr 2773320623 := cert_one (q := 569003) (k := 4874) (a := 2) (f := 33) pr6 (by decide +kernel)
theorem pr8 : Pr 72106336199 := cert_one (q := 2773320623) (k := 26) (a := 2) (f := 38) pr7 (by decide +kernel)
theorem pr9 : Pr 75445702479781427272750846543864801 := cert_two (q := 1919519569386763) (k := 39304471641247389600) (a := 2) (q2 := 72106336199) (k2 := 1046311689884858398375200) (a2 := 2) (f := 117) pr5 pr8 (by decide +kernel)
theorem pr10 : Pr 430751 := small_prime (f := 655) (by decide) (by decide) (by decide +kernel)
theorem pr11 : Pr 4153 := small_prime (f := 63) (by decide) (by decide) (by decide +kernel)
theorem pr12 : Pr 31757755568855353 := cert_two (q := 430751) (k := 73726481352) (a := 2) (q2 := 4153) (k2 := 7646943310584) (a2 := 2) (f := 56) pr10 pr11 (by decide +kernel)
theorem pr13 : Pr 74058212732561358302231226437062788676166966415465897661863160754340907 := cert_two (q := 75445702479781427272750846543864801) (k := 981609426360740691344999861639072106) (a := 2) (q2 := 31757755568855353) (k2 := 2331972502653487852620185443007392165117953542933313402) (a2 := 2) (f := 237) pr9 pr12 (by decide +kernel)
theorem pr14 : Pr 57896044618658097711785492504343953926634992332820282019728792003956564819949 := cert_one (q := 74058212732561358302231226437062788676166966415465897661863160754340907) (k := 781764) (a := 2) (f := 256) pr13 (by decide +kernel)
end Go.NT

namespace Go.Fp
open Go.NT Go.Cv
def P : Nat := 57896044618658097711785492504343953926634992332820282019728792003956564819949
theorem P_eq : P = 57896044618658097711785492504343953926634992332820282019728792003956564819949 := rfl
instance : NeZero P := ⟨by decide⟩
theorem P_prime : Pr P := pr14
abbrev Fe := Fin P
def fp (n : Nat) : Fe := Fin.ofNat P n
theorem fp_val (n : Nat) : (fp n).val = n % P := rfl
theorem fp_eq {a b : Nat} : fp a = fp b ↔ a % P = b % P := by
  constructor
  · intro h; exact congrArg Fin.val h
  · intro h; exact Fin.ext h
theorem fp_of_val (a : Fe) : fp a.val = a := Fin.ext (Nat.mod_eq_of_lt a.isLt)
theorem fp_mod (a : Nat) : fp (a % P) = fp a := fp_eq.2 (Nat.mod_mod _ _)
theorem fp_add (a b : Nat) : fp (a + b) = fp a + fp b := Fin.ext (by rw [fp_val, Fin.val_add, fp_val, fp_val, ← Nat.add_mod])
theorem fp_mul (a b : Nat) : fp (a * b) = fp a * fp b := Fin.ext (by rw [fp_val, Fin.val_mul, fp_val, fp_val, ← Nat.mul_mod])
theorem fp_zero : fp 0 = 0 := rfl
theorem fp_one : fp 1 = 1 := rfl
theorem fp_two : fp 2 = 2 := rfl
theorem fp_P : fp P = 0 := Fin.ext (by rw [fp_val, Nat.mod_self]; rfl)
theorem fp_mulP (k : Nat) : fp (k * P) = 0 := by rw [fp_mul, fp_P]; grobner
theorem fp_sub {a b : Nat} (h : b ≤ a) : fp (a - b) = fp a - fp b := by
  have h1 := fp_add (a - b) b
  rw [Nat.sub_add_cancel h] at h1
  grobner

/-- A power. -/
def pow (a : Fe) (k : Nat) : Fe := match k with
  | 0 => 1
  | k + 1 => pow a k * a
theorem pow_val (a : Fe) : ∀ k, (pow a k).val = a.val ^ k % P
  | 0 => rfl
  | k + 1 => by rw [pow, Fin.val_mul, pow_val a k, Nat.pow_succ, Nat.mod_mul_mod]
theorem pow_add (a : Fe) (j : Nat) : ∀ k, pow a (j + k) = pow a j * pow a k
  | 0 => by rw [Nat.add_zero]; simp only [pow]; grobner
  | k + 1 => by rw [← Nat.add_assoc, pow, pow_add a j k, pow]; grobner
theorem pow_mul (a : Fe) (j : Nat) : ∀ k, pow a (j * k) = pow (pow a j) k
  | 0 => by rw [Nat.mul_zero]; rfl
  | k + 1 => by rw [Nat.mul_succ, pow_add, pow_mul a j k, pow]
theorem pow_prod (a b : Fe) : ∀ k, pow (a * b) k = pow a k * pow b k
  | 0 => by simp only [pow]; grobner
  | k + 1 => by simp only [pow]; rw [pow_prod a b k]; grobner
theorem pow_one (a : Fe) : pow a 1 = a := by simp only [pow]; grobner
theorem pow_two (a : Fe) : pow a 2 = a * a := by simp only [pow]; grobner
theorem one_pow : ∀ k, pow 1 k = 1
  | 0 => rfl
  | k + 1 => by rw [pow, one_pow k]; grobner
theorem zero_pow {k : Nat} (hk : 0 < k) : pow 0 k = 0 := by
  obtain ⟨j, rfl⟩ : ∃ j, k = j + 1 := ⟨k - 1, by omega⟩
  rw [pow]; grobner
theorem pow_fp (a k : Nat) : pow (fp a) k = fp (a ^ k) := Fin.ext (by rw [pow_val, fp_val, fp_val, ← Nat.pow_mod])
theorem ndvd {a : Fe} (h : a ≠ 0) : ¬ P ∣ a.val := fun hd => by
  have h1 := Nat.mod_eq_zero_of_dvd hd
  rw [Nat.mod_eq_of_lt a.isLt] at h1
  exact h (Fin.ext h1)
theorem fermat {a : Fe} (h : a ≠ 0) : pow a (P - 1) = 1 := Fin.ext (by rw [pow_val, Go.NT.fermat P_prime (ndvd h)]; rfl)
def iv (a : Fe) : Fe := pow a (P - 2)
theorem iv_mul {a : Fe} (h : a ≠ 0) : a * iv a = 1 := by
  have h1 := fermat h
  rw [show P - 1 = (P - 2) + 1 from rfl, pow] at h1
  unfold iv
  rw [← h1]; grobner
theorem iv_zero : iv 0 = 0 := zero_pow (by decide)

def dN : Nat := 37095705934669439343138083508754565189542113879843219016388785533085940283555
def iN : Nat := 19681161376707505956807079304988542015446066515923890162744021073123829784752
def d : Fe := fp dN
def i : Fe := fp iN
theorem pow_test {a k r f : Nat} (hk : k < 2 ^ f) (h : pwf P a f k = r) : pow (fp a) k = fp r := by
  rw [pow_fp, ← h, pwf_pow hk, fp_mod]
theorem root_i : i * i = -1 := by
  have h : i * i + 1 = 0 := by
    unfold i
    rw [← fp_mul, ← fp_one, ← fp_add]
    exact Fin.ext (by rw [fp_val]; decide +kernel)
  grobner
theorem one_ne : (1 : Fe) ≠ 0 := fun h => by
  have := congrArg Fin.val h
  revert this
  decide +kernel
theorem two_ne : (2 : Fe) ≠ 0 := fun h => by
  have := congrArg Fin.val h
  revert this
  decide +kernel
/-- A square to half of P - 1 is one, or nought. -/
theorem pow_half (r : Fe) : pow (r * r) ((P - 1) / 2) = 1 ∨ r = 0 := by
  by_cases h : r = 0
  · exact .inr h
  · left
    rw [← pow_two, ← pow_mul, show 2 * ((P - 1) / 2) = P - 1 from by decide +kernel, fermat h]
theorem half_d : pow d ((P - 1) / 2) = fp (P - 1) := pow_test (f := 256) (by decide +kernel) (by decide +kernel)
theorem nosq (r : Fe) : r * r ≠ d := fun h => by
  have h1 := half_d
  rcases pow_half r with h2 | h2
  · rw [h, h1] at h2
    have := congrArg Fin.val h2
    revert this
    decide +kernel
  · subst h2
    have h3 : d = 0 := by rw [← h]; grobner
    have := congrArg Fin.val h3
    revert this
    decide +kernel
theorem fld : Fld P iv d i := ⟨fun _ h => iv_mul h, iv_zero, one_ne, two_ne, root_i, nosq⟩
end Go.Fp

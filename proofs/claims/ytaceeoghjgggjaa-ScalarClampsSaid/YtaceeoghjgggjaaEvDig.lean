/-
  Numbers and their digits. No program.
-/
import Derived.Test.YtaceeoghjgggjaaEvLoop
set_option linter.unusedSimpArgs false
set_option linter.unusedVariables false
namespace Go.Ev
def num (B : Nat) : List Nat → Nat
  | [] => 0
  | x :: r => x + B * num B r
def dig (B n v : Nat) : List Nat := (List.range n).map fun i => v / B ^ i % B

theorem dig_len (B n v : Nat) : (dig B n v).length = n := by simp [dig]
theorem dig_get {B n v i : Nat} (h : i < n) : (dig B n v)[i]? = some (v / B ^ i % B) := by simp [dig, h]
theorem dig_lt {B n v x : Nat} (hB : 0 < B) (h : x ∈ dig B n v) : x < B := by
  simp only [dig, List.mem_map] at h
  obtain ⟨i, _, rfl⟩ := h
  exact Nat.mod_lt _ hB
theorem dig_ext {B n v : Nat} {l : List Nat} (hl : l.length = n) (h : ∀ i, i < n → l[i]? = some (v / B ^ i % B)) : l = dig B n v := by
  apply List.ext_getElem?
  intro i
  by_cases hi : i < n
  · rw [h i hi, dig_get hi]
  · rw [List.getElem?_eq_none (by omega), List.getElem?_eq_none (by rw [dig_len]; omega)]

theorem num_lt {B : Nat} : ∀ {l : List Nat}, (∀ x ∈ l, x < B) → num B l < B ^ l.length
  | [], _ => by simp [num]
  | x :: r, h => by
    have h1 : x < B := h x (by simp)
    have h2 := num_lt (l := r) fun y hy => h y (by simp [hy])
    simp only [num, List.length_cons, Nat.pow_succ]
    have h3 : B * (num B r + 1) ≤ B * B ^ r.length := Nat.mul_le_mul_left _ h2
    rw [Nat.mul_add, Nat.mul_one] at h3
    rw [Nat.mul_comm (B ^ r.length) B]
    omega
theorem num_append (B : Nat) : ∀ (a b : List Nat), num B (a ++ b) = num B a + B ^ a.length * num B b
  | [], b => by simp [num]
  | x :: r, b => by
    simp only [num, List.cons_append, num_append B r b, List.length_cons, Nat.pow_succ, Nat.mul_add]
    rw [← Nat.mul_assoc, Nat.mul_comm B (B ^ r.length)]
    omega
theorem num_take {B : Nat} {l : List Nat} {j x : Nat} (h : l[j]? = some x) : num B (l.take (j + 1)) = num B (l.take j) + x * B ^ j := by
  have hj : j < l.length := (List.getElem?_eq_some_iff.1 h).1
  rw [List.take_add_one, h, num_append]
  simp [num, Nat.min_eq_left (Nat.le_of_lt hj), Nat.mul_comm]
theorem num_get {B : Nat} (hB : 0 < B) : ∀ {l : List Nat} {i x : Nat}, (∀ x ∈ l, x < B) → l[i]? = some x → num B l / B ^ i % B = x
  | [], i, x, _, h => by simp at h
  | y :: r, 0, x, hl, h => by
    simp at h; subst h
    have := hl y (by simp)
    simp only [num, Nat.pow_zero, Nat.div_one, Nat.add_mul_mod_self_left]
    exact Nat.mod_eq_of_lt this
  | y :: r, i + 1, x, hl, h => by
    have := hl y (by simp)
    simp only [num, Nat.pow_succ, Nat.mul_comm (B ^ i) B]
    rw [← Nat.div_div_eq_div_mul, Nat.add_mul_div_left _ _ hB, Nat.div_eq_of_lt this, Nat.zero_add]
    exact num_get hB (fun z hz => hl z (by simp [hz])) (by simpa using h)
theorem dig_num {B : Nat} (hB : 0 < B) {l : List Nat} (h : ∀ x ∈ l, x < B) : dig B l.length (num B l) = l := by
  symm
  exact dig_ext rfl fun i hi => by rw [num_get hB h (List.getElem?_eq_getElem hi)]; exact List.getElem?_eq_getElem hi
theorem dig_succ (B n v : Nat) : dig B (n + 1) v = v % B :: dig B n (v / B) := by
  simp only [dig, List.range_succ_eq_map, List.map_cons, List.map_map, Nat.pow_zero, Nat.div_one]
  congr 1
  apply List.map_congr_left
  intro i _
  simp only [Function.comp, Nat.succ_eq_add_one, Nat.pow_succ, Nat.div_div_eq_div_mul, Nat.mul_comm (B ^ i) B]
theorem num_dig {B : Nat} (hB : 0 < B) : ∀ (n v : Nat), num B (dig B n v) = v % B ^ n
  | 0, v => by simp [dig, num, Nat.mod_one]
  | n + 1, v => by
    rw [dig_succ, num, num_dig hB n, Nat.pow_succ, Nat.mul_comm (B ^ n) B, Nat.mod_mul]

theorem num_set {B : Nat} : ∀ {l : List Nat} {i x : Nat} (y : Nat), l[i]? = some x → num B (l.set i y) + x * B ^ i = num B l + y * B ^ i
  | [], i, x, y, h => by simp at h
  | z :: r, 0, x, y, h => by
    simp at h; subst h
    simp only [List.set_cons_zero, num, Nat.pow_zero]
    omega
  | z :: r, i + 1, x, y, h => by
    have := num_set (B := B) (l := r) (i := i) y (by simpa using h)
    simp only [List.set_cons_succ, num, Nat.pow_succ]
    have e : B * (num B (r.set i y) + x * B ^ i) = B * (num B r + y * B ^ i) := by rw [this]
    rw [Nat.mul_add, Nat.mul_add] at e
    rw [show x * (B ^ i * B) = B * (x * B ^ i) by simp only [Nat.mul_assoc, Nat.mul_left_comm, Nat.mul_comm], show y * (B ^ i * B) = B * (y * B ^ i) by simp only [Nat.mul_assoc, Nat.mul_left_comm, Nat.mul_comm]]
    omega
theorem set_lt {B : Nat} {l : List Nat} {i y : Nat} (h : ∀ x ∈ l, x < B) (hy : y < B) : ∀ x ∈ l.set i y, x < B := by
  intro x hx
  rcases List.mem_or_eq_of_mem_set hx with h1 | h1
  · exact h x h1
  · rw [h1]; exact hy

/-- A byte more is put to the words. -/
theorem dig_byte {m j x N : Nat} (hj : j / 4 < m) (hN : N < 256 ^ j) (hx : x < 256) :
    (dig 4294967296 m N).set (j / 4) ((dig 4294967296 m N).getD (j / 4) 0 ||| x * 2 ^ (8 * (j % 4))) = dig 4294967296 m (N + x * 256 ^ j) := by
  have e256 : (256 : Nat) = 2 ^ 8 := rfl
  have eW : (4294967296 : Nat) = 2 ^ 32 := rfl
  have hpow : (256 : Nat) ^ j = 2 ^ (8 * (j % 4)) * 4294967296 ^ (j / 4) := by
    rw [e256, eW, ← Nat.pow_mul, ← Nat.pow_mul, ← Nat.pow_add]
    congr 1; omega
  have hWq : 0 < 4294967296 ^ (j / 4) := Nat.pow_pos (by decide)
  have hdiv : N / 4294967296 ^ (j / 4) < 2 ^ (8 * (j % 4)) := by
    rw [Nat.div_lt_iff_lt_mul hWq, ← hpow]; exact hN
  have h24 : (2 : Nat) ^ (8 * (j % 4)) ≤ 2 ^ 24 := Nat.pow_le_pow_right (by decide) (by omega)
  have hx24 : (x + 1) * 2 ^ (8 * (j % 4)) ≤ 256 * 2 ^ 24 := Nat.mul_le_mul (by omega) h24
  rw [Nat.add_mul, Nat.one_mul] at hx24
  have hsum : N / 4294967296 ^ (j / 4) + x * 2 ^ (8 * (j % 4)) < 4294967296 := by show _ < 4294967296; omega
  apply dig_ext (by rw [List.length_set, dig_len])
  intro i hi
  by_cases hq : i = j / 4
  · subst hq
    rw [List.getElem?_set_self (by rw [dig_len]; exact hi), List.getD_eq_getElem?_getD, dig_get hi]
    rw [hpow, ← Nat.mul_assoc, Nat.add_mul_div_right _ _ hWq]
    simp only [Option.getD_some]
    rw [Nat.mod_eq_of_lt (a := N / _) (by omega), Nat.mod_eq_of_lt hsum, Nat.add_comm, Nat.mul_comm x, Nat.two_pow_add_eq_or_of_lt hdiv, Nat.or_comm]
  · rw [List.getElem?_set_ne (Ne.symm hq), dig_get hi]
    congr 1
    by_cases hlt : i < j / 4
    · have : 4294967296 ^ (j / 4) = 4294967296 * 4294967296 ^ (j / 4 - i - 1) * 4294967296 ^ i := by
        rw [Nat.mul_assoc, ← Nat.pow_add, ← Nat.pow_add_one']; congr 1; omega
      rw [hpow, this]
      rw [show x * (2 ^ (8 * (j % 4)) * (4294967296 * 4294967296 ^ (j / 4 - i - 1) * 4294967296 ^ i)) = (x * 2 ^ (8 * (j % 4)) * 4294967296 ^ (j / 4 - i - 1) * 4294967296) * 4294967296 ^ i by simp only [Nat.mul_assoc, Nat.mul_left_comm, Nat.mul_comm]]
      rw [Nat.add_mul_div_right _ _ (Nat.pow_pos (by decide)), Nat.add_mul_mod_self_right]
    · have hle : 4294967296 ^ (j / 4 + 1) ≤ 4294967296 ^ i := Nat.pow_le_pow_right (by decide) (by omega)
      have h1 : N + x * 256 ^ j < 4294967296 ^ i := by
        refine Nat.lt_of_lt_of_le ?_ hle
        have : (256 : Nat) ^ (j + 1) ≤ 4294967296 ^ (j / 4 + 1) := by
          rw [e256, eW, ← Nat.pow_mul, ← Nat.pow_mul]; exact Nat.pow_le_pow_right (by decide) (by omega)
        refine Nat.lt_of_lt_of_le ?_ this
        rw [Nat.pow_succ]
        have : x * 256 ^ j ≤ 255 * 256 ^ j := Nat.mul_le_mul_right _ (by omega)
        omega
      rw [Nat.div_eq_of_lt h1, Nat.div_eq_of_lt (by omega)]
end Go.Ev

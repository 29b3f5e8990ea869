/-
  Machine numbers as plain numbers: what the small operations say, by remainders; digits that are put together bit by bit.
-/
import Derived.Test.YtaceeoghjgggjaaBunC
set_option linter.unusedSimpArgs false
set_option linter.unusedVariables false
namespace Go.Ev
theorem n_add (a b : Nat) : (a : Int) + (b : Int) = ((a + b : Nat) : Int) := (Int.natCast_add a b).symm
theorem n_mul (a b : Nat) : (a : Int) * (b : Int) = ((a * b : Nat) : Int) := (Int.natCast_mul a b).symm
theorem n_ladd (n a : Nat) : (no_index (@OfNat.ofNat Int n instOfNat)) + (a : Int) = ((n + a : Nat) : Int) := (Int.natCast_add n a).symm
theorem n_addl (n a : Nat) : (a : Int) + (no_index (@OfNat.ofNat Int n instOfNat)) = ((a + n : Nat) : Int) := (Int.natCast_add a n).symm
theorem n_lmul (n a : Nat) : (no_index (@OfNat.ofNat Int n instOfNat)) * (a : Int) = ((n * a : Nat) : Int) := (Int.natCast_mul n a).symm
theorem n_mull (n a : Nat) : (a : Int) * (no_index (@OfNat.ofNat Int n instOfNat)) = ((a * n : Nat) : Int) := (Int.natCast_mul a n).symm
theorem n_fdiv (a b : Nat) : Int.fdiv (a : Int) (b : Int) = ((a / b : Nat) : Int) := by
  rw [Int.fdiv_eq_ediv_of_nonneg _ (Int.natCast_nonneg _)]; rfl
theorem n_fdivl (a n : Nat) : Int.fdiv (a : Int) (no_index (@OfNat.ofNat Int n instOfNat)) = ((a / n : Nat) : Int) := n_fdiv a n
theorem n_tdiv (a n : Nat) : Int.tdiv (a : Int) (no_index (@OfNat.ofNat Int n instOfNat)) = ((a / n : Nat) : Int) := rfl
theorem n_tmod (a n : Nat) : Int.tmod (a : Int) (no_index (@OfNat.ofNat Int n instOfNat)) = ((a % n : Nat) : Int) := rfl
theorem n_w64 (a : Nat) : IntKind.u64.wrap (a : Int) = ((a % 18446744073709551616 : Nat) : Int) := by rw [wrap_u64]; omega
theorem n_w32 (a : Nat) : IntKind.u32.wrap (a : Int) = ((a % 4294967296 : Nat) : Int) := by rw [wrap_u32]; omega
theorem n_w16 (a : Nat) : IntKind.u16.wrap (a : Int) = ((a % 65536 : Nat) : Int) := by rw [wrap_u16]; omega
theorem n_w8 (a : Nat) : IntKind.u8.wrap (a : Int) = ((a % 256 : Nat) : Int) := by rw [wrap_u8]; omega
theorem n_sub64 (a b : Nat) : IntKind.u64.wrap ((a : Int) - (b : Int)) = (((a + (18446744073709551616 - b % 18446744073709551616)) % 18446744073709551616 : Nat) : Int) := by rw [wrap_u64]; omega
theorem n_lsub64 (n b : Nat) : IntKind.u64.wrap ((no_index (@OfNat.ofNat Int n instOfNat)) - (b : Int)) = (((n + (18446744073709551616 - b % 18446744073709551616)) % 18446744073709551616 : Nat) : Int) := n_sub64 n b
theorem n_subl64 (a n : Nat) : IntKind.u64.wrap ((a : Int) - (no_index (@OfNat.ofNat Int n instOfNat))) = (((a + (18446744073709551616 - n % 18446744073709551616)) % 18446744073709551616 : Nat) : Int) := n_sub64 a n
theorem ofInt_nat' (w a : Nat) : BitVec.ofInt w (a : Int) = BitVec.ofNat w a := by simp
theorem n_and (k : IntKind) (hk : k.signed = false) (a b : Nat) : bitsOp .and k (a : Int) (b : Int) = (((a % 2 ^ k.bits) &&& (b % 2 ^ k.bits) : Nat) : Int) := by
  simp only [bitsOp, ofInt_nat']
  rw [BitVec.toNat_and, BitVec.toNat_ofNat, BitVec.toNat_ofNat, wrap_small hk (Nat.and_lt_two_pow _ (Nat.mod_lt _ (Nat.pow_pos (by decide))))]
theorem n_or (k : IntKind) (hk : k.signed = false) (a b : Nat) : bitsOp .or k (a : Int) (b : Int) = (((a % 2 ^ k.bits) ||| (b % 2 ^ k.bits) : Nat) : Int) := by
  simp only [bitsOp, ofInt_nat']
  rw [BitVec.toNat_or, BitVec.toNat_ofNat, BitVec.toNat_ofNat, wrap_small hk (Nat.or_lt_two_pow (Nat.mod_lt _ (Nat.pow_pos (by decide))) (Nat.mod_lt _ (Nat.pow_pos (by decide))))]
theorem n_xor (k : IntKind) (hk : k.signed = false) (a b : Nat) : bitsOp .xor k (a : Int) (b : Int) = (((a % 2 ^ k.bits) ^^^ (b % 2 ^ k.bits) : Nat) : Int) := by
  simp only [bitsOp, ofInt_nat']
  rw [BitVec.toNat_xor, BitVec.toNat_ofNat, BitVec.toNat_ofNat, wrap_small hk (Nat.xor_lt_two_pow (Nat.mod_lt _ (Nat.pow_pos (by decide))) (Nat.mod_lt _ (Nat.pow_pos (by decide))))]
/-- The low bits. -/
theorem n_mask (k : IntKind) (hk : k.signed = false) (w a : Nat) (hw : w ≤ k.bits) : bitsOp .and k (a : Int) ((2 ^ w - 1 : Nat) : Int) = ((a % 2 ^ w : Nat) : Int) := by
  have h1 : (2 : Nat) ^ w ≤ 2 ^ k.bits := Nat.pow_le_pow_right (by decide) hw
  have h0 : 0 < (2 : Nat) ^ w := Nat.pow_pos (by decide)
  rw [n_and k hk, Nat.mod_eq_of_lt (a := 2 ^ w - 1) (by omega), Nat.and_two_pow_sub_one_eq_mod, Nat.mod_mod_of_dvd _ (Nat.pow_dvd_pow 2 hw)]
theorem n_m32 (a : Nat) : bitsOp .and .u64 (a : Int) 4294967295 = ((a % 4294967296 : Nat) : Int) := n_mask .u64 rfl 32 a (by decide)
theorem n_m51 (a : Nat) : bitsOp .and .u64 (a : Int) 2251799813685247 = ((a % 2251799813685248 : Nat) : Int) := n_mask .u64 rfl 51 a (by decide)
theorem n_m1 (a : Nat) : bitsOp .and .u64 (a : Int) 1 = ((a % 2 : Nat) : Int) := n_mask .u64 rfl 1 a (by decide)
theorem n_m1b (a : Nat) : bitsOp .and .u8 (a : Int) 1 = ((a % 2 : Nat) : Int) := n_mask .u8 rfl 1 a (by decide)
theorem n_m7b (a : Nat) : bitsOp .and .u8 (a : Int) 127 = ((a % 128 : Nat) : Int) := n_mask .u8 rfl 7 a (by decide)
theorem p64 {n m : Nat} (h : 2 ^ min n IntKind.u64.bits = m) : (2 : Int) ^ min n IntKind.u64.bits = (m : Int) := by rw [← h]; simp
theorem p64_32 : (2 : Int) ^ min 32 IntKind.u64.bits = ((4294967296 : Nat) : Int) := rfl
theorem p64_51 : (2 : Int) ^ min 51 IntKind.u64.bits = ((2251799813685248 : Nat) : Int) := rfl
theorem p64_13 : (2 : Int) ^ min 13 IntKind.u64.bits = ((8192 : Nat) : Int) := rfl
theorem p8_7 : (2 : Int) ^ min 7 IntKind.u8.bits = ((128 : Nat) : Int) := rfl
/-- Bits that lie apart are put together. -/
theorem or_apart {a b n : Nat} (h : a < 2 ^ n) : (b * 2 ^ n) ||| a = b * 2 ^ n + a := by
  rw [Nat.mul_comm, Nat.two_pow_add_eq_or_of_lt h]

theorem ns_nil (k : IntKind) : ns k [] = [] := rfl
theorem ns_cons (k : IntKind) (x : Nat) (r : List Nat) : ns k (x :: r) = .int k (x : Nat) :: ns k r := rfl

/-- A few bits more are put to a row of digits. -/
theorem dig_put {w m q s y M : Nat} (hq : q < m) (hs : s < w) (hM : M < 2 ^ (w * q + s)) (hy : y * 2 ^ s < 2 ^ w) :
    (dig (2 ^ w) m M).set q ((dig (2 ^ w) m M).getD q 0 ||| y * 2 ^ s) = dig (2 ^ w) m (M + y * 2 ^ (w * q + s)) := by
  have hB : (2 ^ w) ^ q = 2 ^ (w * q) := by rw [← Nat.pow_mul]
  have hpos : 0 < (2 ^ w : Nat) ^ q := Nat.pow_pos (Nat.pow_pos (by decide))
  have hpow : (2 : Nat) ^ (w * q + s) = 2 ^ s * (2 ^ w) ^ q := by rw [Nat.pow_add, hB, Nat.mul_comm]
  have hdiv : M / (2 ^ w) ^ q < 2 ^ s := by rw [Nat.div_lt_iff_lt_mul hpos, ← hpow]; exact hM
  have hsw : (2 : Nat) ^ s ≤ 2 ^ w := Nat.pow_le_pow_right (by decide) (by omega)
  have hsum : M / (2 ^ w) ^ q + y * 2 ^ s < 2 ^ w := by
    have h1 : (2 : Nat) ^ w = 2 ^ (w - s) * 2 ^ s := by rw [← Nat.pow_add]; congr 1; omega
    have h2 : y < 2 ^ (w - s) := by
      rw [h1] at hy
      exact Nat.lt_of_mul_lt_mul_right hy
    have h3 : (y + 1) * 2 ^ s ≤ 2 ^ (w - s) * 2 ^ s := Nat.mul_le_mul_right _ h2
    rw [Nat.add_mul, Nat.one_mul, ← h1] at h3
    omega
  apply dig_ext (by rw [List.length_set, dig_len])
  intro i hi
  by_cases hqi : i = q
  · subst hqi
    rw [List.getElem?_set_self (by rw [dig_len]; exact hi), List.getD_eq_getElem?_getD, dig_get hi]
    rw [hpow, ← Nat.mul_assoc, Nat.add_mul_div_right _ _ hpos]
    simp only [Option.getD_some]
    rw [Nat.mod_eq_of_lt (a := M / _) (by omega), Nat.mod_eq_of_lt hsum, Nat.or_comm, or_apart hdiv, Nat.add_comm]
  · rw [List.getElem?_set_ne (Ne.symm hqi), dig_get hi]
    congr 1
    by_cases hlt : i < q
    · have h1 : (2 ^ w : Nat) ^ q = 2 ^ w * (2 ^ w) ^ (q - i - 1) * (2 ^ w) ^ i := by
        rw [Nat.mul_assoc, ← Nat.pow_add, ← Nat.pow_add_one']; congr 1; omega
      rw [hpow, h1]
      rw [show y * (2 ^ s * (2 ^ w * (2 ^ w) ^ (q - i - 1) * (2 ^ w) ^ i)) = (y * 2 ^ s * (2 ^ w) ^ (q - i - 1) * 2 ^ w) * (2 ^ w) ^ i by simp only [Nat.mul_assoc, Nat.mul_left_comm, Nat.mul_comm]]
      rw [Nat.add_mul_div_right _ _ (Nat.pow_pos (Nat.pow_pos (by decide))), Nat.add_mul_mod_self_right]
    · have h1 : M + y * 2 ^ (w * q + s) < (2 ^ w) ^ i := by
        have h2 : (2 ^ w : Nat) ^ (q + 1) ≤ (2 ^ w) ^ i := Nat.pow_le_pow_right (Nat.pow_pos (by decide)) (by omega)
        refine Nat.lt_of_lt_of_le ?_ h2
        have h3 : (M / (2 ^ w) ^ q + y * 2 ^ s + 1) * (2 ^ w) ^ q ≤ 2 ^ w * (2 ^ w) ^ q := Nat.mul_le_mul_right _ hsum
        have h4 := Nat.div_add_mod M ((2 ^ w) ^ q)
        have h5 := Nat.mod_lt M hpos
        rw [Nat.pow_succ, Nat.mul_comm ((2 ^ w) ^ q)]
        refine Nat.lt_of_lt_of_le ?_ h3
        rw [hpow, ← Nat.mul_assoc, Nat.add_mul, Nat.add_mul, Nat.one_mul, Nat.mul_comm (M / (2 ^ w) ^ q)]
        omega
      rw [Nat.div_eq_of_lt h1, Nat.div_eq_of_lt (by omega)]
/-- What a call by value answers; whatever lies behind it. -/
def evVal (T : Tab) (f : Nat) (args : List Value) : Option Value := (evFun T f args []).map (·.1)
theorem evVal_of {T : Tab} {f : Nat} {args : List Value} {v : Value} {l : List Ob} {M : List Nat} (h : evFun T f args [] = some (v, l, M)) : evVal T f args = some v := by simp [evVal, h]
theorem evVal_ex {T : Tab} {f : Nat} {args : List Value} {v : Value} (h : ∃ l, evFun T f args [] = some (v, l, [])) : evVal T f args = some v := by
  obtain ⟨l, h⟩ := h
  exact evVal_of h
theorem fs_callW {T : Tab} {b : Nat} {q : Bool} {f : Nat} {xs : List Operand} {d : Option Nat} {r : List AOper} {e : Env} {H : List Ob} {l : List Nat} : steps T b q (⟨d, .call f xs true, none⟩ :: r) ⟨e, H, l⟩ = (opds e xs).bind fun args => gate (args.all rf = true) ((evVal T f args).bind fun v => gate (rf v = true) (steps T b q r ⟨e.put d v, H, l⟩)) := by
  rw [fs_callV]
  cases opds e xs with
  | none => rfl
  | some args =>
    simp only [Option.bind_some, evVal]
    cases evFun T f args [] <;> rfl
end Go.Ev

/-
  What the program's small operations on machine numbers say of numbers.
-/
import Derived.Test.YtaceeoghjgggjaaEvRun
set_option linter.unusedSimpArgs false
set_option linter.unusedVariables false
namespace Go.Ev
theorem wrap_u32 (x : Int) : IntKind.u32.wrap x = x % 4294967296 := rfl
theorem wrap_u64 (x : Int) : IntKind.u64.wrap x = x % 18446744073709551616 := rfl
theorem wrap_u8 (x : Int) : IntKind.u8.wrap x = x % 256 := rfl
theorem wrap_u16 (x : Int) : IntKind.u16.wrap x = x % 65536 := rfl
theorem wrapI64_small {x : Int} (h : -9223372036854775808 ≤ x) (k : x < 9223372036854775808) : IntKind.i64.wrap x = x := by
  simp [IntKind.wrap, IntKind.signed, IntKind.bits]
  omega

theorem wrap_small {k : IntKind} (hk : k.signed = false) {n : Nat} (h : n < 2 ^ k.bits) : k.wrap (n : Int) = n := by
  simp only [IntKind.wrap, hk, Bool.false_and, if_false, Bool.false_eq_true]
  rw [Int.emod_eq_of_lt (Int.natCast_nonneg _)]
  exact_mod_cast h

theorem ofInt_nat {w a : Nat} : BitVec.ofInt w (a : Int) = BitVec.ofNat w a := by simp

theorem bits_and {k : IntKind} (hk : k.signed = false) {a b : Nat} (ha : a < 2 ^ k.bits) (hb : b < 2 ^ k.bits) : bitsOp .and k a b = ((a &&& b : Nat) : Int) := by
  simp only [bitsOp, ofInt_nat]
  rw [BitVec.toNat_and, BitVec.toNat_ofNat, BitVec.toNat_ofNat, Nat.mod_eq_of_lt ha, Nat.mod_eq_of_lt hb, wrap_small hk (Nat.and_lt_two_pow _ hb)]
theorem bits_or {k : IntKind} (hk : k.signed = false) {a b : Nat} (ha : a < 2 ^ k.bits) (hb : b < 2 ^ k.bits) : bitsOp .or k a b = ((a ||| b : Nat) : Int) := by
  simp only [bitsOp, ofInt_nat]
  rw [BitVec.toNat_or, BitVec.toNat_ofNat, BitVec.toNat_ofNat, Nat.mod_eq_of_lt ha, Nat.mod_eq_of_lt hb, wrap_small hk (Nat.or_lt_two_pow ha hb)]
theorem bits_xor {k : IntKind} (hk : k.signed = false) {a b : Nat} (ha : a < 2 ^ k.bits) (hb : b < 2 ^ k.bits) : bitsOp .xor k a b = ((a ^^^ b : Nat) : Int) := by
  simp only [bitsOp, ofInt_nat]
  rw [BitVec.toNat_xor, BitVec.toNat_ofNat, BitVec.toNat_ofNat, Nat.mod_eq_of_lt ha, Nat.mod_eq_of_lt hb, wrap_small hk (Nat.xor_lt_two_pow ha hb)]

/-! Bits of 32. -/
theorem bits32 (op : BinOp) (a b : Int) : (bitsOp .and .u32 a b = ((BitVec.ofInt 32 a &&& BitVec.ofInt 32 b).toNat : Int)) ∧ (bitsOp .or .u32 a b = ((BitVec.ofInt 32 a ||| BitVec.ofInt 32 b).toNat : Int)) ∧ (bitsOp .xor .u32 a b = ((BitVec.ofInt 32 a ^^^ BitVec.ofInt 32 b).toNat : Int)) :=
  ⟨wrap_small (k := .u32) rfl (BitVec.isLt _), wrap_small (k := .u32) rfl (BitVec.isLt _), wrap_small (k := .u32) rfl (BitVec.isLt _)⟩
theorem ofInt_toNat32 (v : BitVec 32) : BitVec.ofInt 32 (v.toNat : Int) = v := by simp

theorem top32 (v : BitVec 32) : ((v.toNat : Int).fdiv (2 ^ 31)) = if v.msb then 1 else 0 := by
  have h := v.isLt
  rw [BitVec.msb_eq_decide]
  have e : ((v.toNat : Int).fdiv (2 ^ 31)) = ((v.toNat / 2147483648 : Nat) : Int) := by
    rw [Int.fdiv_eq_ediv_of_nonneg _ (by decide)]; rfl
  rw [e]
  by_cases hv : 2 ^ (32 - 1) ≤ v.toNat
  · simp only [hv, decide_true, if_true]; omega
  · simp only [hv, decide_false, Bool.false_eq_true, if_false]; omega

theorem msb_ofInt32 (x : Int) : (BitVec.ofInt 32 x).msb = decide (2147483648 ≤ x % 4294967296) := by
  rw [BitVec.msb_eq_decide, BitVec.toNat_ofInt]
  by_cases h : 2147483648 ≤ x % 4294967296
  · simp only [h, decide_true, decide_eq_true_eq]; omega
  · simp only [h, decide_false, decide_eq_false_iff_not]; omega

/-- The borrow of a difference of three. -/
theorem borrow32 {x y c : Nat} (hx : x < 4294967296) (hy : y < 4294967296) (hc : c ≤ 1) :
    (bitsOp .or .u32 (bitsOp .and .u32 (bitsOp .xor .u32 IntKind.u32.max x) y) (bitsOp .and .u32 (bitsOp .xor .u32 IntKind.u32.max (bitsOp .xor .u32 x y)) (((x : Int) - y - c) % 4294967296))).fdiv (2 ^ 31) = if x < y + c then 1 else 0 := by
  have hm : BitVec.ofInt 32 IntKind.u32.max = BitVec.allOnes 32 := by decide
  simp only [(bits32 .and _ _).1, (bits32 .and _ _).2.1, (bits32 .and _ _).2.2, ofInt_toNat32, top32, hm]
  simp only [BitVec.msb_or, BitVec.msb_and, BitVec.msb_xor, msb_ofInt32, BitVec.msb_allOnes (by decide : 0 < 32)]
  by_cases a : (2147483648 : Int) ≤ (x : Int) % 4294967296 <;> by_cases b : (2147483648 : Int) ≤ (y : Int) % 4294967296 <;> by_cases d : (2147483648 : Int) ≤ ((x : Int) - y - c) % 4294967296 % 4294967296 <;> simp [a, b, d] <;> omega

/-- The carry of a sum of three. -/
theorem carry32 {x y c : Nat} (hx : x < 4294967296) (hy : y < 4294967296) (hc : c ≤ 1) : ((x : Int) + y + c).fdiv (2 ^ 32) = if 4294967296 ≤ x + y + c then 1 else 0 := by
  rw [Int.fdiv_eq_ediv_of_nonneg _ (by decide)]
  by_cases h : 4294967296 ≤ x + y + c <;> simp [h] <;> omega
end Go.Ev

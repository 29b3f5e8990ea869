/- What the law leans on, part 4. -/
import Derived.Test.YtaceeoghjgggjaaPOr3
set_option linter.unusedSimpArgs false
set_option linter.unusedVariables false
set_option linter.unusedSimpArgs false
set_option linter.unusedVariables false
namespace Go.Ev.Ytaceeoghjgggjaa
open Go Go.Ev
attribute [local congr] bind_congr2 ite_congr2 qElse_congr gate_congr guardV_congr
set_option maxRecDepth 100000
theorem dm (a b : Nat) : ∃ r, a = b * (a / b) + r ∧ a % b = r ∧ (0 < b → r < b) := ⟨a % b, (Nat.div_add_mod a b).symm, rfl, fun h => Nat.mod_lt _ h⟩
theorem car_twice {x0 x1 x2 x3 x4 : Nat} (h0 : x0 < 9223372036854775808) (h1 : x1 < 9223372036854775808) (h2 : x2 < 9223372036854775808) (h3 : x3 < 9223372036854775808) (h4 : x4 < 9223372036854775808) :
    ∃ y0 y1 y2 y3 y4 z0 z1 z2 z3 z4, carL x0 x1 x2 x3 x4 = [y0, y1, y2, y3, y4] ∧ y0 < 9223372036854775808 ∧ y1 < 9223372036854775808 ∧ y2 < 9223372036854775808 ∧ y3 < 9223372036854775808 ∧ y4 < 9223372036854775808 ∧
      carL y0 y1 y2 y3 y4 = [z0, z1, z2, z3, z4] ∧ z0 < 2251799813685248 + 19 ∧ z1 < 2251799813685248 ∧ z2 < 2251799813685248 ∧ z3 < 2251799813685248 ∧ z4 < 2251799813685248 ∧ (∃ k, v51 [z0, z1, z2, z3, z4] + k * Go.Fp.P = v51 [x0, x1, x2, x3, x4]) := by
  have key : ∀ y0 y1 y2 y3 y4 : Nat, y0 < 2251799813685248 + 19 * 8192 → y1 < 2251799813685248 → y2 < 2251799813685248 → y3 < 2251799813685248 → y4 < 2251799813685248 → carL x0 x1 x2 x3 x4 = [y0, y1, y2, y3, y4] →
      ∃ z0 z1 z2 z3 z4, carL y0 y1 y2 y3 y4 = [z0, z1, z2, z3, z4] ∧ z0 < 2251799813685248 + 19 ∧ z1 < 2251799813685248 ∧ z2 < 2251799813685248 ∧ z3 < 2251799813685248 ∧ z4 < 2251799813685248 ∧ (∃ k, v51 [z0, z1, z2, z3, z4] + k * Go.Fp.P = v51 [x0, x1, x2, x3, x4]) := by
    intro y0 y1 y2 y3 y4 b0 b1 b2 b3 b4 hy
    refine ⟨_, _, _, _, _, rfl, ?_, Nat.mod_lt _ (by decide), Nat.mod_lt _ (by decide), Nat.mod_lt _ (by decide), Nat.mod_lt _ (by decide), ?_⟩
    · have c0 : y0 / 2251799813685248 ≤ 1 := by omega
      have c1 : (y1 + y0 / 2251799813685248) / 2251799813685248 ≤ 1 := by omega
      have c2 : (y2 + (y1 + y0 / 2251799813685248) / 2251799813685248) / 2251799813685248 ≤ 1 := by omega
      have c3 : (y3 + (y2 + (y1 + y0 / 2251799813685248) / 2251799813685248) / 2251799813685248) / 2251799813685248 ≤ 1 := by omega
      generalize (y3 + (y2 + (y1 + y0 / 2251799813685248) / 2251799813685248) / 2251799813685248) / 2251799813685248 = c at *
      rcases Nat.lt_or_ge y0 2251799813685248 with h | h
      · -- nothing carries: each part is below
        have d0 : y0 / 2251799813685248 = 0 := by omega
        have c4 : (y4 + c) / 2251799813685248 ≤ 1 := by omega
        have := Nat.mod_lt y0 (by decide : 0 < 2251799813685248)
        omega
      · have c4 : (y4 + c) / 2251799813685248 ≤ 1 := by omega
        have := Nat.mod_lt y0 (by decide : 0 < 2251799813685248)
        omega
    · obtain ⟨k1, e1⟩ := carL_val (x0 := y0) (x1 := y1) (x2 := y2) (x3 := y3) (x4 := y4)
      obtain ⟨k2, e2⟩ := carL_val (x0 := x0) (x1 := x1) (x2 := x2) (x3 := x3) (x4 := x4)
      rw [hy] at e2
      refine ⟨k1 + k2, ?_⟩
      rw [Nat.add_mul, ← Nat.add_assoc, ← e2, ← e1]
      rfl
  have c0 : x0 / 2251799813685248 < 8192 := by omega
  have c1 : (x1 + x0 / 2251799813685248) / 2251799813685248 < 8192 := by omega
  have c2 : (x2 + (x1 + x0 / 2251799813685248) / 2251799813685248) / 2251799813685248 < 8192 := by omega
  have c3 : (x3 + (x2 + (x1 + x0 / 2251799813685248) / 2251799813685248) / 2251799813685248) / 2251799813685248 < 8192 := by omega
  have c4 : (x4 + (x3 + (x2 + (x1 + x0 / 2251799813685248) / 2251799813685248) / 2251799813685248) / 2251799813685248) / 2251799813685248 < 8192 := by omega
  have m0 := Nat.mod_lt x0 (by decide : 0 < 2251799813685248)
  have m1 := Nat.mod_lt (x1 + x0 / 2251799813685248) (by decide : 0 < 2251799813685248)
  have m2 := Nat.mod_lt (x2 + (x1 + x0 / 2251799813685248) / 2251799813685248) (by decide : 0 < 2251799813685248)
  have m3 := Nat.mod_lt (x3 + (x2 + (x1 + x0 / 2251799813685248) / 2251799813685248) / 2251799813685248) (by decide : 0 < 2251799813685248)
  have m4 := Nat.mod_lt (x4 + (x3 + (x2 + (x1 + x0 / 2251799813685248) / 2251799813685248) / 2251799813685248) / 2251799813685248) (by decide : 0 < 2251799813685248)
  obtain ⟨z0, z1, z2, z3, z4, g1, g2⟩ := key _ _ _ _ _ (by
    generalize (x4 + (x3 + (x2 + (x1 + x0 / 2251799813685248) / 2251799813685248) / 2251799813685248) / 2251799813685248) / 2251799813685248 = c at *
    generalize x0 % 2251799813685248 = r at *
    show r + 19 * c < _
    omega) m1 m2 m3 m4 rfl
  refine ⟨_, _, _, _, _, z0, z1, z2, z3, z4, rfl, ?_, Nat.lt_trans m1 (by decide), Nat.lt_trans m2 (by decide), Nat.lt_trans m3 (by decide), Nat.lt_trans m4 (by decide), g1, g2⟩
  generalize (x4 + (x3 + (x2 + (x1 + x0 / 2251799813685248) / 2251799813685248) / 2251799813685248) / 2251799813685248) / 2251799813685248 = c at *
  generalize x0 % 2251799813685248 = r at *
  show r + 19 * c < _
  omega
def topC (z0 z1 z2 z3 z4 : Nat) : Nat := (z4 + (z3 + (z2 + (z1 + (z0 + 19) / 2251799813685248) / 2251799813685248) / 2251799813685248) / 2251799813685248) / 2251799813685248
def finL (z0 z1 z2 z3 z4 : Nat) : List Nat :=
  let u0 := z0 / 2251799813685248
  let u1 := (z1 + u0) / 2251799813685248
  let u2 := (z2 + u1) / 2251799813685248
  let u3 := (z3 + u2) / 2251799813685248
  [z0 % 2251799813685248, (z1 + u0) % 2251799813685248, (z2 + u1) % 2251799813685248, (z3 + u2) % 2251799813685248, (z4 + u3) % 2251799813685248]
theorem fin_val {z0 z1 z2 z3 z4 : Nat} (h0 : z0 < 2251799813685248 + 19) (h1 : z1 < 2251799813685248) (h2 : z2 < 2251799813685248) (h3 : z3 < 2251799813685248) (h4 : z4 < 2251799813685248) :
    topC z0 z1 z2 z3 z4 ≤ 1 ∧ finL (z0 + 19 * topC z0 z1 z2 z3 z4) z1 z2 z3 z4 = dig (2 ^ 51) 5 (v51 [z0, z1, z2, z3, z4] % Go.Fp.P) := by
  have hc : topC z0 z1 z2 z3 z4 ≤ 1 ∧ ((topC z0 z1 z2 z3 z4 = 0 ∧ v51 [z0, z1, z2, z3, z4] < Go.Fp.P) ∨ (topC z0 z1 z2 z3 z4 = 1 ∧ Go.Fp.P ≤ v51 [z0, z1, z2, z3, z4])) := by
    simp only [topC, v51, num, Go.Fp.P_eq]
    obtain ⟨r0, e0, -, l0⟩ := dm (z0 + 19) 2251799813685248
    generalize (z0 + 19) / 2251799813685248 = t0 at *
    obtain ⟨r1, e1, -, l1⟩ := dm (z1 + t0) 2251799813685248
    generalize (z1 + t0) / 2251799813685248 = t1 at *
    obtain ⟨r2, e2, -, l2⟩ := dm (z2 + t1) 2251799813685248
    generalize (z2 + t1) / 2251799813685248 = t2 at *
    obtain ⟨r3, e3, -, l3⟩ := dm (z3 + t2) 2251799813685248
    generalize (z3 + t2) / 2251799813685248 = t3 at *
    obtain ⟨r4, e4, -, l4⟩ := dm (z4 + t3) 2251799813685248
    generalize (z4 + t3) / 2251799813685248 = t4 at *
    have l0 := l0 (by decide)
    have l1 := l1 (by decide)
    have l2 := l2 (by decide)
    have l3 := l3 (by decide)
    have l4 := l4 (by decide)
    omega
  have hP := Go.Fp.P_eq
  obtain ⟨hc1, hc2⟩ := hc
  refine ⟨hc1, ?_⟩
  generalize topC z0 z1 z2 z3 z4 = c at *
  have hlt : ∀ x ∈ finL (z0 + 19 * c) z1 z2 z3 z4, x < 2251799813685248 := by
    intro x hx
    simp only [finL, List.mem_cons, List.not_mem_nil, or_false] at hx
    rcases hx with h | h | h | h | h <;> (rw [h]; exact Nat.mod_lt _ (by decide))
  have hnum : num 2251799813685248 (finL (z0 + 19 * c) z1 z2 z3 z4) = v51 [z0, z1, z2, z3, z4] % Go.Fp.P := by
    have hV : v51 [z0, z1, z2, z3, z4] % Go.Fp.P = v51 [z0, z1, z2, z3, z4] - c * Go.Fp.P := by
      rcases hc2 with ⟨g1, g2⟩ | ⟨g1, g2⟩
      · rw [Nat.mod_eq_of_lt g2, g1]; omega
      · have g3 : v51 [z0, z1, z2, z3, z4] < Go.Fp.P + Go.Fp.P := by
          simp only [v51, num, Go.Fp.P_eq] at *
          omega
        rw [g1, Nat.one_mul, Nat.mod_eq_sub_mod g2, Nat.mod_eq_of_lt (by omega)]
    rw [hV]
    simp only [finL, v51, num, Go.Fp.P_eq] at hc2 ⊢
    obtain ⟨r0, e0, f0, l0⟩ := dm (z0 + 19 * c) 2251799813685248
    rw [f0]
    generalize (z0 + 19 * c) / 2251799813685248 = t0 at *
    obtain ⟨r1, e1, f1, l1⟩ := dm (z1 + t0) 2251799813685248
    rw [f1]
    generalize (z1 + t0) / 2251799813685248 = t1 at *
    obtain ⟨r2, e2, f2, l2⟩ := dm (z2 + t1) 2251799813685248
    rw [f2]
    generalize (z2 + t1) / 2251799813685248 = t2 at *
    obtain ⟨r3, e3, f3, l3⟩ := dm (z3 + t2) 2251799813685248
    rw [f3]
    generalize (z3 + t2) / 2251799813685248 = t3 at *
    obtain ⟨r4, e4, f4, l4⟩ := dm (z4 + t3) 2251799813685248
    rw [f4]
    generalize (z4 + t3) / 2251799813685248 = t4 at *
    have l0 := l0 (by decide)
    have l1 := l1 (by decide)
    have l2 := l2 (by decide)
    have l3 := l3 (by decide)
    have l4 := l4 (by decide)
    rcases hc2 with ⟨g1, g2⟩ | ⟨g1, g2⟩ <;> subst g1 <;> omega
  have h5 := dig_num (B := 2251799813685248) (by decide) hlt
  rw [hnum] at h5
  exact h5.symm
end Go.Ev.Ytaceeoghjgggjaa
set_option linter.unusedSimpArgs false
set_option linter.unusedVariables false
namespace Go.Ev.Ytaceeoghjgggjaa
open Go Go.Ev
attribute [local congr] bind_congr2 ite_congr2 qElse_congr gate_congr guardV_congr
set_option maxRecDepth 100000
def byX (V i : Nat) : List Nat := dig (2 ^ 8) 32 (V % 2 ^ i)
def byeI (x k : List Nat) (R : Ob) (i : Nat) (ex : Env) : St := ⟨[(1, .pointer (some ⟨0, 0, none⟩)), (2, .pointer (some ⟨1, 0, none⟩)), (6, .pointer (some ⟨2, 0, none⟩)), (54, .int .i64 i)] ++ ex, [⟨ns .u64 x, true, true, true, 1⟩, R, ⟨u8s k, true, true, true, 1⟩], []⟩
theorem bye_body {V : Nat} {R : Ob} {i : Nat} (hi : i < 255) :
    evCode T 0 a57_l0 (byeI (dig (2 ^ 51) 5 V) (byX V i) R i []) = some (.normal, byeI (dig (2 ^ 51) 5 V) (byX V (i + 1)) R (i + 1) []) := by
  obtain ⟨b, hb⟩ : ∃ b, (dig (2 ^ 51) 5 V)[i / 51]? = some b := ⟨_, List.getElem?_eq_getElem (by rw [dig_len]; omega)⟩
  have hbv : V / (2 ^ 51) ^ (i / 51) % 2 ^ 51 = b := by rw [dig_get (by omega)] at hb; exact Option.some.inj hb
  have hbc := ns_get (k := .u64) hb
  have hlen : (byX V i).length = 32 := dig_len _ _ _
  obtain ⟨y, hy⟩ : ∃ b, (byX V i)[i / 8]? = some b := ⟨_, List.getElem?_eq_getElem (by omega)⟩
  have hyc := u8s_get hy
  have hy' : y < 2 ^ 8 := dig_lt (by decide) (List.mem_of_getElem? hy)
  have hbit : b / 2 ^ (i % 51) % 2 = V / 2 ^ i % 2 := by
    rw [← hbv, bitOf (Nat.mod_lt _ (by decide)), Nat.div_add_mod]
  have hsm : (2 : Nat) ^ (i % 8) ≤ 2 ^ 7 := Nat.pow_le_pow_right (by decide) (by have := Nat.mod_lt i (by decide : 0 < 8); omega)
  have hbl := bit_lt V i
  have hprod : V / 2 ^ i % 2 * 2 ^ (i % 8) ≤ 1 * 2 ^ 7 := Nat.mul_le_mul (by omega) hsm
  have hput := dig_put (w := 8) (m := 32) (q := i / 8) (s := i % 8) (y := V / 2 ^ i % 2) (M := V % 2 ^ i) (by omega) (Nat.mod_lt _ (by decide)) (by rw [Nat.div_add_mod]; exact Nat.mod_lt _ (Nat.pow_pos (by decide))) (by omega)
  rw [Nat.div_add_mod, bit_step] at hput
  have hgd : (dig (2 ^ 8) 32 (V % 2 ^ i)).getD (i / 8) 0 = y := by rw [List.getD_eq_getElem?_getD]; unfold byX at hy; rw [hy]; rfl
  rw [hgd] at hput
  have hset := u8s_set (byX V i) (i / 8) (y ||| V / 2 ^ i % 2 * 2 ^ (i % 8))
  rw [show (byX V i).set (i / 8) (y ||| V / 2 ^ i % 2 * 2 ^ (i % 8)) = byX V (i + 1) from hput] at hset
  have s1 : (2 : Int) ^ min (i % 8) IntKind.u8.bits = ((2 ^ (i % 8) : Nat) : Int) := pow_min (Nat.le_of_lt (Nat.mod_lt _ (by decide)))
  have s2 : (2 : Int) ^ min (i % 51) IntKind.u64.bits = ((2 ^ (i % 51) : Nat) : Int) := pow_min (by have := Nat.mod_lt i (by decide : 0 < 51); exact Nat.le_trans (Nat.le_of_lt this) (by decide))
  have o1 : bitsOp .or .u8 (y : Int) ((V / 2 ^ i % 2 * 2 ^ (i % 8) : Nat) : Int) = ((y ||| V / 2 ^ i % 2 * 2 ^ (i % 8) : Nat) : Int) := bits_or rfl (by show _ < 256; omega) (by show _ < 256; omega)
  have n1 : (V / 2 ^ i % 2 * 2 ^ (i % 8)) % 256 = V / 2 ^ i % 2 * 2 ^ (i % 8) := by omega
  have n2 : (V / 2 ^ i % 2) % 256 = V / 2 ^ i % 2 := by omega
  have w1 : IntKind.i64.wrap ((i / 51 : Nat) : Int) = ((i / 51 : Nat) : Int) := wrap_nat (by omega)
  have w2 : IntKind.i64.wrap ((i / 8 : Nat) : Int) = ((i / 8 : Nat) : Int) := wrap_nat (by omega)
  have w3 : IntKind.i64.wrap ((i + 1 : Nat) : Int) = ((i + 1 : Nat) : Int) := wrap_nat (by omega)
  have e1 : ((i : Int) < 255) = True := eq_true (by omega)
  have e2 : (((i / 51 : Nat) : Int) < 5) = True := eq_true (by omega)
  have e3 : (((i / 8 : Nat) : Int) < 32) = True := eq_true (by omega)
  have e4 : (((i % 8 : Nat) : Int) < 0) = False := eq_false (by omega)
  have e5 : (((i % 51 : Nat) : Int) < 0) = False := eq_false (by omega)
  have e6 : i / 8 + 1 ≤ 32 := by omega
  simp only [byeI, a57_l0, envOf, evCode_skip, evCode_exit, evCode_seq, fs_blockS, fs_blockR, fs_blockC, fs_blockK, fs_blockB, evCode_ret, quiet, keep_nil, keep_cons, fs_cond, fs_region, fs_regionP, fs_nil, fs_guard, fs_move, fs_pick, fs_alloc, fs_box, fs_load, fs_store, fs_bin, fs_eqv, fs_isNil, fs_un, fs_conv, fs_convStr, fs_field, fs_index, fs_indexStr, fs_build, fs_buildSlice, fs_fieldAddr, fs_indexAddr, fs_indexSl, fs_sliceArr, fs_sliceSl, fs_sliceStr, fs_makeSlice, fs_extract, fs_mkIface, fs_mkFunc, fs_nilCheck, fs_s2ap, fs_len, fs_minmax, fs_s2b, fs_b2s, fs_append, fs_copy, fs_callW, fs_callR, fs_callv, opd_tmp, opd_const, opd_func, opds_nil, opds_cons, opdOpt_none, opdOpt_some, opdParts_nil, opdParts_cons, get_miss, vPick_t, vPick_f, vEq_agg, vEq_aggN, vEq_bool, vEq_boolN, vConv_int, vStr_s, vField_agg, vIndex_agg, vIndexStr_s, vFieldAddr_p, vIndexAddr_p, vIndexSl_s, vSliceArr_p, vSliceSl_s, vSliceSl_n, vSliceStr_s, vExtract_t, vNilCheck_p, vS2ap_s, vLen_s, vLen_str, vMin_i, vMax_i, vLoad_p, vStore_p, baseP_p, vB2s_s, vMake_i, vS2b_s, callee_f, liveAt_eq, storeAt_eq, partL_none, partL_some, natIn_none, natIn_int, bounds3_two, bin_add, bin_sub, bin_mul, bin_quo, bin_rem, bin_and, bin_or, bin_xor, bin_andNot, bin_eql, bin_neq, bin_lss, bin_leq, bin_gtr, bin_geq, bin_shl, bin_shr, bin_sadd, bin_seql, bin_sneq, un_not, un_neg, un_xor, after_some, put_some, put_none, res_nil, res_val, res_var, packed_one, packed_two, merge_nil, merge_ge, rf_tup2, rfIn_int, rfIn_bool, rfIn_u8s, rf_str, rfIn_str, ↓gate_true, gd_bool, gd_ut, gd_uf, ↓guardV_tt, ↓guardV_ff, ↓guardV_tf, ↓guardV_ft, ↓keepV_some, ↓qElse_some, ↓get_hit, ↓Option.bind_some, ↓if_true, ↓if_false, List.nil_append, List.cons_append, List.all_nil, List.all_cons, List.isEmpty_nil, reduceCtorEq, Bool.false_eq_true, Nat.reduceEqDiff, beq_self_eq_true, bne_self_eq_false, Bool.not_true, Bool.not_false, Int.natCast_nonneg, Nat.lt_irrefl, false_and, Int.reduceEq, rf_int, rf_bool, rf_tuple_ints, rf_u8s, arr_list, toList2, Bool.and_self, Nat.not_lt_zero, Nat.sub_zero, Nat.zero_le, Nat.le_add_right, cells_agg, cells_agg_size, cells_int, cells_int_size, okV_int, okV_bool, okV_str, okV_agg, okV_ptr, okV_slice, okV_func, okV_nilFunc, okV_iface, okV_nilIface, cells_bool, cells_bool_size, cells_ptr, cells_ptr_size, cells_slice, cells_slice_size, cells_str, cells_str_size, eq_self, wrapI64_small, Int.natCast_zero, Int.natCast_one, Int.cast_ofNat_Int, List.length_nil, List.length_cons, List.getElem?_cons_zero, List.getElem?_cons_succ, List.set_cons_zero, List.set_cons_succ, Nat.zero_add, Nat.add_zero, Nat.mul_one, Nat.zero_mul, Int.toNat_natCast, Int.toNat_zero, Int.lt_irrefl, Int.le_refl, Nat.le_refl, and_self, true_and, and_true, decide_true, decide_false, Int.reduceLE, Int.reduceLT, Int.reduceAdd, Int.reduceMul, Int.reduceSub, Int.reduceTDiv, Int.reduceTMod, Int.reduceNeg, Int.reduceToNat, Int.reduceGT, Int.reduceGE, Int.reducePow, Nat.reduceAdd, Nat.reduceMul, Nat.reduceSub, Nat.reduceDiv, Nat.reduceMod, Nat.reducePow, Nat.reduceLT, Nat.reduceLeDiff, Nat.min_self, ge_iff_le, gt_iff_lt, Option.isNone_none, Option.isSome_none, Option.isNone_some, Option.isSome_some, Bool.and_true, Bool.true_and, Bool.and_false, Bool.false_and, not_true_eq_false, not_false_eq_true, or_true, true_or, false_or, or_false, hget0, hgetK, hset0, hsetK, splice_single, splice_whole, take_whole, List.getElem?_nil, List.length_append, List.append_assoc, n_add, n_mul, n_ladd, n_addl, n_lmul, n_mull, n_fdiv, n_fdivl, n_tdiv, n_tmod, n_w64, n_w32, n_w16, n_w8, n_sub64, n_lsub64, n_subl64, n_m32, n_m51, n_m1, n_m1b, n_m7b, p64_32, p64_51, p64_13, p8_7, hbc, hyc, hbit, s1, s2, o1, n1, n2, w1, w2, w3, e1, e2, e3, e4, e5, e6, hset, u8s_len, hlen]
theorem bye_block {V : Nat} {R : Ob} (hV : V < 2 ^ 255) : evCode T 0 (.block 4 (.loop a57_l0)) (byeI (dig (2 ^ 51) 5 V) (dig 256 32 0) R 0 []) = some (.normal, byeI (dig (2 ^ 51) 5 V) (dig 256 32 V) R 255 [(55, .bool false)]) := by
  have hb := block_loop (T := T) (base := 0) (id := 4) (body := a57_l0) (fun i => byeI (dig (2 ^ 51) 5 V) (byX V i) R i []) (s' := byeI (dig (2 ^ 51) 5 V) (byX V 255) R 255 [(55, .bool false)]) 255 (fun i hi => bye_body hi) (by
    simp only [byeI, a57_l0, envOf, evCode_skip, evCode_exit, evCode_seq, fs_blockS, fs_blockR, fs_blockC, fs_blockK, fs_blockB, evCode_ret, quiet, keep_nil, keep_cons, fs_cond, fs_region, fs_regionP, fs_nil, fs_guard, fs_move, fs_pick, fs_alloc, fs_box, fs_load, fs_store, fs_bin, fs_eqv, fs_isNil, fs_un, fs_conv, fs_convStr, fs_field, fs_index, fs_indexStr, fs_build, fs_buildSlice, fs_fieldAddr, fs_indexAddr, fs_indexSl, fs_sliceArr, fs_sliceSl, fs_sliceStr, fs_makeSlice, fs_extract, fs_mkIface, fs_mkFunc, fs_nilCheck, fs_s2ap, fs_len, fs_minmax, fs_s2b, fs_b2s, fs_append, fs_copy, fs_callW, fs_callR, fs_callv, opd_tmp, opd_const, opd_func, opds_nil, opds_cons, opdOpt_none, opdOpt_some, opdParts_nil, opdParts_cons, get_miss, vPick_t, vPick_f, vEq_agg, vEq_aggN, vEq_bool, vEq_boolN, vConv_int, vStr_s, vField_agg, vIndex_agg, vIndexStr_s, vFieldAddr_p, vIndexAddr_p, vIndexSl_s, vSliceArr_p, vSliceSl_s, vSliceSl_n, vSliceStr_s, vExtract_t, vNilCheck_p, vS2ap_s, vLen_s, vLen_str, vMin_i, vMax_i, vLoad_p, vStore_p, baseP_p, vB2s_s, vMake_i, vS2b_s, callee_f, liveAt_eq, storeAt_eq, partL_none, partL_some, natIn_none, natIn_int, bounds3_two, bin_add, bin_sub, bin_mul, bin_quo, bin_rem, bin_and, bin_or, bin_xor, bin_andNot, bin_eql, bin_neq, bin_lss, bin_leq, bin_gtr, bin_geq, bin_shl, bin_shr, bin_sadd, bin_seql, bin_sneq, un_not, un_neg, un_xor, after_some, put_some, put_none, res_nil, res_val, res_var, packed_one, packed_two, merge_nil, merge_ge, rf_tup2, rfIn_int, rfIn_bool, rfIn_u8s, rf_str, rfIn_str, ↓gate_true, gd_bool, gd_ut, gd_uf, ↓guardV_tt, ↓guardV_ff, ↓guardV_tf, ↓guardV_ft, ↓keepV_some, ↓qElse_some, ↓get_hit, ↓Option.bind_some, ↓if_true, ↓if_false, List.nil_append, List.cons_append, List.all_nil, List.all_cons, List.isEmpty_nil, reduceCtorEq, Bool.false_eq_true, Nat.reduceEqDiff, beq_self_eq_true, bne_self_eq_false, Bool.not_true, Bool.not_false, Int.natCast_nonneg, Nat.lt_irrefl, false_and, Int.reduceEq, rf_int, rf_bool, rf_tuple_ints, rf_u8s, arr_list, toList2, Bool.and_self, Nat.not_lt_zero, Nat.sub_zero, Nat.zero_le, Nat.le_add_right, cells_agg, cells_agg_size, cells_int, cells_int_size, okV_int, okV_bool, okV_str, okV_agg, okV_ptr, okV_slice, okV_func, okV_nilFunc, okV_iface, okV_nilIface, cells_bool, cells_bool_size, cells_ptr, cells_ptr_size, cells_slice, cells_slice_size, cells_str, cells_str_size, eq_self, wrapI64_small, Int.natCast_zero, Int.natCast_one, Int.cast_ofNat_Int, List.length_nil, List.length_cons, List.getElem?_cons_zero, List.getElem?_cons_succ, List.set_cons_zero, List.set_cons_succ, Nat.zero_add, Nat.add_zero, Nat.mul_one, Nat.zero_mul, Int.toNat_natCast, Int.toNat_zero, Int.lt_irrefl, Int.le_refl, Nat.le_refl, and_self, true_and, and_true, decide_true, decide_false, Int.reduceLE, Int.reduceLT, Int.reduceAdd, Int.reduceMul, Int.reduceSub, Int.reduceTDiv, Int.reduceTMod, Int.reduceNeg, Int.reduceToNat, Int.reduceGT, Int.reduceGE, Int.reducePow, Nat.reduceAdd, Nat.reduceMul, Nat.reduceSub, Nat.reduceDiv, Nat.reduceMod, Nat.reducePow, Nat.reduceLT, Nat.reduceLeDiff, Nat.min_self, ge_iff_le, gt_iff_lt, Option.isNone_none, Option.isSome_none, Option.isNone_some, Option.isSome_some, Bool.and_true, Bool.true_and, Bool.and_false, Bool.false_and, not_true_eq_false, not_false_eq_true, or_true, true_or, false_or, or_false])
  rw [show byX V 0 = dig 256 32 0 from by unfold byX; rw [Nat.pow_zero, Nat.mod_one], show byX V 255 = dig 256 32 V from by unfold byX; rw [Nat.mod_eq_of_lt hV]] at hb
  exact hb
theorem bytes_key {x0 x1 x2 x3 x4 : Nat} (h0 : x0 < 9223372036854775808) (h1 : x1 < 9223372036854775808) (h2 : x2 < 9223372036854775808) (h3 : x3 < 9223372036854775808) (h4 : x4 < 9223372036854775808) :
    evVal T 57 [eV [x0, x1, x2, x3, x4]] = some (.agg (u8s (dig 256 32 (v51 [x0, x1, x2, x3, x4] % Go.Fp.P))).toArray) := by
  obtain ⟨y0, y1, y2, y3, y4, z0, z1, z2, z3, z4, hy, a0, a1, a2, a3, a4, hz, b0, b1, b2, b3, b4, ⟨kk, hk⟩⟩ := car_twice h0 h1 h2 h3 h4
  have hV : v51 [x0, x1, x2, x3, x4] % Go.Fp.P = v51 [z0, z1, z2, z3, z4] % Go.Fp.P := by rw [← hk, Nat.add_mul_mod_self_right]
  obtain ⟨hc, hfin⟩ := fin_val b0 b1 b2 b3 b4
  have c1 := carried_v h0 h1 h2 h3 h4
  have c2 := carried_v a0 a1 a2 a3 a4
  rw [hy] at c1
  rw [hz] at c2
  have hN : v51 [z0, z1, z2, z3, z4] % Go.Fp.P < 2 ^ 255 := Nat.lt_trans (Nat.mod_lt _ (by decide)) (by rw [Go.Fp.P_eq]; decide)
  have hb := bye_block (R := ⟨u8s (dig 256 32 0), true, true, true, 1⟩) hN
  rw [hV]
  generalize v51 [z0, z1, z2, z3, z4] % Go.Fp.P = N at *
  have hz5 : List.replicate 5 (Value.int .u64 0) = [.int .u64 0, .int .u64 0, .int .u64 0, .int .u64 0, .int .u64 0] := rfl
  have hz32 : List.replicate 32 (Value.int .u8 0) = u8s (dig 256 32 0) := rfl
  have hr5 : ∀ a b c d e : Int, rf (.agg [.int .u64 a, .int .u64 b, .int .u64 c, .int .u64 d, .int .u64 e].toArray) = true := fun _ _ _ _ _ => rfl
  have hlk : (dig 256 32 N).length = 32 := dig_len _ _ _
  have hl0 : (dig 256 32 0).length = 32 := rfl
  -- the chain of the first loop
  have f0 : (z0 + 19) % 18446744073709551616 = z0 + 19 := by omega
  have f1 : (z1 + (z0 + 19) / 2251799813685248) % 18446744073709551616 = z1 + (z0 + 19) / 2251799813685248 := by omega
  have f2 : (z2 + (z1 + (z0 + 19) / 2251799813685248) / 2251799813685248) % 18446744073709551616 = z2 + (z1 + (z0 + 19) / 2251799813685248) / 2251799813685248 := by
    generalize (z1 + (z0 + 19) / 2251799813685248) = t at *; omega
  have f3 : (z3 + (z2 + (z1 + (z0 + 19) / 2251799813685248) / 2251799813685248) / 2251799813685248) % 18446744073709551616 = z3 + (z2 + (z1 + (z0 + 19) / 2251799813685248) / 2251799813685248) / 2251799813685248 := by
    have : (z2 + (z1 + (z0 + 19) / 2251799813685248) / 2251799813685248) / 2251799813685248 < 2251799813685248 := by omega
    generalize (z2 + (z1 + (z0 + 19) / 2251799813685248) / 2251799813685248) / 2251799813685248 = t at *; omega
  have f4 : (z4 + (z3 + (z2 + (z1 + (z0 + 19) / 2251799813685248) / 2251799813685248) / 2251799813685248) / 2251799813685248) % 18446744073709551616 = z4 + (z3 + (z2 + (z1 + (z0 + 19) / 2251799813685248) / 2251799813685248) / 2251799813685248) / 2251799813685248 := by
    have : (z2 + (z1 + (z0 + 19) / 2251799813685248) / 2251799813685248) / 2251799813685248 < 2251799813685248 := by omega
    generalize (z2 + (z1 + (z0 + 19) / 2251799813685248) / 2251799813685248) / 2251799813685248 = t at *; omega
  have ft : (z4 + (z3 + (z2 + (z1 + (z0 + 19) / 2251799813685248) / 2251799813685248) / 2251799813685248) / 2251799813685248) / 2251799813685248 = topC z0 z1 z2 z3 z4 := rfl
  generalize topC z0 z1 z2 z3 z4 = c at *
  have g0 : 19 * c % 18446744073709551616 = 19 * c := by omega
  have g1 : (z0 + 19 * c) % 18446744073709551616 = z0 + 19 * c := by omega
  have g2 : (z0 + 19 * c + 0) % 18446744073709551616 = z0 + 19 * c := by omega
  have k0 : (z0 + 19 * c) / 2251799813685248 < 8 := by omega
  have g3 : (z1 + (z0 + 19 * c) / 2251799813685248) % 18446744073709551616 = z1 + (z0 + 19 * c) / 2251799813685248 := by omega
  have k1 : (z1 + (z0 + 19 * c) / 2251799813685248) / 2251799813685248 < 8 := by omega
  have g4 : (z2 + (z1 + (z0 + 19 * c) / 2251799813685248) / 2251799813685248) % 18446744073709551616 = z2 + (z1 + (z0 + 19 * c) / 2251799813685248) / 2251799813685248 := by
    generalize (z1 + (z0 + 19 * c) / 2251799813685248) / 2251799813685248 = t at *; omega
  have k2 : (z2 + (z1 + (z0 + 19 * c) / 2251799813685248) / 2251799813685248) / 2251799813685248 < 8 := by
    generalize (z1 + (z0 + 19 * c) / 2251799813685248) / 2251799813685248 = t at *; omega
  have g5 : (z3 + (z2 + (z1 + (z0 + 19 * c) / 2251799813685248) / 2251799813685248) / 2251799813685248) % 18446744073709551616 = z3 + (z2 + (z1 + (z0 + 19 * c) / 2251799813685248) / 2251799813685248) / 2251799813685248 := by
    generalize (z2 + (z1 + (z0 + 19 * c) / 2251799813685248) / 2251799813685248) / 2251799813685248 = t at *; omega
  have k3 : (z3 + (z2 + (z1 + (z0 + 19 * c) / 2251799813685248) / 2251799813685248) / 2251799813685248) / 2251799813685248 < 8 := by
    generalize (z2 + (z1 + (z0 + 19 * c) / 2251799813685248) / 2251799813685248) / 2251799813685248 = t at *; omega
  have g6 : (z4 + (z3 + (z2 + (z1 + (z0 + 19 * c) / 2251799813685248) / 2251799813685248) / 2251799813685248) / 2251799813685248) % 18446744073709551616 = z4 + (z3 + (z2 + (z1 + (z0 + 19 * c) / 2251799813685248) / 2251799813685248) / 2251799813685248) / 2251799813685248 := by
    generalize (z3 + (z2 + (z1 + (z0 + 19 * c) / 2251799813685248) / 2251799813685248) / 2251799813685248) / 2251799813685248 = t at *; omega
  rw [← hfin] at hb
  simp only [eV, ns_cons, ns_nil] at c1 c2 ⊢
  simp only [byeI, finL, ns_cons, ns_nil, List.cons_append, List.nil_append, Int.natCast_zero] at hb
  apply evVal_ex
  apply Exists.intro
  rw [evFun_fn (fn := a57) rfl]
  have u0 := fun s => @evCode_loop T 0 a57_l2 s
  have u1 := fun s => @evCode_loop T 0 a57_l1 s
  have v0 := fun s => @evCode_block T 0 0 (.loop a57_l2) s
  have v1 := fun s => @evCode_block T 0 2 (.loop a57_l1) s
  have d0 : ∀ s, evCode T 0 a57_l2 s = evCode T 0 _ s := fun s => congrArg (fun c => evCode T 0 c s) a57_l2.eq_1
  have d1 : ∀ s, evCode T 0 a57_l1 s = evCode T 0 _ s := fun s => congrArg (fun c => evCode T 0 c s) a57_l1.eq_1
  simp only [a57, envOf, evCode_skip, evCode_exit, evCode_seq, fs_blockS, fs_blockR, fs_blockC, fs_blockK, fs_blockB, evCode_ret, quiet, keep_nil, keep_cons, fs_cond, fs_region, fs_regionP, fs_nil, fs_guard, fs_move, fs_pick, fs_alloc, fs_box, fs_load, fs_store, fs_bin, fs_eqv, fs_isNil, fs_un, fs_conv, fs_convStr, fs_field, fs_index, fs_indexStr, fs_build, fs_buildSlice, fs_fieldAddr, fs_indexAddr, fs_indexSl, fs_sliceArr, fs_sliceSl, fs_sliceStr, fs_makeSlice, fs_extract, fs_mkIface, fs_mkFunc, fs_nilCheck, fs_s2ap, fs_len, fs_minmax, fs_s2b, fs_b2s, fs_append, fs_copy, fs_callW, fs_callR, fs_callv, opd_tmp, opd_const, opd_func, opds_nil, opds_cons, opdOpt_none, opdOpt_some, opdParts_nil, opdParts_cons, get_miss, vPick_t, vPick_f, vEq_agg, vEq_aggN, vEq_bool, vEq_boolN, vConv_int, vStr_s, vField_agg, vIndex_agg, vIndexStr_s, vFieldAddr_p, vIndexAddr_p, vIndexSl_s, vSliceArr_p, vSliceSl_s, vSliceSl_n, vSliceStr_s, vExtract_t, vNilCheck_p, vS2ap_s, vLen_s, vLen_str, vMin_i, vMax_i, vLoad_p, vStore_p, baseP_p, vB2s_s, vMake_i, vS2b_s, callee_f, liveAt_eq, storeAt_eq, partL_none, partL_some, natIn_none, natIn_int, bounds3_two, bin_add, bin_sub, bin_mul, bin_quo, bin_rem, bin_and, bin_or, bin_xor, bin_andNot, bin_eql, bin_neq, bin_lss, bin_leq, bin_gtr, bin_geq, bin_shl, bin_shr, bin_sadd, bin_seql, bin_sneq, un_not, un_neg, un_xor, after_some, put_some, put_none, res_nil, res_val, res_var, packed_one, packed_two, merge_nil, merge_ge, rf_tup2, rfIn_int, rfIn_bool, rfIn_u8s, rf_str, rfIn_str, ↓gate_true, gd_bool, gd_ut, gd_uf, ↓guardV_tt, ↓guardV_ff, ↓guardV_tf, ↓guardV_ft, ↓keepV_some, ↓qElse_some, ↓get_hit, ↓Option.bind_some, ↓if_true, ↓if_false, List.nil_append, List.cons_append, List.all_nil, List.all_cons, List.isEmpty_nil, reduceCtorEq, Bool.false_eq_true, Nat.reduceEqDiff, beq_self_eq_true, bne_self_eq_false, Bool.not_true, Bool.not_false, Int.natCast_nonneg, Nat.lt_irrefl, false_and, Int.reduceEq, rf_int, rf_bool, rf_tuple_ints, rf_u8s, arr_list, toList2, Bool.and_self, Nat.not_lt_zero, Nat.sub_zero, Nat.zero_le, Nat.le_add_right, cells_agg, cells_agg_size, cells_int, cells_int_size, okV_int, okV_bool, okV_str, okV_agg, okV_ptr, okV_slice, okV_func, okV_nilFunc, okV_iface, okV_nilIface, cells_bool, cells_bool_size, cells_ptr, cells_ptr_size, cells_slice, cells_slice_size, cells_str, cells_str_size, eq_self, wrapI64_small, Int.natCast_zero, Int.natCast_one, Int.cast_ofNat_Int, List.length_nil, List.length_cons, List.getElem?_cons_zero, List.getElem?_cons_succ, List.set_cons_zero, List.set_cons_succ, Nat.zero_add, Nat.add_zero, Nat.mul_one, Nat.zero_mul, Int.toNat_natCast, Int.toNat_zero, Int.lt_irrefl, Int.le_refl, Nat.le_refl, and_self, true_and, and_true, decide_true, decide_false, Int.reduceLE, Int.reduceLT, Int.reduceAdd, Int.reduceMul, Int.reduceSub, Int.reduceTDiv, Int.reduceTMod, Int.reduceNeg, Int.reduceToNat, Int.reduceGT, Int.reduceGE, Int.reducePow, Nat.reduceAdd, Nat.reduceMul, Nat.reduceSub, Nat.reduceDiv, Nat.reduceMod, Nat.reducePow, Nat.reduceLT, Nat.reduceLeDiff, Nat.min_self, ge_iff_le, gt_iff_lt, Option.isNone_none, Option.isSome_none, Option.isNone_some, Option.isSome_some, Bool.and_true, Bool.true_and, Bool.and_false, Bool.false_and, not_true_eq_false, not_false_eq_true, or_true, true_or, false_or, or_false, hget0, hgetK, hset0, hsetK, splice_single, splice_whole, take_whole, List.getElem?_nil, List.length_append, List.append_assoc, n_add, n_mul, n_ladd, n_addl, n_lmul, n_mull, n_fdiv, n_fdivl, n_tdiv, n_tmod, n_w64, n_w32, n_w16, n_w8, n_sub64, n_lsub64, n_subl64, n_m32, n_m51, n_m1, n_m1b, n_m7b, p64_32, p64_51, p64_13, p8_7, hz5, hz32, c1, c2, hr5, u0, u1, v0, v1, d0, d1, f0, f1, f2, f3, f4, ft, g0, g1, g2, g3, g4, g5, g6, hb, u8s_len, hlk, hl0]
  rfl
theorem key_inj {a b : Nat} (ha : a < 256 ^ 32) (hb : b < 256 ^ 32) : (dig 256 32 a == dig 256 32 b) = decide (a = b) := by
  by_cases h : a = b
  · subst h; simp
  · have : ¬ dig 256 32 a = dig 256 32 b := fun he => h (by
      have h1 := congrArg (num 256) he
      rwa [num_dig (by decide), num_dig (by decide), Nat.mod_eq_of_lt ha, Nat.mod_eq_of_lt hb] at h1)
    rw [decide_eq_false h, beq_eq_false_iff_ne.2 this]
theorem P_lt : Go.Fp.P < 256 ^ 32 := by rw [Go.Fp.P_eq]; decide
theorem bytes_v {l : List Nat} (h : El l (2 ^ 52)) : evVal T 57 [eV l] = some (.agg (u8s (dig 256 32 (fe l).val)).toArray) := by
  obtain ⟨x0, x1, x2, x3, x4, rfl, a0, a1, a2, a3, a4⟩ := h.five
  exact bytes_key (by omega) (by omega) (by omega) (by omega) (by omega)
theorem fe_lt (a : Go.Fp.Fe) : a.val < 256 ^ 32 := Nat.lt_trans a.isLt P_lt
theorem fe_beq (a b : Go.Fp.Fe) : (dig 256 32 a.val == dig 256 32 b.val) = decide (a = b) := by
  rw [key_inj (fe_lt a) (fe_lt b)]
  by_cases h : a = b
  · subst h; simp
  · have : ¬ a.val = b.val := fun he => h (Fin.ext he)
    rw [decide_eq_false h, decide_eq_false this]
theorem eV_cells (l : List Nat) : (eV l).cells.toList = ns .u64 l := rfl
theorem eV_size (l : List Nat) : (eV l).cells.size = l.length := ns_len _ _
theorem eV_ok (l : List Nat) : okVar (eV l) = true := rfl
theorem eV_fold (l : List Nat) : Value.agg (ns .u64 l).toArray = eV l := rfl
theorem eq_v {x y : List Nat} (hx : El x (2 ^ 52)) (hy : El y (2 ^ 52)) : evVal T 55 [eV x, eV y] = some (.bool (decide (fe x = fe y))) := by
  have h1 := bytes_v hx
  have h2 := bytes_v hy
  have l1 := hx.len
  have l2 := hy.len
  apply evVal_ex
  apply Exists.intro
  rw [evFun_fn (fn := a55) rfl]
  simp only [a55, envOf, evCode_skip, evCode_exit, evCode_seq, fs_blockS, fs_blockR, fs_blockC, fs_blockK, fs_blockB, evCode_ret, quiet, keep_nil, keep_cons, fs_cond, fs_region, fs_regionP, fs_nil, fs_guard, fs_move, fs_pick, fs_alloc, fs_box, fs_load, fs_store, fs_bin, fs_eqv, fs_isNil, fs_un, fs_conv, fs_convStr, fs_field, fs_index, fs_indexStr, fs_build, fs_buildSlice, fs_fieldAddr, fs_indexAddr, fs_indexSl, fs_sliceArr, fs_sliceSl, fs_sliceStr, fs_makeSlice, fs_extract, fs_mkIface, fs_mkFunc, fs_nilCheck, fs_s2ap, fs_len, fs_minmax, fs_s2b, fs_b2s, fs_append, fs_copy, fs_callW, fs_callR, fs_callv, opd_tmp, opd_const, opd_func, opds_nil, opds_cons, opdOpt_none, opdOpt_some, opdParts_nil, opdParts_cons, get_miss, vPick_t, vPick_f, vEq_agg, vEq_aggN, vEq_bool, vEq_boolN, vConv_int, vStr_s, vField_agg, vIndex_agg, vIndexStr_s, vFieldAddr_p, vIndexAddr_p, vIndexSl_s, vSliceArr_p, vSliceSl_s, vSliceSl_n, vSliceStr_s, vExtract_t, vNilCheck_p, vS2ap_s, vLen_s, vLen_str, vMin_i, vMax_i, vLoad_p, vStore_p, baseP_p, vB2s_s, vMake_i, vS2b_s, callee_f, liveAt_eq, storeAt_eq, partL_none, partL_some, natIn_none, natIn_int, bounds3_two, bin_add, bin_sub, bin_mul, bin_quo, bin_rem, bin_and, bin_or, bin_xor, bin_andNot, bin_eql, bin_neq, bin_lss, bin_leq, bin_gtr, bin_geq, bin_shl, bin_shr, bin_sadd, bin_seql, bin_sneq, un_not, un_neg, un_xor, after_some, put_some, put_none, res_nil, res_val, res_var, packed_one, packed_two, merge_nil, merge_ge, rf_tup2, rfIn_int, rfIn_bool, rfIn_u8s, rf_str, rfIn_str, ↓gate_true, gd_bool, gd_ut, gd_uf, ↓guardV_tt, ↓guardV_ff, ↓guardV_tf, ↓guardV_ft, ↓keepV_some, ↓qElse_some, ↓get_hit, ↓Option.bind_some, ↓if_true, ↓if_false, List.nil_append, List.cons_append, List.all_nil, List.all_cons, List.isEmpty_nil, reduceCtorEq, Bool.false_eq_true, Nat.reduceEqDiff, beq_self_eq_true, bne_self_eq_false, Bool.not_true, Bool.not_false, Int.natCast_nonneg, Nat.lt_irrefl, false_and, Int.reduceEq, rf_int, rf_bool, rf_tuple_ints, rf_u8s, arr_list, toList2, Bool.and_self, Nat.not_lt_zero, Nat.sub_zero, Nat.zero_le, Nat.le_add_right, cells_agg, cells_agg_size, cells_int, cells_int_size, okV_int, okV_bool, okV_str, okV_agg, okV_ptr, okV_slice, okV_func, okV_nilFunc, okV_iface, okV_nilIface, cells_bool, cells_bool_size, cells_ptr, cells_ptr_size, cells_slice, cells_slice_size, cells_str, cells_str_size, eq_self, wrapI64_small, Int.natCast_zero, Int.natCast_one, Int.cast_ofNat_Int, List.length_nil, List.length_cons, List.getElem?_cons_zero, List.getElem?_cons_succ, List.set_cons_zero, List.set_cons_succ, Nat.zero_add, Nat.add_zero, Nat.mul_one, Nat.zero_mul, Int.toNat_natCast, Int.toNat_zero, Int.lt_irrefl, Int.le_refl, Nat.le_refl, and_self, true_and, and_true, decide_true, decide_false, Int.reduceLE, Int.reduceLT, Int.reduceAdd, Int.reduceMul, Int.reduceSub, Int.reduceTDiv, Int.reduceTMod, Int.reduceNeg, Int.reduceToNat, Int.reduceGT, Int.reduceGE, Int.reducePow, Nat.reduceAdd, Nat.reduceMul, Nat.reduceSub, Nat.reduceDiv, Nat.reduceMod, Nat.reducePow, Nat.reduceLT, Nat.reduceLeDiff, Nat.min_self, ge_iff_le, gt_iff_lt, Option.isNone_none, Option.isSome_none, Option.isNone_some, Option.isSome_some, Bool.and_true, Bool.true_and, Bool.and_false, Bool.false_and, not_true_eq_false, not_false_eq_true, or_true, true_or, false_or, or_false, hget0, hgetK, hset0, hsetK, splice_single, splice_whole, take_whole, List.getElem?_nil, List.length_append, List.append_assoc, eV_cells, eV_size, eV_ok, eV_fold, ns_len, l1, l2, h1, h2, cellsEq_u8, dig_len, fe_beq, rf_eV]
  rfl
theorem odd_v {x : List Nat} (hx : El x (2 ^ 52)) : evVal T 58 [eV x] = some (.bool (decide ((fe x).val % 2 = 1))) := by
  have h1 := bytes_v hx
  have l1 := hx.len
  have h0 : (u8s (dig 256 32 (fe x).val))[0]? = some (.int .u8 (((fe x).val % 256 : Nat) : Int)) := by
    apply u8s_get
    rw [dig_get (by decide), Nat.pow_zero, Nat.div_one]
  have hm : (fe x).val % 256 % 2 = (fe x).val % 2 := by omega
  have hd : ((((fe x).val % 2 : Nat) : Int) == 1) = decide ((fe x).val % 2 = 1) := by
    by_cases h : (fe x).val % 2 = 1
    · rw [h]; rfl
    · have : ¬ ((((fe x).val % 2 : Nat) : Int) = 1) := by omega
      rw [decide_eq_false h, beq_eq_false_iff_ne.2 this]
  apply evVal_ex
  apply Exists.intro
  rw [evFun_fn (fn := a58) rfl]
  simp only [a58, envOf, evCode_skip, evCode_exit, evCode_seq, fs_blockS, fs_blockR, fs_blockC, fs_blockK, fs_blockB, evCode_ret, quiet, keep_nil, keep_cons, fs_cond, fs_region, fs_regionP, fs_nil, fs_guard, fs_move, fs_pick, fs_alloc, fs_box, fs_load, fs_store, fs_bin, fs_eqv, fs_isNil, fs_un, fs_conv, fs_convStr, fs_field, fs_index, fs_indexStr, fs_build, fs_buildSlice, fs_fieldAddr, fs_indexAddr, fs_indexSl, fs_sliceArr, fs_sliceSl, fs_sliceStr, fs_makeSlice, fs_extract, fs_mkIface, fs_mkFunc, fs_nilCheck, fs_s2ap, fs_len, fs_minmax, fs_s2b, fs_b2s, fs_append, fs_copy, fs_callW, fs_callR, fs_callv, opd_tmp, opd_const, opd_func, opds_nil, opds_cons, opdOpt_none, opdOpt_some, opdParts_nil, opdParts_cons, get_miss, vPick_t, vPick_f, vEq_agg, vEq_aggN, vEq_bool, vEq_boolN, vConv_int, vStr_s, vField_agg, vIndex_agg, vIndexStr_s, vFieldAddr_p, vIndexAddr_p, vIndexSl_s, vSliceArr_p, vSliceSl_s, vSliceSl_n, vSliceStr_s, vExtract_t, vNilCheck_p, vS2ap_s, vLen_s, vLen_str, vMin_i, vMax_i, vLoad_p, vStore_p, baseP_p, vB2s_s, vMake_i, vS2b_s, callee_f, liveAt_eq, storeAt_eq, partL_none, partL_some, natIn_none, natIn_int, bounds3_two, bin_add, bin_sub, bin_mul, bin_quo, bin_rem, bin_and, bin_or, bin_xor, bin_andNot, bin_eql, bin_neq, bin_lss, bin_leq, bin_gtr, bin_geq, bin_shl, bin_shr, bin_sadd, bin_seql, bin_sneq, un_not, un_neg, un_xor, after_some, put_some, put_none, res_nil, res_val, res_var, packed_one, packed_two, merge_nil, merge_ge, rf_tup2, rfIn_int, rfIn_bool, rfIn_u8s, rf_str, rfIn_str, ↓gate_true, gd_bool, gd_ut, gd_uf, ↓guardV_tt, ↓guardV_ff, ↓guardV_tf, ↓guardV_ft, ↓keepV_some, ↓qElse_some, ↓get_hit, ↓Option.bind_some, ↓if_true, ↓if_false, List.nil_append, List.cons_append, List.all_nil, List.all_cons, List.isEmpty_nil, reduceCtorEq, Bool.false_eq_true, Nat.reduceEqDiff, beq_self_eq_true, bne_self_eq_false, Bool.not_true, Bool.not_false, Int.natCast_nonneg, Nat.lt_irrefl, false_and, Int.reduceEq, rf_int, rf_bool, rf_tuple_ints, rf_u8s, arr_list, toList2, Bool.and_self, Nat.not_lt_zero, Nat.sub_zero, Nat.zero_le, Nat.le_add_right, cells_agg, cells_agg_size, cells_int, cells_int_size, okV_int, okV_bool, okV_str, okV_agg, okV_ptr, okV_slice, okV_func, okV_nilFunc, okV_iface, okV_nilIface, cells_bool, cells_bool_size, cells_ptr, cells_ptr_size, cells_slice, cells_slice_size, cells_str, cells_str_size, eq_self, wrapI64_small, Int.natCast_zero, Int.natCast_one, Int.cast_ofNat_Int, List.length_nil, List.length_cons, List.getElem?_cons_zero, List.getElem?_cons_succ, List.set_cons_zero, List.set_cons_succ, Nat.zero_add, Nat.add_zero, Nat.mul_one, Nat.zero_mul, Int.toNat_natCast, Int.toNat_zero, Int.lt_irrefl, Int.le_refl, Nat.le_refl, and_self, true_and, and_true, decide_true, decide_false, Int.reduceLE, Int.reduceLT, Int.reduceAdd, Int.reduceMul, Int.reduceSub, Int.reduceTDiv, Int.reduceTMod, Int.reduceNeg, Int.reduceToNat, Int.reduceGT, Int.reduceGE, Int.reducePow, Nat.reduceAdd, Nat.reduceMul, Nat.reduceSub, Nat.reduceDiv, Nat.reduceMod, Nat.reducePow, Nat.reduceLT, Nat.reduceLeDiff, Nat.min_self, ge_iff_le, gt_iff_lt, Option.isNone_none, Option.isSome_none, Option.isNone_some, Option.isSome_some, Bool.and_true, Bool.true_and, Bool.and_false, Bool.false_and, not_true_eq_false, not_false_eq_true, or_true, true_or, false_or, or_false, hget0, hgetK, hset0, hsetK, splice_single, splice_whole, take_whole, List.getElem?_nil, List.length_append, List.append_assoc, n_add, n_mul, n_ladd, n_addl, n_lmul, n_mull, n_fdiv, n_fdivl, n_tdiv, n_tmod, n_w64, n_w32, n_w16, n_w8, n_sub64, n_lsub64, n_subl64, n_m32, n_m51, n_m1, n_m1b, n_m7b, p64_32, p64_51, p64_13, p8_7, eV_cells, eV_size, eV_ok, eV_fold, ns_len, l1, h1, h0, hm, hd, u8s_len, dig_len, rf_eV]
  rfl
end Go.Ev.Ytaceeoghjgggjaa
set_option linter.unusedSimpArgs false
set_option linter.unusedVariables false
namespace Go.Ev.Ytaceeoghjgggjaa
open Go Go.Ev
attribute [local congr] bind_congr2 ite_congr2 qElse_congr gate_congr guardV_congr
set_option maxRecDepth 100000
theorem carL_el {x0 x1 x2 x3 x4 : Nat} (h0 : x0 < 2 ^ 60) (h1 : x1 < 2 ^ 60) (h2 : x2 < 2 ^ 60) (h3 : x3 < 2 ^ 60) (h4 : x4 < 2 ^ 60) : El (carL x0 x1 x2 x3 x4) (2 ^ 52) := by
  simp only [carL]
  have c0 : x0 / 2251799813685248 < 1024 := by omega
  have c1 : (x1 + x0 / 2251799813685248) / 2251799813685248 < 1024 := by omega
  have c2 : (x2 + (x1 + x0 / 2251799813685248) / 2251799813685248) / 2251799813685248 < 1024 := by omega
  have c3 : (x3 + (x2 + (x1 + x0 / 2251799813685248) / 2251799813685248) / 2251799813685248) / 2251799813685248 < 1024 := by omega
  have c4 : (x4 + (x3 + (x2 + (x1 + x0 / 2251799813685248) / 2251799813685248) / 2251799813685248) / 2251799813685248) / 2251799813685248 < 1024 := by omega
  have m0 := Nat.mod_lt x0 (by decide : 0 < 2251799813685248)
  apply El.mk5
  · generalize (x4 + (x3 + (x2 + (x1 + x0 / 2251799813685248) / 2251799813685248) / 2251799813685248) / 2251799813685248) / 2251799813685248 = c at *
    omega
  all_goals exact Nat.lt_trans (Nat.mod_lt _ (by decide)) (by decide)
theorem carL_fe {x0 x1 x2 x3 x4 : Nat} : fe (carL x0 x1 x2 x3 x4) = fe [x0, x1, x2, x3, x4] := by
  obtain ⟨k, hk⟩ := carL_val (x0 := x0) (x1 := x1) (x2 := x2) (x3 := x3) (x4 := x4)
  exact fe_of hk
theorem sub_v {x y : List Nat} (hx : El x (2 ^ 52)) (hy : El y (2 ^ 52)) : ∃ r, evVal T 61 [eV x, eV y] = some (eV r) ∧ El r (2 ^ 52) ∧ fe r = fe x - fe y := by
  obtain ⟨x0, x1, x2, x3, x4, rfl, a0, a1, a2, a3, a4⟩ := hx.five
  obtain ⟨y0, y1, y2, y3, y4, rfl, b0, b1, b2, b3, b4⟩ := hy.five
  refine ⟨carL (x0 + (9007199254740988 - y0) - 72) (x1 + (9007199254740988 - y1)) (x2 + (9007199254740988 - y2)) (x3 + (9007199254740988 - y3)) (x4 + (9007199254740988 - y4)), ?_, carL_el (by omega) (by omega) (by omega) (by omega) (by omega), ?_⟩
  · have s0 : (9007199254740988 + (18446744073709551616 - y0 % 18446744073709551616)) % 18446744073709551616 = 9007199254740988 - y0 := by omega
    have s1 : (9007199254740988 + (18446744073709551616 - y1 % 18446744073709551616)) % 18446744073709551616 = 9007199254740988 - y1 := by omega
    have s2 : (9007199254740988 + (18446744073709551616 - y2 % 18446744073709551616)) % 18446744073709551616 = 9007199254740988 - y2 := by omega
    have s3 : (9007199254740988 + (18446744073709551616 - y3 % 18446744073709551616)) % 18446744073709551616 = 9007199254740988 - y3 := by omega
    have s4 : (9007199254740988 + (18446744073709551616 - y4 % 18446744073709551616)) % 18446744073709551616 = 9007199254740988 - y4 := by omega
    have t0 : (x0 + (9007199254740988 - y0)) % 18446744073709551616 = x0 + (9007199254740988 - y0) := by omega
    have t1 : (x1 + (9007199254740988 - y1)) % 18446744073709551616 = x1 + (9007199254740988 - y1) := by omega
    have t2 : (x2 + (9007199254740988 - y2)) % 18446744073709551616 = x2 + (9007199254740988 - y2) := by omega
    have t3 : (x3 + (9007199254740988 - y3)) % 18446744073709551616 = x3 + (9007199254740988 - y3) := by omega
    have t4 : (x4 + (9007199254740988 - y4)) % 18446744073709551616 = x4 + (9007199254740988 - y4) := by omega
    have r0 : (x0 + (9007199254740988 - y0) + 18446744073709551544) % 18446744073709551616 = x0 + (9007199254740988 - y0) - 72 := by omega
    have c1 := carried_v (x0 := x0 + (9007199254740988 - y0) - 72) (x1 := x1 + (9007199254740988 - y1)) (x2 := x2 + (9007199254740988 - y2)) (x3 := x3 + (9007199254740988 - y3)) (x4 := x4 + (9007199254740988 - y4)) (by omega) (by omega) (by omega) (by omega) (by omega)
    have hl : (carL (x0 + (9007199254740988 - y0) - 72) (x1 + (9007199254740988 - y1)) (x2 + (9007199254740988 - y2)) (x3 + (9007199254740988 - y3)) (x4 + (9007199254740988 - y4))).length = 5 := rfl
    generalize carL (x0 + (9007199254740988 - y0) - 72) (x1 + (9007199254740988 - y1)) (x2 + (9007199254740988 - y2)) (x3 + (9007199254740988 - y3)) (x4 + (9007199254740988 - y4)) = C at *
    have hz5 : List.replicate 5 (Value.int .u64 0) = [.int .u64 0, .int .u64 0, .int .u64 0, .int .u64 0, .int .u64 0] := rfl
    have hr5 : ∀ a b c d e : Int, rf (.agg [.int .u64 a, .int .u64 b, .int .u64 c, .int .u64 d, .int .u64 e].toArray) = true := fun _ _ _ _ _ => rfl
    have u0 := fun s => @evCode_loop T 0 a61_l0 s
    have v0 := fun s => @evCode_block T 0 0 (.loop a61_l0) s
    have d0 : ∀ s, evCode T 0 a61_l0 s = evCode T 0 _ s := fun s => congrArg (fun c => evCode T 0 c s) a61_l0.eq_1
    have hrC : rf (.agg (ns .u64 C).toArray) = true := rf_ns _ _
    simp only [eV, ns_cons, ns_nil] at c1 ⊢
    apply evVal_ex
    apply Exists.intro
    rw [evFun_fn (fn := a61) rfl]
    simp only [a61, envOf, evCode_skip, evCode_exit, evCode_seq, fs_blockS, fs_blockR, fs_blockC, fs_blockK, fs_blockB, evCode_ret, quiet, keep_nil, keep_cons, fs_cond, fs_region, fs_regionP, fs_nil, fs_guard, fs_move, fs_pick, fs_alloc, fs_box, fs_load, fs_store, fs_bin, fs_eqv, fs_isNil, fs_un, fs_conv, fs_convStr, fs_field, fs_index, fs_indexStr, fs_build, fs_buildSlice, fs_fieldAddr, fs_indexAddr, fs_indexSl, fs_sliceArr, fs_sliceSl, fs_sliceStr, fs_makeSlice, fs_extract, fs_mkIface, fs_mkFunc, fs_nilCheck, fs_s2ap, fs_len, fs_minmax, fs_s2b, fs_b2s, fs_append, fs_copy, fs_callW, fs_callR, fs_callv, opd_tmp, opd_const, opd_func, opds_nil, opds_cons, opdOpt_none, opdOpt_some, opdParts_nil, opdParts_cons, get_miss, vPick_t, vPick_f, vEq_agg, vEq_aggN, vEq_bool, vEq_boolN, vConv_int, vStr_s, vField_agg, vIndex_agg, vIndexStr_s, vFieldAddr_p, vIndexAddr_p, vIndexSl_s, vSliceArr_p, vSliceSl_s, vSliceSl_n, vSliceStr_s, vExtract_t, vNilCheck_p, vS2ap_s, vLen_s, vLen_str, vMin_i, vMax_i, vLoad_p, vStore_p, baseP_p, vB2s_s, vMake_i, vS2b_s, callee_f, liveAt_eq, storeAt_eq, partL_none, partL_some, natIn_none, natIn_int, bounds3_two, bin_add, bin_sub, bin_mul, bin_quo, bin_rem, bin_and, bin_or, bin_xor, bin_andNot, bin_eql, bin_neq, bin_lss, bin_leq, bin_gtr, bin_geq, bin_shl, bin_shr, bin_sadd, bin_seql, bin_sneq, un_not, un_neg, un_xor, after_some, put_some, put_none, res_nil, res_val, res_var, packed_one, packed_two, merge_nil, merge_ge, rf_tup2, rfIn_int, rfIn_bool, rfIn_u8s, rf_str, rfIn_str, ↓gate_true, gd_bool, gd_ut, gd_uf, ↓guardV_tt, ↓guardV_ff, ↓guardV_tf, ↓guardV_ft, ↓keepV_some, ↓qElse_some, ↓get_hit, ↓Option.bind_some, ↓if_true, ↓if_false, List.nil_append, List.cons_append, List.all_nil, List.all_cons, List.isEmpty_nil, reduceCtorEq, Bool.false_eq_true, Nat.reduceEqDiff, beq_self_eq_true, bne_self_eq_false, Bool.not_true, Bool.not_false, Int.natCast_nonneg, Nat.lt_irrefl, false_and, Int.reduceEq, rf_int, rf_bool, rf_tuple_ints, rf_u8s, arr_list, toList2, Bool.and_self, Nat.not_lt_zero, Nat.sub_zero, Nat.zero_le, Nat.le_add_right, cells_agg, cells_agg_size, cells_int, cells_int_size, okV_int, okV_bool, okV_str, okV_agg, okV_ptr, okV_slice, okV_func, okV_nilFunc, okV_iface, okV_nilIface, cells_bool, cells_bool_size, cells_ptr, cells_ptr_size, cells_slice, cells_slice_size, cells_str, cells_str_size, eq_self, wrapI64_small, Int.natCast_zero, Int.natCast_one, Int.cast_ofNat_Int, List.length_nil, List.length_cons, List.getElem?_cons_zero, List.getElem?_cons_succ, List.set_cons_zero, List.set_cons_succ, Nat.zero_add, Nat.add_zero, Nat.mul_one, Nat.zero_mul, Int.toNat_natCast, Int.toNat_zero, Int.lt_irrefl, Int.le_refl, Nat.le_refl, and_self, true_and, and_true, decide_true, decide_false, Int.reduceLE, Int.reduceLT, Int.reduceAdd, Int.reduceMul, Int.reduceSub, Int.reduceTDiv, Int.reduceTMod, Int.reduceNeg, Int.reduceToNat, Int.reduceGT, Int.reduceGE, Int.reducePow, Nat.reduceAdd, Nat.reduceMul, Nat.reduceSub, Nat.reduceDiv, Nat.reduceMod, Nat.reducePow, Nat.reduceLT, Nat.reduceLeDiff, Nat.min_self, ge_iff_le, gt_iff_lt, Option.isNone_none, Option.isSome_none, Option.isNone_some, Option.isSome_some, Bool.and_true, Bool.true_and, Bool.and_false, Bool.false_and, not_true_eq_false, not_false_eq_true, or_true, true_or, false_or, or_false, hget0, hgetK, hset0, hsetK, splice_single, splice_whole, take_whole, List.getElem?_nil, List.length_append, List.append_assoc, n_add, n_mul, n_ladd, n_addl, n_lmul, n_mull, n_fdiv, n_fdivl, n_tdiv, n_tmod, n_w64, n_w32, n_w16, n_w8, n_sub64, n_lsub64, n_subl64, n_m32, n_m51, n_m1, n_m1b, n_m7b, p64_32, p64_51, p64_13, p8_7, hz5, c1, hr5, u0, v0, d0, s0, s1, s2, s3, s4, t0, t1, t2, t3, t4, r0, ns_len, hl, hrC]
    rfl
  · rw [carL_fe]
    have e : v51 [x0 + (9007199254740988 - y0) - 72, x1 + (9007199254740988 - y1), x2 + (9007199254740988 - y2), x3 + (9007199254740988 - y3), x4 + (9007199254740988 - y4)] + v51 [y0, y1, y2, y3, y4] = v51 [x0, x1, x2, x3, x4] + 4 * Go.Fp.P := by
      simp only [v51, num, Go.Fp.P_eq]
      omega
    have h := congrArg Go.Fp.fp e
    rw [Go.Fp.fp_add, Go.Fp.fp_add, Go.Fp.fp_mulP] at h
    unfold fe
    grobner
def two_el (x y : List Nat) : Ob := ⟨ns .u64 (x ++ y), true, true, true, 1⟩
set_option maxHeartbeats 2000000 in
theorem add2_ev {H : List Ob} {id : Nat} {x y : List Nat} (hx : El x (2 ^ 52)) (hy : El y (2 ^ 52)) (h : H[id]? = some (two_el x y)) : ∃ r s, evFun T 62 [.slice (some ⟨id, 0, none⟩) 2 2] H = some (eV r, H ++ [⟨ns .u64 r, true, true, true, 1⟩, ⟨ns .u64 s, true, true, true, 1⟩, ⟨ns .u64 x, true, true, true, 1⟩, ⟨ns .u64 y, true, true, true, 1⟩], []) ∧ El r (2 ^ 52) ∧ fe r = fe x + fe y := by
  have hid : id < H.length := (List.getElem?_eq_some_iff.1 h).1
  have hA : ∀ l, (H ++ l)[id]? = some (two_el x y) := fun l => by rw [List.getElem?_append_left hid]; exact h
  obtain ⟨x0, x1, x2, x3, x4, rfl, a0, a1, a2, a3, a4⟩ := hx.five
  obtain ⟨y0, y1, y2, y3, y4, rfl, b0, b1, b2, b3, b4⟩ := hy.five
  refine ⟨carL (x0 + y0) (x1 + y1) (x2 + y2) (x3 + y3) (x4 + y4), [x0 + y0, x1 + y1, x2 + y2, x3 + y3, x4 + y4], ?_, carL_el (by omega) (by omega) (by omega) (by omega) (by omega), ?_⟩
  · have s0 : (0 + x0) % 18446744073709551616 = x0 := by omega
    have s1 : (0 + x1) % 18446744073709551616 = x1 := by omega
    have s2 : (0 + x2) % 18446744073709551616 = x2 := by omega
    have s3 : (0 + x3) % 18446744073709551616 = x3 := by omega
    have s4 : (0 + x4) % 18446744073709551616 = x4 := by omega
    have q0 : x0 % 18446744073709551616 = x0 := by omega
    have q1 : x1 % 18446744073709551616 = x1 := by omega
    have q2 : x2 % 18446744073709551616 = x2 := by omega
    have q3 : x3 % 18446744073709551616 = x3 := by omega
    have q4 : x4 % 18446744073709551616 = x4 := by omega
    have t0 : (x0 + y0) % 18446744073709551616 = x0 + y0 := by omega
    have t1 : (x1 + y1) % 18446744073709551616 = x1 + y1 := by omega
    have t2 : (x2 + y2) % 18446744073709551616 = x2 + y2 := by omega
    have t3 : (x3 + y3) % 18446744073709551616 = x3 + y3 := by omega
    have t4 : (x4 + y4) % 18446744073709551616 = x4 + y4 := by omega
    have c1 := carried_v (x0 := x0 + y0) (x1 := x1 + y1) (x2 := x2 + y2) (x3 := x3 + y3) (x4 := x4 + y4) (by omega) (by omega) (by omega) (by omega) (by omega)
    have hl : (carL (x0 + y0) (x1 + y1) (x2 + y2) (x3 + y3) (x4 + y4)).length = 5 := rfl
    generalize carL (x0 + y0) (x1 + y1) (x2 + y2) (x3 + y3) (x4 + y4) = C at *
    have hz5 : List.replicate 5 (Value.int .u64 0) = [.int .u64 0, .int .u64 0, .int .u64 0, .int .u64 0, .int .u64 0] := rfl
    have hr5 : ∀ a b c d e : Int, rf (.agg [.int .u64 a, .int .u64 b, .int .u64 c, .int .u64 d, .int .u64 e].toArray) = true := fun _ _ _ _ _ => rfl
    have u0 := fun s => @evCode_loop T H.length a62_l0 s
    have v0 := fun s => @evCode_block T H.length 2 (.loop a62_l0) s
    have d0 : ∀ s, evCode T H.length a62_l0 s = evCode T H.length _ s := fun s => congrArg (fun c => evCode T H.length c s) a62_l0.eq_1
    have u1 := fun s => @evCode_loop T H.length a62_l1 s
    have v1 := fun s => @evCode_block T H.length 0 (.loop a62_l1) s
    have d1 : ∀ s, evCode T H.length a62_l1 s = evCode T H.length _ s := fun s => congrArg (fun c => evCode T H.length c s) a62_l1.eq_1
    have hrC : rf (.agg (ns .u64 C).toArray) = true := rf_ns _ _
    have p1 : ∀ a b c d e f g i j k : Value, List.take 5 (List.drop 0 [a, b, c, d, e, f, g, i, j, k]) = [a, b, c, d, e] := fun _ _ _ _ _ _ _ _ _ _ => rfl
    have p2 : ∀ a b c d e f g i j k : Value, List.take 5 (List.drop 5 [a, b, c, d, e, f, g, i, j, k]) = [f, g, i, j, k] := fun _ _ _ _ _ _ _ _ _ _ => rfl
    simp only [eV, ns_cons, ns_nil] at c1 ⊢
    simp only [two_el, List.cons_append, List.nil_append, ns_cons, ns_nil] at hA h
    rw [evFun_fn (fn := a62) rfl]
    simp only [a62, Int.reduceBEq, Int.reduceBNe, envOf, evCode_skip, evCode_exit, evCode_seq, fs_blockS, fs_blockR, fs_blockC, fs_blockK, fs_blockB, evCode_ret, quiet, keep_nil, keep_cons, fs_cond, fs_region, fs_regionP, fs_nil, fs_guard, fs_move, fs_pick, fs_alloc, fs_box, fs_load, fs_store, fs_bin, fs_eqv, fs_isNil, fs_un, fs_conv, fs_convStr, fs_field, fs_index, fs_indexStr, fs_build, fs_buildSlice, fs_fieldAddr, fs_indexAddr, fs_indexSl, fs_sliceArr, fs_sliceSl, fs_sliceStr, fs_makeSlice, fs_extract, fs_mkIface, fs_mkFunc, fs_nilCheck, fs_s2ap, fs_len, fs_minmax, fs_s2b, fs_b2s, fs_append, fs_copy, fs_callW, fs_callR, fs_callv, opd_tmp, opd_const, opd_func, opds_nil, opds_cons, opdOpt_none, opdOpt_some, opdParts_nil, opdParts_cons, get_miss, vPick_t, vPick_f, vEq_agg, vEq_aggN, vEq_bool, vEq_boolN, vConv_int, vStr_s, vField_agg, vIndex_agg, vIndexStr_s, vFieldAddr_p, vIndexAddr_p, vIndexSl_s, vSliceArr_p, vSliceSl_s, vSliceSl_n, vSliceStr_s, vExtract_t, vNilCheck_p, vS2ap_s, vLen_s, vLen_str, vMin_i, vMax_i, vLoad_p, vStore_p, baseP_p, vB2s_s, vMake_i, vS2b_s, callee_f, liveAt_eq, storeAt_eq, partL_none, partL_some, natIn_none, natIn_int, bounds3_two, bin_add, bin_sub, bin_mul, bin_quo, bin_rem, bin_and, bin_or, bin_xor, bin_andNot, bin_eql, bin_neq, bin_lss, bin_leq, bin_gtr, bin_geq, bin_shl, bin_shr, bin_sadd, bin_seql, bin_sneq, un_not, un_neg, un_xor, after_some, put_some, put_none, res_nil, res_val, res_var, packed_one, packed_two, merge_nil, merge_ge, rf_tup2, rfIn_int, rfIn_bool, rfIn_u8s, rf_str, rfIn_str, ↓gate_true, gd_bool, gd_ut, gd_uf, ↓guardV_tt, ↓guardV_ff, ↓guardV_tf, ↓guardV_ft, ↓keepV_some, ↓qElse_some, ↓get_hit, ↓Option.bind_some, ↓if_true, ↓if_false, List.nil_append, List.cons_append, List.all_nil, List.all_cons, List.isEmpty_nil, reduceCtorEq, Bool.false_eq_true, Nat.reduceEqDiff, beq_self_eq_true, bne_self_eq_false, Bool.not_true, Bool.not_false, Int.natCast_nonneg, Nat.lt_irrefl, false_and, Int.reduceEq, rf_int, rf_bool, rf_tuple_ints, rf_u8s, arr_list, toList2, Bool.and_self, Nat.not_lt_zero, Nat.sub_zero, Nat.zero_le, Nat.le_add_right, cells_agg, cells_agg_size, cells_int, cells_int_size, okV_int, okV_bool, okV_str, okV_agg, okV_ptr, okV_slice, okV_func, okV_nilFunc, okV_iface, okV_nilIface, cells_bool, cells_bool_size, cells_ptr, cells_ptr_size, cells_slice, cells_slice_size, cells_str, cells_str_size, eq_self, wrapI64_small, Int.natCast_zero, Int.natCast_one, Int.cast_ofNat_Int, List.length_nil, List.length_cons, List.getElem?_cons_zero, List.getElem?_cons_succ, List.set_cons_zero, List.set_cons_succ, Nat.zero_add, Nat.add_zero, Nat.mul_one, Nat.zero_mul, Int.toNat_natCast, Int.toNat_zero, Int.lt_irrefl, Int.le_refl, Nat.le_refl, and_self, true_and, and_true, decide_true, decide_false, Int.reduceLE, Int.reduceLT, Int.reduceAdd, Int.reduceMul, Int.reduceSub, Int.reduceTDiv, Int.reduceTMod, Int.reduceNeg, Int.reduceToNat, Int.reduceGT, Int.reduceGE, Int.reducePow, Nat.reduceAdd, Nat.reduceMul, Nat.reduceSub, Nat.reduceDiv, Nat.reduceMod, Nat.reducePow, Nat.reduceLT, Nat.reduceLeDiff, Nat.min_self, ge_iff_le, gt_iff_lt, Option.isNone_none, Option.isSome_none, Option.isNone_some, Option.isSome_some, Bool.and_true, Bool.true_and, Bool.and_false, Bool.false_and, not_true_eq_false, not_false_eq_true, or_true, true_or, false_or, or_false, hget0, hgetK, hset0, hsetK, splice_single, splice_whole, take_whole, List.getElem?_nil, List.length_append, List.append_assoc, n_add, n_mul, n_ladd, n_addl, n_lmul, n_mull, n_fdiv, n_fdivl, n_tdiv, n_tmod, n_w64, n_w32, n_w16, n_w8, n_sub64, n_lsub64, n_subl64, n_m32, n_m51, n_m1, n_m1b, n_m7b, p64_32, p64_51, p64_13, p8_7, h, hA, hz5, c1, hr5, u0, v0, d0, u1, v1, d1, p1, p2, s0, s1, s2, s3, s4, q0, q1, q2, q3, q4, t0, t1, t2, t3, t4, ns_len, hl, hrC]
  · rw [carL_fe]
    have e : v51 [x0 + y0, x1 + y1, x2 + y2, x3 + y3, x4 + y4] = v51 [x0, x1, x2, x3, x4] + v51 [y0, y1, y2, y3, y4] := by
      simp only [v51, num]
      omega
    unfold fe
    rw [e, Go.Fp.fp_add]
end Go.Ev.Ytaceeoghjgggjaa
set_option linter.unusedSimpArgs false
set_option linter.unusedVariables false
namespace Go.Ev.Ytaceeoghjgggjaa
open Go Go.Ev
attribute [local congr] bind_congr2 ite_congr2 qElse_congr gate_congr guardV_congr
set_option maxRecDepth 100000
theorem part5 {a b c : List Nat} {n : Nat} (hb : b.length = 5) (ha : a.length = n) : List.take 5 (List.drop n (ns .u64 (a ++ (b ++ c)))) = ns .u64 b := by
  simp only [ns_append]
  rw [List.drop_append_of_le_length (by rw [ns_len]; omega), List.drop_of_length_le (by rw [ns_len]; omega), List.nil_append, List.take_append_of_le_length (by rw [ns_len]; omega), List.take_of_length_le (by rw [ns_len]; omega)]
theorem prod_body {H : List Ob} {l : List Ob} {id n i : Nat} {o x r R : List Nat} {cs : List Value} {g : List Ob} (hi : i < n) (hn : n < 100) (hx : El x (2 ^ 52)) (ho : El o (2 ^ 52)) (hm : evVal T 51 [eV o, eV x] = some (eV r)) (hr : El r (2 ^ 52))
    (hA : ∀ l, (H ++ l)[id]? = some ⟨cs, true, true, true, 1⟩) (hcs : (cs.drop (i * 5)).take 5 = ns .u64 x) (hlen : i * 5 + 5 ≤ cs.length) :
    evCode T H.length a82_l0 ⟨[(2, .pointer (some ⟨H.length, 0, none⟩)), (3, .pointer (some ⟨H.length + 1, 0, none⟩)), (7, .slice (some ⟨id, 0, none⟩) n n), (8, .int .i64 n), (9, .int .i64 i)], H ++ (⟨ns .u64 R, true, true, true, 1⟩ :: ⟨ns .u64 o, true, true, true, 1⟩ :: g), []⟩ =
      some (.normal, ⟨[(2, .pointer (some ⟨H.length, 0, none⟩)), (3, .pointer (some ⟨H.length + 1, 0, none⟩)), (7, .slice (some ⟨id, 0, none⟩) n n), (8, .int .i64 n), (9, .int .i64 ((i + 1 : Nat) : Int))], H ++ (⟨ns .u64 R, true, true, true, 1⟩ :: ⟨ns .u64 r, true, true, true, 1⟩ :: (g ++ [⟨ns .u64 x, true, true, true, 1⟩])), []⟩) := by
  have hz5 : List.replicate 5 (Value.int .u64 0) = ns .u64 [0, 0, 0, 0, 0] := rfl
  have l0 : (ns .u64 [0, 0, 0, 0, 0]).length = 5 := rfl
  have l1 := hx.len
  have l2 := ho.len
  have l3 := hr.len
  have e1 : ((i : Int) < (n : Int)) = True := eq_true (by omega)
  have w3 : IntKind.i64.wrap ((i : Int) + 1) = ((i + 1 : Nat) : Int) := wrap_nat (n := i + 1) (by omega)
  simp only [a82_l0, envOf, evCode_skip, evCode_exit, evCode_seq, fs_blockS, fs_blockR, fs_blockC, fs_blockK, fs_blockB, evCode_ret, quiet, keep_nil, keep_cons, fs_cond, fs_region, fs_regionP, fs_nil, fs_guard, fs_move, fs_pick, fs_alloc, fs_box, fs_load, fs_store, fs_bin, fs_eqv, fs_isNil, fs_un, fs_conv, fs_convStr, fs_field, fs_index, fs_indexStr, fs_build, fs_buildSlice, fs_fieldAddr, fs_indexAddr, fs_indexSl, fs_sliceArr, fs_sliceSl, fs_sliceStr, fs_makeSlice, fs_extract, fs_mkIface, fs_mkFunc, fs_nilCheck, fs_s2ap, fs_len, fs_minmax, fs_s2b, fs_b2s, fs_append, fs_copy, fs_callW, fs_callR, fs_callv, opd_tmp, opd_const, opd_func, opds_nil, opds_cons, opdOpt_none, opdOpt_some, opdParts_nil, opdParts_cons, get_miss, vPick_t, vPick_f, vEq_agg, vEq_aggN, vEq_bool, vEq_boolN, vConv_int, vStr_s, vField_agg, vIndex_agg, vIndexStr_s, vFieldAddr_p, vIndexAddr_p, vIndexSl_s, vSliceArr_p, vSliceSl_s, vSliceSl_n, vSliceStr_s, vExtract_t, vNilCheck_p, vS2ap_s, vLen_s, vLen_str, vMin_i, vMax_i, vLoad_p, vStore_p, baseP_p, vB2s_s, vMake_i, vS2b_s, callee_f, liveAt_eq, storeAt_eq, partL_none, partL_some, natIn_none, natIn_int, bounds3_two, bin_add, bin_sub, bin_mul, bin_quo, bin_rem, bin_and, bin_or, bin_xor, bin_andNot, bin_eql, bin_neq, bin_lss, bin_leq, bin_gtr, bin_geq, bin_shl, bin_shr, bin_sadd, bin_seql, bin_sneq, un_not, un_neg, un_xor, after_some, put_some, put_none, res_nil, res_val, res_var, packed_one, packed_two, merge_nil, merge_ge, rf_tup2, rfIn_int, rfIn_bool, rfIn_u8s, rf_str, rfIn_str, ↓gate_true, gd_bool, gd_ut, gd_uf, ↓guardV_tt, ↓guardV_ff, ↓guardV_tf, ↓guardV_ft, ↓keepV_some, ↓qElse_some, ↓get_hit, ↓Option.bind_some, ↓if_true, ↓if_false, List.nil_append, List.cons_append, List.all_nil, List.all_cons, List.isEmpty_nil, reduceCtorEq, Bool.false_eq_true, Nat.reduceEqDiff, beq_self_eq_true, bne_self_eq_false, Bool.not_true, Bool.not_false, Int.natCast_nonneg, Nat.lt_irrefl, false_and, Int.reduceEq, rf_int, rf_bool, rf_tuple_ints, rf_u8s, arr_list, toList2, Bool.and_self, Nat.not_lt_zero, Nat.sub_zero, Nat.zero_le, Nat.le_add_right, cells_agg, cells_agg_size, cells_int, cells_int_size, okV_int, okV_bool, okV_str, okV_agg, okV_ptr, okV_slice, okV_func, okV_nilFunc, okV_iface, okV_nilIface, cells_bool, cells_bool_size, cells_ptr, cells_ptr_size, cells_slice, cells_slice_size, cells_str, cells_str_size, eq_self, wrapI64_small, Int.natCast_zero, Int.natCast_one, Int.cast_ofNat_Int, List.length_nil, List.length_cons, List.getElem?_cons_zero, List.getElem?_cons_succ, List.set_cons_zero, List.set_cons_succ, Nat.zero_add, Nat.add_zero, Nat.mul_one, Nat.zero_mul, Int.toNat_natCast, Int.toNat_zero, Int.lt_irrefl, Int.le_refl, Nat.le_refl, and_self, true_and, and_true, decide_true, decide_false, Int.reduceLE, Int.reduceLT, Int.reduceAdd, Int.reduceMul, Int.reduceSub, Int.reduceTDiv, Int.reduceTMod, Int.reduceNeg, Int.reduceToNat, Int.reduceGT, Int.reduceGE, Int.reducePow, Nat.reduceAdd, Nat.reduceMul, Nat.reduceSub, Nat.reduceDiv, Nat.reduceMod, Nat.reducePow, Nat.reduceLT, Nat.reduceLeDiff, Nat.min_self, ge_iff_le, gt_iff_lt, Option.isNone_none, Option.isSome_none, Option.isNone_some, Option.isSome_some, Bool.and_true, Bool.true_and, Bool.and_false, Bool.false_and, not_true_eq_false, not_false_eq_true, or_true, true_or, false_or, or_false, hget0, hgetK, hset0, hsetK, splice_single, splice_whole, take_whole, List.getElem?_nil, List.length_append, List.append_assoc, Nat.add_assoc, hz5, hA, hcs, hlen, hm, eV_cells, eV_size, eV_ok, eV_fold, ns_len, l0, l1, l2, l3, rf_eV, e1, w3]
theorem one_fe : fe [1, 0, 0, 0, 0] = 1 := by rw [small_fe]; rfl
theorem one_el : El [1, 0, 0, 0, 0] (2 ^ 52) := small_el (by decide)
theorem prod_ev {H : List Ob} {id n : Nat} {xs : List (List Nat)} (hn : xs.length = n) (hN : n < 100) (hx : ∀ x ∈ xs, El x (2 ^ 52)) (h : H[id]? = some ⟨ns .u64 xs.flatten, true, true, true, 1⟩) :
    ∃ r, evFun T 82 [.slice (some ⟨id, 0, none⟩) n n] H = some (eV r, H ++ (⟨ns .u64 r, true, true, true, 1⟩ :: ⟨ns .u64 r, true, true, true, 1⟩ :: xs.map fun x => (⟨ns .u64 x, true, true, true, 1⟩ : Ob)), []) ∧ El r (2 ^ 52) ∧ fe r = (xs.map fe).foldl (· * ·) 1 := by
  have hid : id < H.length := (List.getElem?_eq_some_iff.1 h).1
  have hA : ∀ l, (H ++ l)[id]? = some ⟨ns .u64 xs.flatten, true, true, true, 1⟩ := fun l => by rw [List.getElem?_append_left hid]; exact h
  have hfl : ∀ (ys : List (List Nat)), (∀ x ∈ ys, El x (2 ^ 52)) → ys.flatten.length = ys.length * 5 := by
    intro ys hy
    induction ys with
    | nil => rfl
    | cons y ys ih =>
      rw [List.flatten_cons, List.length_append, ih (fun x hx => hy x (by simp [hx])), (hy y (by simp)).len, List.length_cons]; omega
  obtain ⟨st, hb, r, rfl, hr1, hr2⟩ := block_inv (T := T) (base := H.length) (id := 0) (body := a82_l0)
    (fun i st => ∃ r : List Nat, st = ⟨[(2, .pointer (some ⟨H.length, 0, none⟩)), (3, .pointer (some ⟨H.length + 1, 0, none⟩)), (7, .slice (some ⟨id, 0, none⟩) n n), (8, .int .i64 n), (9, .int .i64 (i : Nat))], H ++ (⟨ns .u64 [0, 0, 0, 0, 0], true, true, true, 1⟩ :: ⟨ns .u64 r, true, true, true, 1⟩ :: ((xs.take i).map fun x => (⟨ns .u64 x, true, true, true, 1⟩ : Ob))), []⟩ ∧ El r (2 ^ 52) ∧ fe r = ((xs.take i).map fe).foldl (· * ·) 1)
    (Q := fun st => ∃ r : List Nat, st = ⟨[(2, .pointer (some ⟨H.length, 0, none⟩)), (3, .pointer (some ⟨H.length + 1, 0, none⟩)), (7, .slice (some ⟨id, 0, none⟩) n n), (8, .int .i64 n), (9, .int .i64 n), (10, .bool false)], H ++ (⟨ns .u64 [0, 0, 0, 0, 0], true, true, true, 1⟩ :: ⟨ns .u64 r, true, true, true, 1⟩ :: (xs.map fun x => (⟨ns .u64 x, true, true, true, 1⟩ : Ob))), []⟩ ∧ El r (2 ^ 52) ∧ fe r = (xs.map fe).foldl (· * ·) 1)
    n (s := ⟨[(2, .pointer (some ⟨H.length, 0, none⟩)), (3, .pointer (some ⟨H.length + 1, 0, none⟩)), (7, .slice (some ⟨id, 0, none⟩) n n), (8, .int .i64 n), (9, .int .i64 0)], H ++ [⟨ns .u64 [0, 0, 0, 0, 0], true, true, true, 1⟩, ⟨ns .u64 [1, 0, 0, 0, 0], true, true, true, 1⟩], []⟩) ⟨[1, 0, 0, 0, 0], rfl, one_el, one_fe⟩
    (fun i st hi hs => by
      obtain ⟨r, rfl, hr1, hr2⟩ := hs
      obtain ⟨x, hxi⟩ : ∃ y, xs[i]? = some y := ⟨_, List.getElem?_eq_getElem (by omega)⟩
      have hxe := hx x (List.mem_of_getElem? hxi)
      obtain ⟨r', hm, g1, g2⟩ := mul_ev hr1 hxe
      have hsplit : xs = xs.take i ++ x :: xs.drop (i + 1) := by
        have h1 := List.getElem?_eq_some_iff.1 hxi
        conv => lhs; rw [← List.take_append_drop i xs, List.drop_eq_getElem_cons h1.1, h1.2]
      have htl : (xs.take i).flatten.length = i * 5 := by
        rw [hfl _ (fun y hy => hx y (List.mem_of_mem_take hy)), List.length_take, Nat.min_eq_left (by omega)]
      have hcs : ((ns .u64 xs.flatten).drop (i * 5)).take 5 = ns .u64 x := by
        conv => lhs; rw [hsplit, List.flatten_append, List.flatten_cons]
        exact part5 hxe.len htl
      have hb := prod_body (R := [0, 0, 0, 0, 0]) (g := (xs.take i).map fun x => (⟨ns .u64 x, true, true, true, 1⟩ : Ob)) (l := []) hi hN hxe hr1 hm g1 hA hcs (by rw [ns_len, hfl xs hx, hn]; omega)
      have htk : xs.take (i + 1) = xs.take i ++ [x] := by rw [List.take_add_one, hxi]; rfl
      refine ⟨_, hb, r', ?_, g1, ?_⟩
      · rw [htk, List.map_append]; rfl
      · rw [htk, List.map_append, List.foldl_append, ← hr2, g2]; rfl)
    (fun st hs => by
      obtain ⟨r, rfl, hr1, hr2⟩ := hs
      have e1 : ((n : Int) < (n : Int)) = False := eq_false (by omega)
      have ht : xs.take n = xs := List.take_of_length_le (by omega)
      rw [ht] at hr2 ⊢
      refine ⟨_, ?_, r, rfl, hr1, hr2⟩
      simp only [a82_l0, envOf, evCode_skip, evCode_exit, evCode_seq, fs_blockS, fs_blockR, fs_blockC, fs_blockK, fs_blockB, evCode_ret, quiet, keep_nil, keep_cons, fs_cond, fs_region, fs_regionP, fs_nil, fs_guard, fs_move, fs_pick, fs_alloc, fs_box, fs_load, fs_store, fs_bin, fs_eqv, fs_isNil, fs_un, fs_conv, fs_convStr, fs_field, fs_index, fs_indexStr, fs_build, fs_buildSlice, fs_fieldAddr, fs_indexAddr, fs_indexSl, fs_sliceArr, fs_sliceSl, fs_sliceStr, fs_makeSlice, fs_extract, fs_mkIface, fs_mkFunc, fs_nilCheck, fs_s2ap, fs_len, fs_minmax, fs_s2b, fs_b2s, fs_append, fs_copy, fs_callW, fs_callR, fs_callv, opd_tmp, opd_const, opd_func, opds_nil, opds_cons, opdOpt_none, opdOpt_some, opdParts_nil, opdParts_cons, get_miss, vPick_t, vPick_f, vEq_agg, vEq_aggN, vEq_bool, vEq_boolN, vConv_int, vStr_s, vField_agg, vIndex_agg, vIndexStr_s, vFieldAddr_p, vIndexAddr_p, vIndexSl_s, vSliceArr_p, vSliceSl_s, vSliceSl_n, vSliceStr_s, vExtract_t, vNilCheck_p, vS2ap_s, vLen_s, vLen_str, vMin_i, vMax_i, vLoad_p, vStore_p, baseP_p, vB2s_s, vMake_i, vS2b_s, callee_f, liveAt_eq, storeAt_eq, partL_none, partL_some, natIn_none, natIn_int, bounds3_two, bin_add, bin_sub, bin_mul, bin_quo, bin_rem, bin_and, bin_or, bin_xor, bin_andNot, bin_eql, bin_neq, bin_lss, bin_leq, bin_gtr, bin_geq, bin_shl, bin_shr, bin_sadd, bin_seql, bin_sneq, un_not, un_neg, un_xor, after_some, put_some, put_none, res_nil, res_val, res_var, packed_one, packed_two, merge_nil, merge_ge, rf_tup2, rfIn_int, rfIn_bool, rfIn_u8s, rf_str, rfIn_str, ↓gate_true, gd_bool, gd_ut, gd_uf, ↓guardV_tt, ↓guardV_ff, ↓guardV_tf, ↓guardV_ft, ↓keepV_some, ↓qElse_some, ↓get_hit, ↓Option.bind_some, ↓if_true, ↓if_false, List.nil_append, List.cons_append, List.all_nil, List.all_cons, List.isEmpty_nil, reduceCtorEq, Bool.false_eq_true, Nat.reduceEqDiff, beq_self_eq_true, bne_self_eq_false, Bool.not_true, Bool.not_false, Int.natCast_nonneg, Nat.lt_irrefl, false_and, Int.reduceEq, rf_int, rf_bool, rf_tuple_ints, rf_u8s, arr_list, toList2, Bool.and_self, Nat.not_lt_zero, Nat.sub_zero, Nat.zero_le, Nat.le_add_right, cells_agg, cells_agg_size, cells_int, cells_int_size, okV_int, okV_bool, okV_str, okV_agg, okV_ptr, okV_slice, okV_func, okV_nilFunc, okV_iface, okV_nilIface, cells_bool, cells_bool_size, cells_ptr, cells_ptr_size, cells_slice, cells_slice_size, cells_str, cells_str_size, eq_self, wrapI64_small, Int.natCast_zero, Int.natCast_one, Int.cast_ofNat_Int, List.length_nil, List.length_cons, List.getElem?_cons_zero, List.getElem?_cons_succ, List.set_cons_zero, List.set_cons_succ, Nat.zero_add, Nat.add_zero, Nat.mul_one, Nat.zero_mul, Int.toNat_natCast, Int.toNat_zero, Int.lt_irrefl, Int.le_refl, Nat.le_refl, and_self, true_and, and_true, decide_true, decide_false, Int.reduceLE, Int.reduceLT, Int.reduceAdd, Int.reduceMul, Int.reduceSub, Int.reduceTDiv, Int.reduceTMod, Int.reduceNeg, Int.reduceToNat, Int.reduceGT, Int.reduceGE, Int.reducePow, Nat.reduceAdd, Nat.reduceMul, Nat.reduceSub, Nat.reduceDiv, Nat.reduceMod, Nat.reducePow, Nat.reduceLT, Nat.reduceLeDiff, Nat.min_self, ge_iff_le, gt_iff_lt, Option.isNone_none, Option.isSome_none, Option.isNone_some, Option.isSome_some, Bool.and_true, Bool.true_and, Bool.and_false, Bool.false_and, not_true_eq_false, not_false_eq_true, or_true, true_or, false_or, or_false, e1])
  refine ⟨r, ?_, hr1, hr2⟩
  have hz5 : List.replicate 5 (Value.int .u64 0) = ns .u64 [0, 0, 0, 0, 0] := rfl
  have l0 : (ns .u64 [0, 0, 0, 0, 0]).length = 5 := rfl
  have l1 := hr1.len
  have hs := small_v (n := 1) (by decide)
  have l2 : ([1, 0, 0, 0, 0] : List Nat).length = 5 := rfl
  simp only [Int.natCast_one] at hs
  rw [evFun_fn (fn := a82) rfl]
  simp only [a82, envOf, evCode_skip, evCode_exit, evCode_seq, fs_blockS, fs_blockR, fs_blockC, fs_blockK, fs_blockB, evCode_ret, quiet, keep_nil, keep_cons, fs_cond, fs_region, fs_regionP, fs_nil, fs_guard, fs_move, fs_pick, fs_alloc, fs_box, fs_load, fs_store, fs_bin, fs_eqv, fs_isNil, fs_un, fs_conv, fs_convStr, fs_field, fs_index, fs_indexStr, fs_build, fs_buildSlice, fs_fieldAddr, fs_indexAddr, fs_indexSl, fs_sliceArr, fs_sliceSl, fs_sliceStr, fs_makeSlice, fs_extract, fs_mkIface, fs_mkFunc, fs_nilCheck, fs_s2ap, fs_len, fs_minmax, fs_s2b, fs_b2s, fs_append, fs_copy, fs_callW, fs_callR, fs_callv, opd_tmp, opd_const, opd_func, opds_nil, opds_cons, opdOpt_none, opdOpt_some, opdParts_nil, opdParts_cons, get_miss, vPick_t, vPick_f, vEq_agg, vEq_aggN, vEq_bool, vEq_boolN, vConv_int, vStr_s, vField_agg, vIndex_agg, vIndexStr_s, vFieldAddr_p, vIndexAddr_p, vIndexSl_s, vSliceArr_p, vSliceSl_s, vSliceSl_n, vSliceStr_s, vExtract_t, vNilCheck_p, vS2ap_s, vLen_s, vLen_str, vMin_i, vMax_i, vLoad_p, vStore_p, baseP_p, vB2s_s, vMake_i, vS2b_s, callee_f, liveAt_eq, storeAt_eq, partL_none, partL_some, natIn_none, natIn_int, bounds3_two, bin_add, bin_sub, bin_mul, bin_quo, bin_rem, bin_and, bin_or, bin_xor, bin_andNot, bin_eql, bin_neq, bin_lss, bin_leq, bin_gtr, bin_geq, bin_shl, bin_shr, bin_sadd, bin_seql, bin_sneq, un_not, un_neg, un_xor, after_some, put_some, put_none, res_nil, res_val, res_var, packed_one, packed_two, merge_nil, merge_ge, rf_tup2, rfIn_int, rfIn_bool, rfIn_u8s, rf_str, rfIn_str, ↓gate_true, gd_bool, gd_ut, gd_uf, ↓guardV_tt, ↓guardV_ff, ↓guardV_tf, ↓guardV_ft, ↓keepV_some, ↓qElse_some, ↓get_hit, ↓Option.bind_some, ↓if_true, ↓if_false, List.nil_append, List.cons_append, List.all_nil, List.all_cons, List.isEmpty_nil, reduceCtorEq, Bool.false_eq_true, Nat.reduceEqDiff, beq_self_eq_true, bne_self_eq_false, Bool.not_true, Bool.not_false, Int.natCast_nonneg, Nat.lt_irrefl, false_and, Int.reduceEq, rf_int, rf_bool, rf_tuple_ints, rf_u8s, arr_list, toList2, Bool.and_self, Nat.not_lt_zero, Nat.sub_zero, Nat.zero_le, Nat.le_add_right, cells_agg, cells_agg_size, cells_int, cells_int_size, okV_int, okV_bool, okV_str, okV_agg, okV_ptr, okV_slice, okV_func, okV_nilFunc, okV_iface, okV_nilIface, cells_bool, cells_bool_size, cells_ptr, cells_ptr_size, cells_slice, cells_slice_size, cells_str, cells_str_size, eq_self, wrapI64_small, Int.natCast_zero, Int.natCast_one, Int.cast_ofNat_Int, List.length_nil, List.length_cons, List.getElem?_cons_zero, List.getElem?_cons_succ, List.set_cons_zero, List.set_cons_succ, Nat.zero_add, Nat.add_zero, Nat.mul_one, Nat.zero_mul, Int.toNat_natCast, Int.toNat_zero, Int.lt_irrefl, Int.le_refl, Nat.le_refl, and_self, true_and, and_true, decide_true, decide_false, Int.reduceLE, Int.reduceLT, Int.reduceAdd, Int.reduceMul, Int.reduceSub, Int.reduceTDiv, Int.reduceTMod, Int.reduceNeg, Int.reduceToNat, Int.reduceGT, Int.reduceGE, Int.reducePow, Nat.reduceAdd, Nat.reduceMul, Nat.reduceSub, Nat.reduceDiv, Nat.reduceMod, Nat.reducePow, Nat.reduceLT, Nat.reduceLeDiff, Nat.min_self, ge_iff_le, gt_iff_lt, Option.isNone_none, Option.isSome_none, Option.isNone_some, Option.isSome_some, Bool.and_true, Bool.true_and, Bool.and_false, Bool.false_and, not_true_eq_false, not_false_eq_true, or_true, true_or, false_or, or_false, hget0, hgetK, hset0, hsetK, splice_single, splice_whole, take_whole, List.getElem?_nil, List.length_append, List.append_assoc, Nat.add_assoc, hz5, hs, hb, eV_cells, eV_size, eV_ok, eV_fold, ns_len, l0, l1, l2, rf_eV]
end Go.Ev.Ytaceeoghjgggjaa
set_option linter.unusedSimpArgs false
set_option linter.unusedVariables false
namespace Go.Ev.Ytaceeoghjgggjaa
open Go Go.Ev
attribute [local congr] bind_congr2 ite_congr2 qElse_congr gate_congr guardV_congr
set_option maxRecDepth 100000
def pwI (x k o : List Nat) (i : Int) (ex : Env) : St := ⟨[(2, .pointer (some ⟨0, 0, none⟩)), (3, .pointer (some ⟨1, 0, none⟩)), (4, .pointer (some ⟨2, 0, none⟩)), (5, .pointer (some ⟨3, 0, none⟩)), (6, .int .i64 i)] ++ ex, [⟨ns .u64 x, true, true, true, 1⟩, ⟨u8s k, true, true, true, 1⟩, ⟨ns .u64 [0, 0, 0, 0, 0], true, true, true, 1⟩, ⟨ns .u64 o, true, true, true, 1⟩], []⟩
theorem pow_step (a : Go.Fp.Fe) (m b : Nat) (hb : b < 2) : Go.Fp.pow a (2 * m + b) = if b = 1 then Go.Fp.pow a m * Go.Fp.pow a m * a else Go.Fp.pow a m * Go.Fp.pow a m := by
  have h1 : Go.Fp.pow a (2 * m) = Go.Fp.pow a m * Go.Fp.pow a m := by rw [show 2 * m = m + m by omega, Go.Fp.pow_add]
  by_cases h : b = 1
  · subst h
    rw [if_pos rfl, Go.Fp.pow, h1]
  · have : b = 0 := by omega
    subst this
    rw [if_neg (by decide), Nat.add_zero, h1]
theorem pw_body {x k o : List Nat} {i : Nat} {ex : Env} (hx : El x (2 ^ 52)) (lk : k.length = 32) (xk : ∀ x ∈ k, x < 256) (hi : i < 256) (ho : El o (2 ^ 52)) (hp : fe o = Go.Fp.pow (fe x) (num 256 k / 2 ^ (i + 1))) :
    ∃ r, evCode T 0 a83_l0 (pwI x k o i ex) = some (.normal, pwI x k r ((i : Int) - 1) []) ∧ El r (2 ^ 52) ∧ fe r = Go.Fp.pow (fe x) (num 256 k / 2 ^ i) := by
  obtain ⟨b, hb⟩ : ∃ b, k[i / 8]? = some b := ⟨_, List.getElem?_eq_getElem (by omega)⟩
  have hbv := num_get (B := 256) (by decide) xk hb
  have hbc := u8s_get hb
  have hbit : b / 2 ^ (i % 8) % 2 = num 256 k / 2 ^ i % 2 := by
    rw [← hbv, show (256 : Nat) = 2 ^ 8 from rfl, bitOf (Nat.mod_lt _ (by decide)), Nat.div_add_mod]
  obtain ⟨r1, m1, g1, g2⟩ := mul_ev ho ho
  obtain ⟨r2, m2, g3, g4⟩ := mul_ev g1 hx
  have hlt := bit_lt (num 256 k) i
  have hnum : num 256 k / 2 ^ i = 2 * (num 256 k / 2 ^ (i + 1)) + num 256 k / 2 ^ i % 2 := by
    rw [Nat.pow_succ, ← Nat.div_div_eq_div_mul]
    omega
  have hstep := pow_step (fe x) (num 256 k / 2 ^ (i + 1)) (num 256 k / 2 ^ i % 2) hlt
  rw [← hnum, ← hp] at hstep
  have s1 : (2 : Int) ^ min (i % 8) IntKind.u8.bits = ((2 ^ (i % 8) : Nat) : Int) := pow_min (Nat.le_of_lt (Nat.mod_lt _ (by decide)))
  have w2 : IntKind.i64.wrap ((i / 8 : Nat) : Int) = ((i / 8 : Nat) : Int) := wrap_nat (by omega)
  have w3 : IntKind.i64.wrap ((i : Int) - 1) = (i : Int) - 1 := wrapI64_small (by omega) (by omega)
  have e1 : ((0 : Int) ≤ (i : Int)) = True := eq_true (by omega)
  have e3 : (((i / 8 : Nat) : Int) < 32) = True := eq_true (by omega)
  have e4 : (((i % 8 : Nat) : Int) < 0) = False := eq_false (by omega)
  have l1 := hx.len
  have l2 := ho.len
  have l3 := g1.len
  have l4 := g3.len
  have l0 : ([0, 0, 0, 0, 0] : List Nat).length = 5 := rfl
  generalize hB : num 256 k / 2 ^ i % 2 = B at *
  by_cases hB1 : B = 1
  · have hbq : ((B : Int) == 1) = true := by rw [hB1]; rfl
    rw [if_pos hB1] at hstep
    refine ⟨r2, ?_, g3, by rw [hstep, g4, g2]⟩
    simp only [pwI, a83_l0, envOf, evCode_skip, evCode_exit, evCode_seq, fs_blockS, fs_blockR, fs_blockC, fs_blockK, fs_blockB, evCode_ret, quiet, keep_nil, keep_cons, fs_cond, fs_region, fs_regionP, fs_nil, fs_guard, fs_move, fs_pick, fs_alloc, fs_box, fs_load, fs_store, fs_bin, fs_eqv, fs_isNil, fs_un, fs_conv, fs_convStr, fs_field, fs_index, fs_indexStr, fs_build, fs_buildSlice, fs_fieldAddr, fs_indexAddr, fs_indexSl, fs_sliceArr, fs_sliceSl, fs_sliceStr, fs_makeSlice, fs_extract, fs_mkIface, fs_mkFunc, fs_nilCheck, fs_s2ap, fs_len, fs_minmax, fs_s2b, fs_b2s, fs_append, fs_copy, fs_callW, fs_callR, fs_callv, opd_tmp, opd_const, opd_func, opds_nil, opds_cons, opdOpt_none, opdOpt_some, opdParts_nil, opdParts_cons, get_miss, vPick_t, vPick_f, vEq_agg, vEq_aggN, vEq_bool, vEq_boolN, vConv_int, vStr_s, vField_agg, vIndex_agg, vIndexStr_s, vFieldAddr_p, vIndexAddr_p, vIndexSl_s, vSliceArr_p, vSliceSl_s, vSliceSl_n, vSliceStr_s, vExtract_t, vNilCheck_p, vS2ap_s, vLen_s, vLen_str, vMin_i, vMax_i, vLoad_p, vStore_p, baseP_p, vB2s_s, vMake_i, vS2b_s, callee_f, liveAt_eq, storeAt_eq, partL_none, partL_some, natIn_none, natIn_int, bounds3_two, bin_add, bin_sub, bin_mul, bin_quo, bin_rem, bin_and, bin_or, bin_xor, bin_andNot, bin_eql, bin_neq, bin_lss, bin_leq, bin_gtr, bin_geq, bin_shl, bin_shr, bin_sadd, bin_seql, bin_sneq, un_not, un_neg, un_xor, after_some, put_some, put_none, res_nil, res_val, res_var, packed_one, packed_two, merge_nil, merge_ge, rf_tup2, rfIn_int, rfIn_bool, rfIn_u8s, rf_str, rfIn_str, ↓gate_true, gd_bool, gd_ut, gd_uf, ↓guardV_tt, ↓guardV_ff, ↓guardV_tf, ↓guardV_ft, ↓keepV_some, ↓qElse_some, ↓get_hit, ↓Option.bind_some, ↓if_true, ↓if_false, List.nil_append, List.cons_append, List.all_nil, List.all_cons, List.isEmpty_nil, reduceCtorEq, Bool.false_eq_true, Nat.reduceEqDiff, beq_self_eq_true, bne_self_eq_false, Bool.not_true, Bool.not_false, Int.natCast_nonneg, Nat.lt_irrefl, false_and, Int.reduceEq, rf_int, rf_bool, rf_tuple_ints, rf_u8s, arr_list, toList2, Bool.and_self, Nat.not_lt_zero, Nat.sub_zero, Nat.zero_le, Nat.le_add_right, cells_agg, cells_agg_size, cells_int, cells_int_size, okV_int, okV_bool, okV_str, okV_agg, okV_ptr, okV_slice, okV_func, okV_nilFunc, okV_iface, okV_nilIface, cells_bool, cells_bool_size, cells_ptr, cells_ptr_size, cells_slice, cells_slice_size, cells_str, cells_str_size, eq_self, wrapI64_small, Int.natCast_zero, Int.natCast_one, Int.cast_ofNat_Int, List.length_nil, List.length_cons, List.getElem?_cons_zero, List.getElem?_cons_succ, List.set_cons_zero, List.set_cons_succ, Nat.zero_add, Nat.add_zero, Nat.mul_one, Nat.zero_mul, Int.toNat_natCast, Int.toNat_zero, Int.lt_irrefl, Int.le_refl, Nat.le_refl, and_self, true_and, and_true, decide_true, decide_false, Int.reduceLE, Int.reduceLT, Int.reduceAdd, Int.reduceMul, Int.reduceSub, Int.reduceTDiv, Int.reduceTMod, Int.reduceNeg, Int.reduceToNat, Int.reduceGT, Int.reduceGE, Int.reducePow, Nat.reduceAdd, Nat.reduceMul, Nat.reduceSub, Nat.reduceDiv, Nat.reduceMod, Nat.reducePow, Nat.reduceLT, Nat.reduceLeDiff, Nat.min_self, ge_iff_le, gt_iff_lt, Option.isNone_none, Option.isSome_none, Option.isNone_some, Option.isSome_some, Bool.and_true, Bool.true_and, Bool.and_false, Bool.false_and, not_true_eq_false, not_false_eq_true, or_true, true_or, false_or, or_false, hget0, hgetK, hset0, hsetK, splice_single, splice_whole, take_whole, List.getElem?_nil, List.length_append, List.append_assoc, n_add, n_mul, n_ladd, n_addl, n_lmul, n_mull, n_fdiv, n_fdivl, n_tdiv, n_tmod, n_w64, n_w32, n_w16, n_w8, n_sub64, n_lsub64, n_subl64, n_m32, n_m51, n_m1, n_m1b, n_m7b, p64_32, p64_51, p64_13, p8_7, hbc, hbit, s1, w2, w3, e1, e3, e4, m1, m2, hbq, eV_cells, eV_size, eV_ok, eV_fold, ns_len, l1, l2, l3, l4, rf_eV]
  · have hbq : ((B : Int) == 1) = false := by
      have : B = 0 := by omega
      rw [this]; rfl
    rw [if_neg hB1] at hstep
    refine ⟨r1, ?_, g1, by rw [hstep, g2]⟩
    simp only [pwI, a83_l0, envOf, evCode_skip, evCode_exit, evCode_seq, fs_blockS, fs_blockR, fs_blockC, fs_blockK, fs_blockB, evCode_ret, quiet, keep_nil, keep_cons, fs_cond, fs_region, fs_regionP, fs_nil, fs_guard, fs_move, fs_pick, fs_alloc, fs_box, fs_load, fs_store, fs_bin, fs_eqv, fs_isNil, fs_un, fs_conv, fs_convStr, fs_field, fs_index, fs_indexStr, fs_build, fs_buildSlice, fs_fieldAddr, fs_indexAddr, fs_indexSl, fs_sliceArr, fs_sliceSl, fs_sliceStr, fs_makeSlice, fs_extract, fs_mkIface, fs_mkFunc, fs_nilCheck, fs_s2ap, fs_len, fs_minmax, fs_s2b, fs_b2s, fs_append, fs_copy, fs_callW, fs_callR, fs_callv, opd_tmp, opd_const, opd_func, opds_nil, opds_cons, opdOpt_none, opdOpt_some, opdParts_nil, opdParts_cons, get_miss, vPick_t, vPick_f, vEq_agg, vEq_aggN, vEq_bool, vEq_boolN, vConv_int, vStr_s, vField_agg, vIndex_agg, vIndexStr_s, vFieldAddr_p, vIndexAddr_p, vIndexSl_s, vSliceArr_p, vSliceSl_s, vSliceSl_n, vSliceStr_s, vExtract_t, vNilCheck_p, vS2ap_s, vLen_s, vLen_str, vMin_i, vMax_i, vLoad_p, vStore_p, baseP_p, vB2s_s, vMake_i, vS2b_s, callee_f, liveAt_eq, storeAt_eq, partL_none, partL_some, natIn_none, natIn_int, bounds3_two, bin_add, bin_sub, bin_mul, bin_quo, bin_rem, bin_and, bin_or, bin_xor, bin_andNot, bin_eql, bin_neq, bin_lss, bin_leq, bin_gtr, bin_geq, bin_shl, bin_shr, bin_sadd, bin_seql, bin_sneq, un_not, un_neg, un_xor, after_some, put_some, put_none, res_nil, res_val, res_var, packed_one, packed_two, merge_nil, merge_ge, rf_tup2, rfIn_int, rfIn_bool, rfIn_u8s, rf_str, rfIn_str, ↓gate_true, gd_bool, gd_ut, gd_uf, ↓guardV_tt, ↓guardV_ff, ↓guardV_tf, ↓guardV_ft, ↓keepV_some, ↓qElse_some, ↓get_hit, ↓Option.bind_some, ↓if_true, ↓if_false, List.nil_append, List.cons_append, List.all_nil, List.all_cons, List.isEmpty_nil, reduceCtorEq, Bool.false_eq_true, Nat.reduceEqDiff, beq_self_eq_true, bne_self_eq_false, Bool.not_true, Bool.not_false, Int.natCast_nonneg, Nat.lt_irrefl, false_and, Int.reduceEq, rf_int, rf_bool, rf_tuple_ints, rf_u8s, arr_list, toList2, Bool.and_self, Nat.not_lt_zero, Nat.sub_zero, Nat.zero_le, Nat.le_add_right, cells_agg, cells_agg_size, cells_int, cells_int_size, okV_int, okV_bool, okV_str, okV_agg, okV_ptr, okV_slice, okV_func, okV_nilFunc, okV_iface, okV_nilIface, cells_bool, cells_bool_size, cells_ptr, cells_ptr_size, cells_slice, cells_slice_size, cells_str, cells_str_size, eq_self, wrapI64_small, Int.natCast_zero, Int.natCast_one, Int.cast_ofNat_Int, List.length_nil, List.length_cons, List.getElem?_cons_zero, List.getElem?_cons_succ, List.set_cons_zero, List.set_cons_succ, Nat.zero_add, Nat.add_zero, Nat.mul_one, Nat.zero_mul, Int.toNat_natCast, Int.toNat_zero, Int.lt_irrefl, Int.le_refl, Nat.le_refl, and_self, true_and, and_true, decide_true, decide_false, Int.reduceLE, Int.reduceLT, Int.reduceAdd, Int.reduceMul, Int.reduceSub, Int.reduceTDiv, Int.reduceTMod, Int.reduceNeg, Int.reduceToNat, Int.reduceGT, Int.reduceGE, Int.reducePow, Nat.reduceAdd, Nat.reduceMul, Nat.reduceSub, Nat.reduceDiv, Nat.reduceMod, Nat.reducePow, Nat.reduceLT, Nat.reduceLeDiff, Nat.min_self, ge_iff_le, gt_iff_lt, Option.isNone_none, Option.isSome_none, Option.isNone_some, Option.isSome_some, Bool.and_true, Bool.true_and, Bool.and_false, Bool.false_and, not_true_eq_false, not_false_eq_true, or_true, true_or, false_or, or_false, hget0, hgetK, hset0, hsetK, splice_single, splice_whole, take_whole, List.getElem?_nil, List.length_append, List.append_assoc, n_add, n_mul, n_ladd, n_addl, n_lmul, n_mull, n_fdiv, n_fdivl, n_tdiv, n_tmod, n_w64, n_w32, n_w16, n_w8, n_sub64, n_lsub64, n_subl64, n_m32, n_m51, n_m1, n_m1b, n_m7b, p64_32, p64_51, p64_13, p8_7, hbc, hbit, s1, w2, w3, e1, e3, e4, m1, m2, hbq, eV_cells, eV_size, eV_ok, eV_fold, ns_len, l1, l2, l3, l4, rf_eV]
theorem power_v {x k : List Nat} (hx : El x (2 ^ 52)) (lk : k.length = 32) (xk : ∀ x ∈ k, x < 256) : ∃ r, evVal T 83 [eV x, .agg (u8s k).toArray] = some (eV r) ∧ El r (2 ^ 52) ∧ fe r = Go.Fp.pow (fe x) (num 256 k) := by
  have hK := num_lt xk
  rw [lk, show (256 : Nat) ^ 32 = 2 ^ 256 from by rw [show (256 : Nat) = 2 ^ 8 from rfl, ← Nat.pow_mul]] at hK
  obtain ⟨st, hb, r, rfl, hr1, hr2⟩ := block_inv (T := T) (base := 0) (id := 0) (body := a83_l0)
    (fun j st => ∃ r : List Nat, st = pwI x k r ((255 : Int) - j) [] ∧ El r (2 ^ 52) ∧ fe r = Go.Fp.pow (fe x) (num 256 k / 2 ^ (256 - j)))
    (Q := fun st => ∃ r : List Nat, st = pwI x k r (-1) [(9, .bool false)] ∧ El r (2 ^ 52) ∧ fe r = Go.Fp.pow (fe x) (num 256 k))
    256 (s := pwI x k [1, 0, 0, 0, 0] 255 []) ⟨_, rfl, one_el, by rw [one_fe, Nat.sub_zero, Nat.div_eq_of_lt hK]; rfl⟩
    (fun j st hj hs => by
      obtain ⟨r, rfl, h1, h2⟩ := hs
      obtain ⟨i, hi⟩ : ∃ i, 256 - j = i + 1 := ⟨255 - j, by omega⟩
      rw [hi] at h2
      obtain ⟨r', g1, g2, g3⟩ := pw_body (ex := []) hx lk xk (i := i) (by omega) h1 h2
      rw [show (255 : Int) - j = (i : Int) by omega]
      refine ⟨_, g1, r', ?_, g2, ?_⟩
      · rw [show (255 : Int) - ((j + 1 : Nat) : Int) = (i : Int) - 1 by omega]
      · rw [show 256 - (j + 1) = i by omega]; exact g3)
    (fun st hs => by
      obtain ⟨r, rfl, h1, h2⟩ := hs
      rw [Nat.sub_self, Nat.pow_zero, Nat.div_one] at h2
      have e : ((0 : Int) ≤ -1) = False := by decide
      refine ⟨_, ?_, r, rfl, h1, h2⟩
      rw [show (255 : Int) - ((256 : Nat) : Int) = -1 by omega]
      simp only [pwI, a83_l0, envOf, evCode_skip, evCode_exit, evCode_seq, fs_blockS, fs_blockR, fs_blockC, fs_blockK, fs_blockB, evCode_ret, quiet, keep_nil, keep_cons, fs_cond, fs_region, fs_regionP, fs_nil, fs_guard, fs_move, fs_pick, fs_alloc, fs_box, fs_load, fs_store, fs_bin, fs_eqv, fs_isNil, fs_un, fs_conv, fs_convStr, fs_field, fs_index, fs_indexStr, fs_build, fs_buildSlice, fs_fieldAddr, fs_indexAddr, fs_indexSl, fs_sliceArr, fs_sliceSl, fs_sliceStr, fs_makeSlice, fs_extract, fs_mkIface, fs_mkFunc, fs_nilCheck, fs_s2ap, fs_len, fs_minmax, fs_s2b, fs_b2s, fs_append, fs_copy, fs_callW, fs_callR, fs_callv, opd_tmp, opd_const, opd_func, opds_nil, opds_cons, opdOpt_none, opdOpt_some, opdParts_nil, opdParts_cons, get_miss, vPick_t, vPick_f, vEq_agg, vEq_aggN, vEq_bool, vEq_boolN, vConv_int, vStr_s, vField_agg, vIndex_agg, vIndexStr_s, vFieldAddr_p, vIndexAddr_p, vIndexSl_s, vSliceArr_p, vSliceSl_s, vSliceSl_n, vSliceStr_s, vExtract_t, vNilCheck_p, vS2ap_s, vLen_s, vLen_str, vMin_i, vMax_i, vLoad_p, vStore_p, baseP_p, vB2s_s, vMake_i, vS2b_s, callee_f, liveAt_eq, storeAt_eq, partL_none, partL_some, natIn_none, natIn_int, bounds3_two, bin_add, bin_sub, bin_mul, bin_quo, bin_rem, bin_and, bin_or, bin_xor, bin_andNot, bin_eql, bin_neq, bin_lss, bin_leq, bin_gtr, bin_geq, bin_shl, bin_shr, bin_sadd, bin_seql, bin_sneq, un_not, un_neg, un_xor, after_some, put_some, put_none, res_nil, res_val, res_var, packed_one, packed_two, merge_nil, merge_ge, rf_tup2, rfIn_int, rfIn_bool, rfIn_u8s, rf_str, rfIn_str, ↓gate_true, gd_bool, gd_ut, gd_uf, ↓guardV_tt, ↓guardV_ff, ↓guardV_tf, ↓guardV_ft, ↓keepV_some, ↓qElse_some, ↓get_hit, ↓Option.bind_some, ↓if_true, ↓if_false, List.nil_append, List.cons_append, List.all_nil, List.all_cons, List.isEmpty_nil, reduceCtorEq, Bool.false_eq_true, Nat.reduceEqDiff, beq_self_eq_true, bne_self_eq_false, Bool.not_true, Bool.not_false, Int.natCast_nonneg, Nat.lt_irrefl, false_and, Int.reduceEq, rf_int, rf_bool, rf_tuple_ints, rf_u8s, arr_list, toList2, Bool.and_self, Nat.not_lt_zero, Nat.sub_zero, Nat.zero_le, Nat.le_add_right, cells_agg, cells_agg_size, cells_int, cells_int_size, okV_int, okV_bool, okV_str, okV_agg, okV_ptr, okV_slice, okV_func, okV_nilFunc, okV_iface, okV_nilIface, cells_bool, cells_bool_size, cells_ptr, cells_ptr_size, cells_slice, cells_slice_size, cells_str, cells_str_size, eq_self, wrapI64_small, Int.natCast_zero, Int.natCast_one, Int.cast_ofNat_Int, List.length_nil, List.length_cons, List.getElem?_cons_zero, List.getElem?_cons_succ, List.set_cons_zero, List.set_cons_succ, Nat.zero_add, Nat.add_zero, Nat.mul_one, Nat.zero_mul, Int.toNat_natCast, Int.toNat_zero, Int.lt_irrefl, Int.le_refl, Nat.le_refl, and_self, true_and, and_true, decide_true, decide_false, Int.reduceLE, Int.reduceLT, Int.reduceAdd, Int.reduceMul, Int.reduceSub, Int.reduceTDiv, Int.reduceTMod, Int.reduceNeg, Int.reduceToNat, Int.reduceGT, Int.reduceGE, Int.reducePow, Nat.reduceAdd, Nat.reduceMul, Nat.reduceSub, Nat.reduceDiv, Nat.reduceMod, Nat.reducePow, Nat.reduceLT, Nat.reduceLeDiff, Nat.min_self, ge_iff_le, gt_iff_lt, Option.isNone_none, Option.isSome_none, Option.isNone_some, Option.isSome_some, Bool.and_true, Bool.true_and, Bool.and_false, Bool.false_and, not_true_eq_false, not_false_eq_true, or_true, true_or, false_or, or_false, e])
  refine ⟨r, ?_, hr1, hr2⟩
  have hz5 : List.replicate 5 (Value.int .u64 0) = ns .u64 [0, 0, 0, 0, 0] := rfl
  have hs := small_v (n := 1) (by decide)
  have l2 : ([1, 0, 0, 0, 0] : List Nat).length = 5 := rfl
  have l0 : ([0, 0, 0, 0, 0] : List Nat).length = 5 := rfl
  have l1 := hx.len
  have l3 := hr1.len
  simp only [Int.natCast_one] at hs
  simp only [pwI, List.cons_append, List.nil_append] at hb
  apply evVal_ex
  apply Exists.intro
  rw [evFun_fn (fn := a83) rfl]
  simp only [a83, envOf, evCode_skip, evCode_exit, evCode_seq, fs_blockS, fs_blockR, fs_blockC, fs_blockK, fs_blockB, evCode_ret, quiet, keep_nil, keep_cons, fs_cond, fs_region, fs_regionP, fs_nil, fs_guard, fs_move, fs_pick, fs_alloc, fs_box, fs_load, fs_store, fs_bin, fs_eqv, fs_isNil, fs_un, fs_conv, fs_convStr, fs_field, fs_index, fs_indexStr, fs_build, fs_buildSlice, fs_fieldAddr, fs_indexAddr, fs_indexSl, fs_sliceArr, fs_sliceSl, fs_sliceStr, fs_makeSlice, fs_extract, fs_mkIface, fs_mkFunc, fs_nilCheck, fs_s2ap, fs_len, fs_minmax, fs_s2b, fs_b2s, fs_append, fs_copy, fs_callW, fs_callR, fs_callv, opd_tmp, opd_const, opd_func, opds_nil, opds_cons, opdOpt_none, opdOpt_some, opdParts_nil, opdParts_cons, get_miss, vPick_t, vPick_f, vEq_agg, vEq_aggN, vEq_bool, vEq_boolN, vConv_int, vStr_s, vField_agg, vIndex_agg, vIndexStr_s, vFieldAddr_p, vIndexAddr_p, vIndexSl_s, vSliceArr_p, vSliceSl_s, vSliceSl_n, vSliceStr_s, vExtract_t, vNilCheck_p, vS2ap_s, vLen_s, vLen_str, vMin_i, vMax_i, vLoad_p, vStore_p, baseP_p, vB2s_s, vMake_i, vS2b_s, callee_f, liveAt_eq, storeAt_eq, partL_none, partL_some, natIn_none, natIn_int, bounds3_two, bin_add, bin_sub, bin_mul, bin_quo, bin_rem, bin_and, bin_or, bin_xor, bin_andNot, bin_eql, bin_neq, bin_lss, bin_leq, bin_gtr, bin_geq, bin_shl, bin_shr, bin_sadd, bin_seql, bin_sneq, un_not, un_neg, un_xor, after_some, put_some, put_none, res_nil, res_val, res_var, packed_one, packed_two, merge_nil, merge_ge, rf_tup2, rfIn_int, rfIn_bool, rfIn_u8s, rf_str, rfIn_str, ↓gate_true, gd_bool, gd_ut, gd_uf, ↓guardV_tt, ↓guardV_ff, ↓guardV_tf, ↓guardV_ft, ↓keepV_some, ↓qElse_some, ↓get_hit, ↓Option.bind_some, ↓if_true, ↓if_false, List.nil_append, List.cons_append, List.all_nil, List.all_cons, List.isEmpty_nil, reduceCtorEq, Bool.false_eq_true, Nat.reduceEqDiff, beq_self_eq_true, bne_self_eq_false, Bool.not_true, Bool.not_false, Int.natCast_nonneg, Nat.lt_irrefl, false_and, Int.reduceEq, rf_int, rf_bool, rf_tuple_ints, rf_u8s, arr_list, toList2, Bool.and_self, Nat.not_lt_zero, Nat.sub_zero, Nat.zero_le, Nat.le_add_right, cells_agg, cells_agg_size, cells_int, cells_int_size, okV_int, okV_bool, okV_str, okV_agg, okV_ptr, okV_slice, okV_func, okV_nilFunc, okV_iface, okV_nilIface, cells_bool, cells_bool_size, cells_ptr, cells_ptr_size, cells_slice, cells_slice_size, cells_str, cells_str_size, eq_self, wrapI64_small, Int.natCast_zero, Int.natCast_one, Int.cast_ofNat_Int, List.length_nil, List.length_cons, List.getElem?_cons_zero, List.getElem?_cons_succ, List.set_cons_zero, List.set_cons_succ, Nat.zero_add, Nat.add_zero, Nat.mul_one, Nat.zero_mul, Int.toNat_natCast, Int.toNat_zero, Int.lt_irrefl, Int.le_refl, Nat.le_refl, and_self, true_and, and_true, decide_true, decide_false, Int.reduceLE, Int.reduceLT, Int.reduceAdd, Int.reduceMul, Int.reduceSub, Int.reduceTDiv, Int.reduceTMod, Int.reduceNeg, Int.reduceToNat, Int.reduceGT, Int.reduceGE, Int.reducePow, Nat.reduceAdd, Nat.reduceMul, Nat.reduceSub, Nat.reduceDiv, Nat.reduceMod, Nat.reducePow, Nat.reduceLT, Nat.reduceLeDiff, Nat.min_self, ge_iff_le, gt_iff_lt, Option.isNone_none, Option.isSome_none, Option.isNone_some, Option.isSome_some, Bool.and_true, Bool.true_and, Bool.and_false, Bool.false_and, not_true_eq_false, not_false_eq_true, or_true, true_or, false_or, or_false, hget0, hgetK, hset0, hsetK, splice_single, splice_whole, take_whole, List.getElem?_nil, List.length_append, List.append_assoc, hz5, hs, hb, pwI, eV_cells, eV_size, eV_ok, eV_fold, ns_len, l0, l1, l2, l3, rf_eV]
  rfl
def onX (i : Nat) : List Nat := dig (2 ^ 8) 32 (2 ^ i - 1)
def onI (less : Value) (n : Int) (k : List Nat) (i : Nat) (ex : Env) : St := ⟨[(1, less), (4, .pointer (some ⟨0, 0, none⟩)), (5, .pointer (some ⟨1, 0, none⟩)), (7, .int .i64 n), (8, .int .i64 i)] ++ ex, [⟨u8s (dig 256 32 0), true, true, true, 1⟩, ⟨u8s k, true, true, true, 1⟩], []⟩
theorem on_body {less : Value} {n i : Nat} (hn : n ≤ 256) (hi : i < n) : evCode T 0 a84_l0 (onI less n (onX i) i []) = some (.normal, onI less n (onX (i + 1)) (i + 1) []) := by
  have hlen : (onX i).length = 32 := dig_len _ _ _
  obtain ⟨y, hy⟩ : ∃ b, (onX i)[i / 8]? = some b := ⟨_, List.getElem?_eq_getElem (by omega)⟩
  have hyc := u8s_get hy
  have hy' : y < 2 ^ 8 := dig_lt (by decide) (List.mem_of_getElem? hy)
  have hsm : (2 : Nat) ^ (i % 8) ≤ 2 ^ 7 := Nat.pow_le_pow_right (by decide) (by have := Nat.mod_lt i (by decide : 0 < 8); omega)
  have hp : 0 < (2 : Nat) ^ i := Nat.pow_pos (by decide)
  have hput := dig_put (w := 8) (m := 32) (q := i / 8) (s := i % 8) (y := 1) (M := 2 ^ i - 1) (by omega) (Nat.mod_lt _ (by decide)) (by rw [Nat.div_add_mod]; omega) (by omega)
  rw [Nat.div_add_mod, show 2 ^ i - 1 + 1 * 2 ^ i = 2 ^ (i + 1) - 1 by rw [Nat.pow_succ]; omega] at hput
  have hgd : (dig (2 ^ 8) 32 (2 ^ i - 1)).getD (i / 8) 0 = y := by rw [List.getD_eq_getElem?_getD]; unfold onX at hy; rw [hy]; rfl
  rw [hgd, Nat.one_mul] at hput
  have hset := u8s_set (onX i) (i / 8) (y ||| 2 ^ (i % 8))
  rw [show (onX i).set (i / 8) (y ||| 2 ^ (i % 8)) = onX (i + 1) from hput] at hset
  have s1 : (2 : Int) ^ min (i % 8) IntKind.u8.bits = ((2 ^ (i % 8) : Nat) : Int) := pow_min (Nat.le_of_lt (Nat.mod_lt _ (by decide)))
  have o1 : bitsOp .or .u8 (y : Int) ((2 ^ (i % 8) : Nat) : Int) = ((y ||| 2 ^ (i % 8) : Nat) : Int) := bits_or rfl (by show _ < 256; omega) (by show _ < 256; omega)
  have n1 : (2 ^ (i % 8)) % 256 = 2 ^ (i % 8) := Nat.mod_eq_of_lt (Nat.lt_of_le_of_lt hsm (by decide))
  have w2 : IntKind.i64.wrap ((i / 8 : Nat) : Int) = ((i / 8 : Nat) : Int) := wrap_nat (by omega)
  have w3 : IntKind.i64.wrap ((i + 1 : Nat) : Int) = ((i + 1 : Nat) : Int) := wrap_nat (by omega)
  have e1 : ((i : Int) < (n : Int)) = True := eq_true (by omega)
  have e3 : (((i / 8 : Nat) : Int) < 32) = True := eq_true (by omega)
  have e4 : (((i % 8 : Nat) : Int) < 0) = False := eq_false (by omega)
  have e6 : i / 8 + 1 ≤ 32 := by omega
  have p1 : 1 * 2 ^ (i % 8) = 2 ^ (i % 8) := Nat.one_mul _
  simp only [onI, a84_l0, envOf, evCode_skip, evCode_exit, evCode_seq, fs_blockS, fs_blockR, fs_blockC, fs_blockK, fs_blockB, evCode_ret, quiet, keep_nil, keep_cons, fs_cond, fs_region, fs_regionP, fs_nil, fs_guard, fs_move, fs_pick, fs_alloc, fs_box, fs_load, fs_store, fs_bin, fs_eqv, fs_isNil, fs_un, fs_conv, fs_convStr, fs_field, fs_index, fs_indexStr, fs_build, fs_buildSlice, fs_fieldAddr, fs_indexAddr, fs_indexSl, fs_sliceArr, fs_sliceSl, fs_sliceStr, fs_makeSlice, fs_extract, fs_mkIface, fs_mkFunc, fs_nilCheck, fs_s2ap, fs_len, fs_minmax, fs_s2b, fs_b2s, fs_append, fs_copy, fs_callW, fs_callR, fs_callv, opd_tmp, opd_const, opd_func, opds_nil, opds_cons, opdOpt_none, opdOpt_some, opdParts_nil, opdParts_cons, get_miss, vPick_t, vPick_f, vEq_agg, vEq_aggN, vEq_bool, vEq_boolN, vConv_int, vStr_s, vField_agg, vIndex_agg, vIndexStr_s, vFieldAddr_p, vIndexAddr_p, vIndexSl_s, vSliceArr_p, vSliceSl_s, vSliceSl_n, vSliceStr_s, vExtract_t, vNilCheck_p, vS2ap_s, vLen_s, vLen_str, vMin_i, vMax_i, vLoad_p, vStore_p, baseP_p, vB2s_s, vMake_i, vS2b_s, callee_f, liveAt_eq, storeAt_eq, partL_none, partL_some, natIn_none, natIn_int, bounds3_two, bin_add, bin_sub, bin_mul, bin_quo, bin_rem, bin_and, bin_or, bin_xor, bin_andNot, bin_eql, bin_neq, bin_lss, bin_leq, bin_gtr, bin_geq, bin_shl, bin_shr, bin_sadd, bin_seql, bin_sneq, un_not, un_neg, un_xor, after_some, put_some, put_none, res_nil, res_val, res_var, packed_one, packed_two, merge_nil, merge_ge, rf_tup2, rfIn_int, rfIn_bool, rfIn_u8s, rf_str, rfIn_str, ↓gate_true, gd_bool, gd_ut, gd_uf, ↓guardV_tt, ↓guardV_ff, ↓guardV_tf, ↓guardV_ft, ↓keepV_some, ↓qElse_some, ↓get_hit, ↓Option.bind_some, ↓if_true, ↓if_false, List.nil_append, List.cons_append, List.all_nil, List.all_cons, List.isEmpty_nil, reduceCtorEq, Bool.false_eq_true, Nat.reduceEqDiff, beq_self_eq_true, bne_self_eq_false, Bool.not_true, Bool.not_false, Int.natCast_nonneg, Nat.lt_irrefl, false_and, Int.reduceEq, rf_int, rf_bool, rf_tuple_ints, rf_u8s, arr_list, toList2, Bool.and_self, Nat.not_lt_zero, Nat.sub_zero, Nat.zero_le, Nat.le_add_right, cells_agg, cells_agg_size, cells_int, cells_int_size, okV_int, okV_bool, okV_str, okV_agg, okV_ptr, okV_slice, okV_func, okV_nilFunc, okV_iface, okV_nilIface, cells_bool, cells_bool_size, cells_ptr, cells_ptr_size, cells_slice, cells_slice_size, cells_str, cells_str_size, eq_self, wrapI64_small, Int.natCast_zero, Int.natCast_one, Int.cast_ofNat_Int, List.length_nil, List.length_cons, List.getElem?_cons_zero, List.getElem?_cons_succ, List.set_cons_zero, List.set_cons_succ, Nat.zero_add, Nat.add_zero, Nat.mul_one, Nat.zero_mul, Int.toNat_natCast, Int.toNat_zero, Int.lt_irrefl, Int.le_refl, Nat.le_refl, and_self, true_and, and_true, decide_true, decide_false, Int.reduceLE, Int.reduceLT, Int.reduceAdd, Int.reduceMul, Int.reduceSub, Int.reduceTDiv, Int.reduceTMod, Int.reduceNeg, Int.reduceToNat, Int.reduceGT, Int.reduceGE, Int.reducePow, Nat.reduceAdd, Nat.reduceMul, Nat.reduceSub, Nat.reduceDiv, Nat.reduceMod, Nat.reducePow, Nat.reduceLT, Nat.reduceLeDiff, Nat.min_self, ge_iff_le, gt_iff_lt, Option.isNone_none, Option.isSome_none, Option.isNone_some, Option.isSome_some, Bool.and_true, Bool.true_and, Bool.and_false, Bool.false_and, not_true_eq_false, not_false_eq_true, or_true, true_or, false_or, or_false, hget0, hgetK, hset0, hsetK, splice_single, splice_whole, take_whole, List.getElem?_nil, List.length_append, List.append_assoc, n_add, n_mul, n_ladd, n_addl, n_lmul, n_mull, n_fdiv, n_fdivl, n_tdiv, n_tmod, n_w64, n_w32, n_w16, n_w8, n_sub64, n_lsub64, n_subl64, n_m32, n_m51, n_m1, n_m1b, n_m7b, p64_32, p64_51, p64_13, p8_7, hyc, s1, o1, n1, w2, w3, e1, e3, e4, e6, p1, hset, u8s_len, hlen]
theorem ones_v {n less : Nat} (hn : n ≤ 256) (h8 : 8 ≤ n) (hl : less < 256) : evVal T 84 [.int .i64 n, .int .u8 less] = some (.agg (u8s (dig 256 32 (2 ^ n - 1 - less))).toArray) := by
  have hb := block_loop (T := T) (base := 0) (id := 0) (body := a84_l0) (fun i => onI (.int .u8 less) n (onX i) i []) (s' := onI (.int .u8 less) n (onX n) n [(9, .bool false)]) n (fun i hi => on_body hn hi) (by
    have e1 : ((n : Int) < (n : Int)) = False := eq_false (by omega)
    simp only [onI, a84_l0, envOf, evCode_skip, evCode_exit, evCode_seq, fs_blockS, fs_blockR, fs_blockC, fs_blockK, fs_blockB, evCode_ret, quiet, keep_nil, keep_cons, fs_cond, fs_region, fs_regionP, fs_nil, fs_guard, fs_move, fs_pick, fs_alloc, fs_box, fs_load, fs_store, fs_bin, fs_eqv, fs_isNil, fs_un, fs_conv, fs_convStr, fs_field, fs_index, fs_indexStr, fs_build, fs_buildSlice, fs_fieldAddr, fs_indexAddr, fs_indexSl, fs_sliceArr, fs_sliceSl, fs_sliceStr, fs_makeSlice, fs_extract, fs_mkIface, fs_mkFunc, fs_nilCheck, fs_s2ap, fs_len, fs_minmax, fs_s2b, fs_b2s, fs_append, fs_copy, fs_callW, fs_callR, fs_callv, opd_tmp, opd_const, opd_func, opds_nil, opds_cons, opdOpt_none, opdOpt_some, opdParts_nil, opdParts_cons, get_miss, vPick_t, vPick_f, vEq_agg, vEq_aggN, vEq_bool, vEq_boolN, vConv_int, vStr_s, vField_agg, vIndex_agg, vIndexStr_s, vFieldAddr_p, vIndexAddr_p, vIndexSl_s, vSliceArr_p, vSliceSl_s, vSliceSl_n, vSliceStr_s, vExtract_t, vNilCheck_p, vS2ap_s, vLen_s, vLen_str, vMin_i, vMax_i, vLoad_p, vStore_p, baseP_p, vB2s_s, vMake_i, vS2b_s, callee_f, liveAt_eq, storeAt_eq, partL_none, partL_some, natIn_none, natIn_int, bounds3_two, bin_add, bin_sub, bin_mul, bin_quo, bin_rem, bin_and, bin_or, bin_xor, bin_andNot, bin_eql, bin_neq, bin_lss, bin_leq, bin_gtr, bin_geq, bin_shl, bin_shr, bin_sadd, bin_seql, bin_sneq, un_not, un_neg, un_xor, after_some, put_some, put_none, res_nil, res_val, res_var, packed_one, packed_two, merge_nil, merge_ge, rf_tup2, rfIn_int, rfIn_bool, rfIn_u8s, rf_str, rfIn_str, ↓gate_true, gd_bool, gd_ut, gd_uf, ↓guardV_tt, ↓guardV_ff, ↓guardV_tf, ↓guardV_ft, ↓keepV_some, ↓qElse_some, ↓get_hit, ↓Option.bind_some, ↓if_true, ↓if_false, List.nil_append, List.cons_append, List.all_nil, List.all_cons, List.isEmpty_nil, reduceCtorEq, Bool.false_eq_true, Nat.reduceEqDiff, beq_self_eq_true, bne_self_eq_false, Bool.not_true, Bool.not_false, Int.natCast_nonneg, Nat.lt_irrefl, false_and, Int.reduceEq, rf_int, rf_bool, rf_tuple_ints, rf_u8s, arr_list, toList2, Bool.and_self, Nat.not_lt_zero, Nat.sub_zero, Nat.zero_le, Nat.le_add_right, cells_agg, cells_agg_size, cells_int, cells_int_size, okV_int, okV_bool, okV_str, okV_agg, okV_ptr, okV_slice, okV_func, okV_nilFunc, okV_iface, okV_nilIface, cells_bool, cells_bool_size, cells_ptr, cells_ptr_size, cells_slice, cells_slice_size, cells_str, cells_str_size, eq_self, wrapI64_small, Int.natCast_zero, Int.natCast_one, Int.cast_ofNat_Int, List.length_nil, List.length_cons, List.getElem?_cons_zero, List.getElem?_cons_succ, List.set_cons_zero, List.set_cons_succ, Nat.zero_add, Nat.add_zero, Nat.mul_one, Nat.zero_mul, Int.toNat_natCast, Int.toNat_zero, Int.lt_irrefl, Int.le_refl, Nat.le_refl, and_self, true_and, and_true, decide_true, decide_false, Int.reduceLE, Int.reduceLT, Int.reduceAdd, Int.reduceMul, Int.reduceSub, Int.reduceTDiv, Int.reduceTMod, Int.reduceNeg, Int.reduceToNat, Int.reduceGT, Int.reduceGE, Int.reducePow, Nat.reduceAdd, Nat.reduceMul, Nat.reduceSub, Nat.reduceDiv, Nat.reduceMod, Nat.reducePow, Nat.reduceLT, Nat.reduceLeDiff, Nat.min_self, ge_iff_le, gt_iff_lt, Option.isNone_none, Option.isSome_none, Option.isNone_some, Option.isSome_some, Bool.and_true, Bool.true_and, Bool.and_false, Bool.false_and, not_true_eq_false, not_false_eq_true, or_true, true_or, false_or, or_false, e1])
  rw [show onX 0 = dig 256 32 0 from rfl] at hb
  have hp8 : (256 : Nat) ≤ 2 ^ n := by
    have := Nat.pow_le_pow_right (n := 2) (by decide) h8
    exact this
  have hmod : 2 ^ n % 256 = 0 := by
    rw [show n = 8 + (n - 8) by omega, Nat.pow_add]; exact Nat.mul_mod_right _ _
  have h0 : (onX n)[0]? = some 255 := by
    unfold onX
    rw [dig_get (by decide), Nat.pow_zero, Nat.div_one]
    congr 1
    omega
  have h0c := u8s_get h0
  have w0 : IntKind.u8.wrap (255 - (less : Int)) = ((255 - less : Nat) : Int) := by rw [wrap_u8]; omega
  have hset := u8s_set (onX n) 0 (255 - less)
  have hfin : (onX n).set 0 (255 - less) = dig 256 32 (2 ^ n - 1 - less) := by
    apply dig_ext (by rw [List.length_set]; exact dig_len _ _ _)
    intro t ht
    by_cases h0t : t = 0
    · subst h0t
      rw [List.getElem?_set_self (by rw [show (onX n).length = 32 from dig_len _ _ _]; decide), Nat.pow_zero, Nat.div_one]
      congr 1
      omega
    · rw [List.getElem?_set_ne (Ne.symm h0t)]
      unfold onX
      rw [dig_get ht]
      congr 2
      obtain ⟨m, rfl⟩ : ∃ m, t = m + 1 := ⟨t - 1, by omega⟩
      rw [show (2 : Nat) ^ 8 = 256 from rfl, Nat.pow_succ, Nat.mul_comm, ← Nat.div_div_eq_div_mul, ← Nat.div_div_eq_div_mul]
      congr 1
      omega
  rw [hfin] at hset
  simp only [Int.cast_ofNat_Int] at h0c
  have l1 : (dig 256 32 (2 ^ n - 1 - less)).length = 32 := dig_len _ _ _
  have l2 : (onX n).length = 32 := dig_len _ _ _
  have l3 : (dig 256 32 0).length = 32 := rfl
  have hz32 : List.replicate 32 (Value.int .u8 0) = u8s (dig 256 32 0) := rfl
  simp only [onI, List.cons_append, List.nil_append, Int.natCast_zero] at hb
  apply evVal_ex
  apply Exists.intro
  rw [evFun_fn (fn := a84) rfl]
  simp only [a84, envOf, evCode_skip, evCode_exit, evCode_seq, fs_blockS, fs_blockR, fs_blockC, fs_blockK, fs_blockB, evCode_ret, quiet, keep_nil, keep_cons, fs_cond, fs_region, fs_regionP, fs_nil, fs_guard, fs_move, fs_pick, fs_alloc, fs_box, fs_load, fs_store, fs_bin, fs_eqv, fs_isNil, fs_un, fs_conv, fs_convStr, fs_field, fs_index, fs_indexStr, fs_build, fs_buildSlice, fs_fieldAddr, fs_indexAddr, fs_indexSl, fs_sliceArr, fs_sliceSl, fs_sliceStr, fs_makeSlice, fs_extract, fs_mkIface, fs_mkFunc, fs_nilCheck, fs_s2ap, fs_len, fs_minmax, fs_s2b, fs_b2s, fs_append, fs_copy, fs_callW, fs_callR, fs_callv, opd_tmp, opd_const, opd_func, opds_nil, opds_cons, opdOpt_none, opdOpt_some, opdParts_nil, opdParts_cons, get_miss, vPick_t, vPick_f, vEq_agg, vEq_aggN, vEq_bool, vEq_boolN, vConv_int, vStr_s, vField_agg, vIndex_agg, vIndexStr_s, vFieldAddr_p, vIndexAddr_p, vIndexSl_s, vSliceArr_p, vSliceSl_s, vSliceSl_n, vSliceStr_s, vExtract_t, vNilCheck_p, vS2ap_s, vLen_s, vLen_str, vMin_i, vMax_i, vLoad_p, vStore_p, baseP_p, vB2s_s, vMake_i, vS2b_s, callee_f, liveAt_eq, storeAt_eq, partL_none, partL_some, natIn_none, natIn_int, bounds3_two, bin_add, bin_sub, bin_mul, bin_quo, bin_rem, bin_and, bin_or, bin_xor, bin_andNot, bin_eql, bin_neq, bin_lss, bin_leq, bin_gtr, bin_geq, bin_shl, bin_shr, bin_sadd, bin_seql, bin_sneq, un_not, un_neg, un_xor, after_some, put_some, put_none, res_nil, res_val, res_var, packed_one, packed_two, merge_nil, merge_ge, rf_tup2, rfIn_int, rfIn_bool, rfIn_u8s, rf_str, rfIn_str, ↓gate_true, gd_bool, gd_ut, gd_uf, ↓guardV_tt, ↓guardV_ff, ↓guardV_tf, ↓guardV_ft, ↓keepV_some, ↓qElse_some, ↓get_hit, ↓Option.bind_some, ↓if_true, ↓if_false, List.nil_append, List.cons_append, List.all_nil, List.all_cons, List.isEmpty_nil, reduceCtorEq, Bool.false_eq_true, Nat.reduceEqDiff, beq_self_eq_true, bne_self_eq_false, Bool.not_true, Bool.not_false, Int.natCast_nonneg, Nat.lt_irrefl, false_and, Int.reduceEq, rf_int, rf_bool, rf_tuple_ints, rf_u8s, arr_list, toList2, Bool.and_self, Nat.not_lt_zero, Nat.sub_zero, Nat.zero_le, Nat.le_add_right, cells_agg, cells_agg_size, cells_int, cells_int_size, okV_int, okV_bool, okV_str, okV_agg, okV_ptr, okV_slice, okV_func, okV_nilFunc, okV_iface, okV_nilIface, cells_bool, cells_bool_size, cells_ptr, cells_ptr_size, cells_slice, cells_slice_size, cells_str, cells_str_size, eq_self, wrapI64_small, Int.natCast_zero, Int.natCast_one, Int.cast_ofNat_Int, List.length_nil, List.length_cons, List.getElem?_cons_zero, List.getElem?_cons_succ, List.set_cons_zero, List.set_cons_succ, Nat.zero_add, Nat.add_zero, Nat.mul_one, Nat.zero_mul, Int.toNat_natCast, Int.toNat_zero, Int.lt_irrefl, Int.le_refl, Nat.le_refl, and_self, true_and, and_true, decide_true, decide_false, Int.reduceLE, Int.reduceLT, Int.reduceAdd, Int.reduceMul, Int.reduceSub, Int.reduceTDiv, Int.reduceTMod, Int.reduceNeg, Int.reduceToNat, Int.reduceGT, Int.reduceGE, Int.reducePow, Nat.reduceAdd, Nat.reduceMul, Nat.reduceSub, Nat.reduceDiv, Nat.reduceMod, Nat.reducePow, Nat.reduceLT, Nat.reduceLeDiff, Nat.min_self, ge_iff_le, gt_iff_lt, Option.isNone_none, Option.isSome_none, Option.isNone_some, Option.isSome_some, Bool.and_true, Bool.true_and, Bool.and_false, Bool.false_and, not_true_eq_false, not_false_eq_true, or_true, true_or, false_or, or_false, hget0, hgetK, hset0, hsetK, splice_single, splice_whole, take_whole, List.getElem?_nil, List.length_append, List.append_assoc, hz32, hb, onI, h0c, w0, hset, u8s_len, l1, l2, l3]
  rfl
theorem dig32_lt {v : Nat} : ∀ x ∈ dig 256 32 v, x < 256 := fun _ h => dig_lt (by decide) h
theorem power_ones {x : List Nat} {n less : Nat} (hx : El x (2 ^ 52)) (hn : n ≤ 256) (h8 : 8 ≤ n) (hl : less < 256) : ∃ r, evVal T 83 [eV x, .agg (u8s (dig 256 32 (2 ^ n - 1 - less))).toArray] = some (eV r) ∧ El r (2 ^ 52) ∧ fe r = Go.Fp.pow (fe x) (2 ^ n - 1 - less) := by
  obtain ⟨r, h1, h2, h3⟩ := power_v (k := dig 256 32 (2 ^ n - 1 - less)) hx (dig_len _ _ _) dig32_lt
  refine ⟨r, h1, h2, ?_⟩
  rw [h3, num_dig (by decide), Nat.mod_eq_of_lt]
  have h4 : (2 : Nat) ^ n ≤ 256 ^ 32 := by
    rw [show (256 : Nat) ^ 32 = 2 ^ 256 from by rw [show (256 : Nat) = 2 ^ 8 from rfl, ← Nat.pow_mul]]
    exact Nat.pow_le_pow_right (by decide) hn
  have : 0 < (2 : Nat) ^ n := Nat.pow_pos (by decide)
  omega
theorem invert_v {x : List Nat} (hx : El x (2 ^ 52)) : ∃ r, evVal T 56 [eV x] = some (eV r) ∧ El r (2 ^ 52) ∧ fe r = Go.Fp.iv (fe x) := by
  have h1 := ones_v (n := 255) (less := 20) (by decide) (by decide) (by decide)
  obtain ⟨r, h2, h3, h4⟩ := power_ones (n := 255) (less := 20) hx (by decide) (by decide) (by decide)
  refine ⟨r, ?_, h3, ?_⟩
  · have hz5 : List.replicate 5 (Value.int .u64 0) = ns .u64 [0, 0, 0, 0, 0] := rfl
    have l0 : ([0, 0, 0, 0, 0] : List Nat).length = 5 := rfl
    have l1 := hx.len
    have l2 := h3.len
    simp only [Int.cast_ofNat_Int] at h1
    generalize dig 256 32 (2 ^ 255 - 1 - 20) = K at *
    apply evVal_ex
    apply Exists.intro
    rw [evFun_fn (fn := a56) rfl]
    simp only [a56, envOf, evCode_skip, evCode_exit, evCode_seq, fs_blockS, fs_blockR, fs_blockC, fs_blockK, fs_blockB, evCode_ret, quiet, keep_nil, keep_cons, fs_cond, fs_region, fs_regionP, fs_nil, fs_guard, fs_move, fs_pick, fs_alloc, fs_box, fs_load, fs_store, fs_bin, fs_eqv, fs_isNil, fs_un, fs_conv, fs_convStr, fs_field, fs_index, fs_indexStr, fs_build, fs_buildSlice, fs_fieldAddr, fs_indexAddr, fs_indexSl, fs_sliceArr, fs_sliceSl, fs_sliceStr, fs_makeSlice, fs_extract, fs_mkIface, fs_mkFunc, fs_nilCheck, fs_s2ap, fs_len, fs_minmax, fs_s2b, fs_b2s, fs_append, fs_copy, fs_callW, fs_callR, fs_callv, opd_tmp, opd_const, opd_func, opds_nil, opds_cons, opdOpt_none, opdOpt_some, opdParts_nil, opdParts_cons, get_miss, vPick_t, vPick_f, vEq_agg, vEq_aggN, vEq_bool, vEq_boolN, vConv_int, vStr_s, vField_agg, vIndex_agg, vIndexStr_s, vFieldAddr_p, vIndexAddr_p, vIndexSl_s, vSliceArr_p, vSliceSl_s, vSliceSl_n, vSliceStr_s, vExtract_t, vNilCheck_p, vS2ap_s, vLen_s, vLen_str, vMin_i, vMax_i, vLoad_p, vStore_p, baseP_p, vB2s_s, vMake_i, vS2b_s, callee_f, liveAt_eq, storeAt_eq, partL_none, partL_some, natIn_none, natIn_int, bounds3_two, bin_add, bin_sub, bin_mul, bin_quo, bin_rem, bin_and, bin_or, bin_xor, bin_andNot, bin_eql, bin_neq, bin_lss, bin_leq, bin_gtr, bin_geq, bin_shl, bin_shr, bin_sadd, bin_seql, bin_sneq, un_not, un_neg, un_xor, after_some, put_some, put_none, res_nil, res_val, res_var, packed_one, packed_two, merge_nil, merge_ge, rf_tup2, rfIn_int, rfIn_bool, rfIn_u8s, rf_str, rfIn_str, ↓gate_true, gd_bool, gd_ut, gd_uf, ↓guardV_tt, ↓guardV_ff, ↓guardV_tf, ↓guardV_ft, ↓keepV_some, ↓qElse_some, ↓get_hit, ↓Option.bind_some, ↓if_true, ↓if_false, List.nil_append, List.cons_append, List.all_nil, List.all_cons, List.isEmpty_nil, reduceCtorEq, Bool.false_eq_true, Nat.reduceEqDiff, beq_self_eq_true, bne_self_eq_false, Bool.not_true, Bool.not_false, Int.natCast_nonneg, Nat.lt_irrefl, false_and, Int.reduceEq, rf_int, rf_bool, rf_tuple_ints, rf_u8s, arr_list, toList2, Bool.and_self, Nat.not_lt_zero, Nat.sub_zero, Nat.zero_le, Nat.le_add_right, cells_agg, cells_agg_size, cells_int, cells_int_size, okV_int, okV_bool, okV_str, okV_agg, okV_ptr, okV_slice, okV_func, okV_nilFunc, okV_iface, okV_nilIface, cells_bool, cells_bool_size, cells_ptr, cells_ptr_size, cells_slice, cells_slice_size, cells_str, cells_str_size, eq_self, wrapI64_small, Int.natCast_zero, Int.natCast_one, Int.cast_ofNat_Int, List.length_nil, List.length_cons, List.getElem?_cons_zero, List.getElem?_cons_succ, List.set_cons_zero, List.set_cons_succ, Nat.zero_add, Nat.add_zero, Nat.mul_one, Nat.zero_mul, Int.toNat_natCast, Int.toNat_zero, Int.lt_irrefl, Int.le_refl, Nat.le_refl, and_self, true_and, and_true, decide_true, decide_false, Int.reduceLE, Int.reduceLT, Int.reduceAdd, Int.reduceMul, Int.reduceSub, Int.reduceTDiv, Int.reduceTMod, Int.reduceNeg, Int.reduceToNat, Int.reduceGT, Int.reduceGE, Int.reducePow, Nat.reduceAdd, Nat.reduceMul, Nat.reduceSub, Nat.reduceDiv, Nat.reduceMod, Nat.reducePow, Nat.reduceLT, Nat.reduceLeDiff, Nat.min_self, ge_iff_le, gt_iff_lt, Option.isNone_none, Option.isSome_none, Option.isNone_some, Option.isSome_some, Bool.and_true, Bool.true_and, Bool.and_false, Bool.false_and, not_true_eq_false, not_false_eq_true, or_true, true_or, false_or, or_false, hget0, hgetK, hset0, hsetK, splice_single, splice_whole, take_whole, List.getElem?_nil, List.length_append, List.append_assoc, hz5, h1, h2, eV_cells, eV_size, eV_ok, eV_fold, ns_len, l0, l1, l2, rf_eV]
    rfl
  · rw [h4]
    unfold Go.Fp.iv
    rw [Go.Fp.P_eq]
end Go.Ev.Ytaceeoghjgggjaa
set_option linter.unusedSimpArgs false
set_option linter.unusedVariables false
namespace Go.Ev
section
variable {T : Tab} {b : Nat}
theorem evOps_append : ∀ (o1 o2 : List AOper) (s : St) (recs : List Rec), evOps T b (o1 ++ o2) s recs = (evOps T b o1 s recs).bind fun r => evOps T b o2 r.1 r.2
  | [], o2, s, recs => by rw [evOps_nil]; rfl
  | o :: o1, o2, s, recs => by
    rw [List.cons_append, evOps_cons, evOps_cons]
    cases hg : guardOf s.env o.guard with
    | none => rfl
    | some g =>
      cases g with
      | false => exact evOps_append o1 o2 _ _
      | true =>
        cases hx : evOper T o.op s.env s.h with
        | none => simp [hx]
        | some x =>
          simp only [hx, Option.bind_some]
          exact evOps_append o1 o2 _ _
theorem evOps_more : ∀ (ops : List AOper) (s : St) (recs : List Rec) (s' : St), steps T b false ops s = some s' → ∃ m, evOps T b ops s recs = some (s', recs ++ m)
  | [], s, recs, s', h => by
    simp only [steps, Option.some.injEq] at h
    subst h
    exact ⟨[], by rw [evOps_nil, List.append_nil]⟩
  | o :: r, s, recs, s', h => by
    rw [evOps_cons]
    unfold steps at h
    cases hg : guardOf s.env o.guard with
    | none => simp only [hg] at h; cases h
    | some g =>
      simp only [hg] at h
      cases g with
      | false =>
        obtain ⟨m, h1⟩ := evOps_more r _ (recs ++ [(some [], [])]) s' h
        exact ⟨(some [], []) :: m, by rw [h1]; simp⟩
      | true =>
        cases hx : evOper T o.op s.env s.h with
        | none => simp [hx] at h
        | some x =>
          simp only [hx, Option.bind_some, Bool.false_and, Bool.false_eq_true, if_false] at h
          obtain ⟨m, h1⟩ := evOps_more r _ (recs ++ [(x.2.2.1, x.2.2.2)]) s' h
          exact ⟨(x.2.2.1, x.2.2.2) :: m, by simp only [hx, Option.bind_some]; rw [h1]; simp⟩
theorem pairsOk_app {r1 r2 : List Rec} : ∀ {pairs : List (Nat × Nat)}, (pairs.all fun p => decide (p.1 < r1.length) && decide (p.2 < r1.length)) = true → pairsOk r1 pairs = true → pairsOk (r1 ++ r2) pairs = true
  | [], _, _ => rfl
  | (i, j) :: ps, h, k => by
    simp only [List.all_cons, Bool.and_eq_true, decide_eq_true_eq] at h
    simp only [pairsOk, List.all_cons, Bool.and_eq_true] at k ⊢
    have ih := pairsOk_app (r1 := r1) (r2 := r2) (pairs := ps) h.2 k.2
    simp only [pairsOk] at ih
    refine ⟨?_, ih⟩
    rw [List.getElem?_append_left h.1.1, List.getElem?_append_left h.1.2]
    exact k.1
def lastOf : List (Nat × Nat) → Nat
  | [] => 0
  | (_, j) :: r => if j + 1 ≤ lastOf r then lastOf r else j + 1
theorem lastOf_nil : lastOf [] = 0 := rfl
theorem lastOf_cons {i j : Nat} {r : List (Nat × Nat)} : lastOf ((i, j) :: r) = if j + 1 ≤ lastOf r then lastOf r else j + 1 := rfl
def quiet2 (T : Tab) (b : Nat) (ops : List AOper) (pairs : List (Nat × Nat)) (s : St) : Option St :=
  gate ((pairs.all fun p => decide (p.1 < lastOf pairs) && decide (p.2 < lastOf pairs)) = true ∧ lastOf pairs ≤ ops.length)
    ((steps T b true (ops.take (lastOf pairs)) s).bind fun s1 => steps T b false (ops.drop (lastOf pairs)) s1)
theorem quiet2_eq {ops : List AOper} {pairs : List (Nat × Nat)} {s : St} : quiet2 T b ops pairs s = gate ((pairs.all fun p => decide (p.1 < lastOf pairs) && decide (p.2 < lastOf pairs)) = true ∧ lastOf pairs ≤ ops.length)
    ((steps T b true (ops.take (lastOf pairs)) s).bind fun s1 => steps T b false (ops.drop (lastOf pairs)) s1) := Eq.trans rfl rfl
theorem fs_regionQ {ops : List AOper} {keep : Option (List Nat)} {p : Nat × Nat} {ps : List (Nat × Nat)} {s : St} : evCode T b (.region ops keep (p :: ps)) s = qElse ((quiet2 T b ops (p :: ps) s).bind fun s' => some (.normal, s'.after keep)) (inText T b (.region ops keep (p :: ps)) s) := by
  cases hq : quiet2 T b ops (p :: ps) s with
  | none => rfl
  | some s' =>
    simp only [Option.bind_some, qElse]
    unfold quiet2 gate at hq
    split at hq
    · rename_i hp
      simp only [Option.bind_eq_some_iff] at hq
      obtain ⟨s1, k1, k2⟩ := hq
      obtain ⟨recs, h1, h2, h3⟩ := evOps_quiet _ s [] s1 k1 (by simp)
      obtain ⟨m, h4⟩ := evOps_more _ s1 recs s' k2
      simp only [List.length_nil, Nat.zero_add, List.length_take, Nat.min_eq_left hp.2] at h3
      rw [evCode_region]
      conv => lhs; rw [← List.take_append_drop (lastOf (p :: ps)) ops]
      rw [evOps_append, h1]
      simp only [Option.bind_some, h4]
      have hpk := hp.1
      rw [← h3] at hpk
      rw [if_pos (pairsOk_app hpk (pairsOk_quiet h2 hpk))]
    · cases hq
end
end Go.Ev
set_option linter.unusedSimpArgs false
set_option linter.unusedVariables false
namespace Go.Ev.Ytaceeoghjgggjaa
open Go Go.Ev
attribute [local congr] bind_congr2 ite_congr2 qElse_congr gate_congr guardV_congr
set_option maxRecDepth 100000
theorem take_all {cs : List Value} {n : Nat} (h : cs.length = n) : cs.take n = cs := List.take_of_length_le (by omega)
def pL (x y z t : List Nat) : List Nat := x ++ (y ++ (z ++ t))
def pV (x y z t : List Nat) : Value := .agg (ns .u64 (pL x y z t)).toArray
theorem rf_pV (x y z t : List Nat) : rf (pV x y z t) = true := rf_ns _ _
theorem pV_cells (x y z t : List Nat) : (pV x y z t).cells.toList = ns .u64 (pL x y z t) := rfl
theorem pV_size (x y z t : List Nat) : (pV x y z t).cells.size = (pL x y z t).length := ns_len _ _
theorem pV_ok (x y z t : List Nat) : okVar (pV x y z t) = true := rfl
theorem pV_fold (x y z t : List Nat) : Value.agg (ns .u64 (pL x y z t)).toArray = pV x y z t := rfl
theorem pL_len {x y z t : List Nat} {b : Nat} (hx : El x b) (hy : El y b) (hz : El z b) (ht : El t b) : (pL x y z t).length = 20 := by
  simp [pL, hx.len, hy.len, hz.len, ht.len]
theorem quad {x y z t : List Nat} {b : Nat} (hx : El x b) (hy : El y b) (hz : El z b) (ht : El t b) :
    List.take 5 (ns .u64 (pL x y z t)) = ns .u64 x ∧ List.take 5 (List.drop 5 (ns .u64 (pL x y z t))) = ns .u64 y ∧ List.take 5 (List.drop 10 (ns .u64 (pL x y z t))) = ns .u64 z ∧ List.take 5 (List.drop 15 (ns .u64 (pL x y z t))) = ns .u64 t := by
  obtain ⟨a0, a1, a2, a3, a4, rfl, -⟩ := hx.five
  obtain ⟨b0, b1, b2, b3, b4, rfl, -⟩ := hy.five
  obtain ⟨c0, c1, c2, c3, c4, rfl, -⟩ := hz.five
  obtain ⟨d0, d1, d2, d3, d4, rfl, -⟩ := ht.five
  exact ⟨rfl, rfl, rfl, rfl⟩
theorem fill2 {a b : List Nat} {k : Nat} (ha : El a k) (hb : El b k) : fillL (List.replicate 10 (Value.int .u64 0)) [(0, 5, eV a), (5, 5, eV b)] = some (ns .u64 (a ++ b)) := by
  obtain ⟨a0, a1, a2, a3, a4, rfl, -⟩ := ha.five
  obtain ⟨b0, b1, b2, b3, b4, rfl, -⟩ := hb.five
  rfl
theorem fill3 {a b c : List Nat} {k : Nat} (ha : El a k) (hb : El b k) (hc : El c k) : fillL (List.replicate 15 (Value.int .u64 0)) [(0, 5, eV a), (5, 5, eV b), (10, 5, eV c)] = some (ns .u64 [a, b, c].flatten) := by
  obtain ⟨a0, a1, a2, a3, a4, rfl, -⟩ := ha.five
  obtain ⟨b0, b1, b2, b3, b4, rfl, -⟩ := hb.five
  obtain ⟨c0, c1, c2, c3, c4, rfl, -⟩ := hc.five
  rfl
theorem fill4 {a b c d : List Nat} {k : Nat} (ha : El a k) (hb : El b k) (hc : El c k) (hd : El d k) : fillL (List.replicate 20 (Value.int .u64 0)) [(0, 5, eV a), (5, 5, eV b), (10, 5, eV c), (15, 5, eV d)] = some (ns .u64 (pL a b c d)) := by
  obtain ⟨a0, a1, a2, a3, a4, rfl, -⟩ := ha.five
  obtain ⟨b0, b1, b2, b3, b4, rfl, -⟩ := hb.five
  obtain ⟨c0, c1, c2, c3, c4, rfl, -⟩ := hc.five
  obtain ⟨d0, d1, d2, d3, d4, rfl, -⟩ := hd.five
  rfl
theorem pL_flat (a b c d : List Nat) : pL a b c d = [a, b, c, d].flatten := by simp [pL]
theorem two_E : El [2, 0, 0, 0, 0] (2 ^ 52) := small_el (by decide)
theorem two_v : evVal T 50 [.int .u32 2] = some (eV [2, 0, 0, 0, 0]) := small_v (n := 2) (by decide)
theorem two_fe : fe [2, 0, 0, 0, 0] = 2 := by rw [small_fe]; rfl
theorem plus_v {x1 y1 z1 t1 x2 y2 z2 t2 d : List Nat} (Ex1 : El x1 (2 ^ 52)) (Ey1 : El y1 (2 ^ 52)) (Ez1 : El z1 (2 ^ 52)) (Et1 : El t1 (2 ^ 52)) (Ex2 : El x2 (2 ^ 52)) (Ey2 : El y2 (2 ^ 52)) (Ez2 : El z2 (2 ^ 52)) (Et2 : El t2 (2 ^ 52)) (Ed : El d (2 ^ 52)) :
    ∃ x y z t, evVal T 54 [pV x1 y1 z1 t1, pV x2 y2 z2 t2, eV d] = some (pV x y z t) ∧ El x (2 ^ 52) ∧ El y (2 ^ 52) ∧ El z (2 ^ 52) ∧ El t (2 ^ 52) ∧
      ∃ a b c e : Go.Fp.Fe, a = (fe y1 - fe x1) * (fe y2 - fe x2) ∧ b = (fe y1 + fe x1) * (fe y2 + fe x2) ∧ c = 1 * 2 * fe d * fe t1 * fe t2 ∧ e = 1 * 2 * fe z1 * fe z2 ∧
        fe x = (b - a) * (e - c) ∧ fe y = (e + c) * (b + a) ∧ fe z = (e - c) * (e + c) ∧ fe t = (b - a) * (b + a) := by
  obtain ⟨two, htwo⟩ : ∃ two : List Nat, two = [2, 0, 0, 0, 0] := ⟨_, rfl⟩
  have Etwo : El two (2 ^ 52) := by rw [htwo]; exact two_E
  have vtwo : evVal T 50 [.int .u32 2] = some (eV two) := by rw [htwo]; exact two_v
  have ftwo : fe two = 2 := by rw [htwo]; exact two_fe
  clear htwo
  obtain ⟨r1, hr1, Er1, fr1⟩ := sub_v Ey1 Ex1
  obtain ⟨r2, hr2, Er2, fr2⟩ := sub_v Ey2 Ex2
  obtain ⟨r3, hr3, Er3, fr3⟩ := mul_ev Er1 Er2
  obtain ⟨r4, sr4, hr4, Er4, fr4⟩ := add2_ev (H := [⟨ns .u64 (pL x1 y1 z1 t1), true, true, true, 1⟩, ⟨ns .u64 (pL x2 y2 z2 t2), true, true, true, 1⟩, ⟨ns .u64 d, true, true, true, 1⟩, ⟨List.replicate 20 (.int .u64 0), true, true, true, 1⟩, ⟨ns .u64 r3, true, true, true, 1⟩, ⟨ns .u64 (y1 ++ x1), true, true, true, 1⟩]) (id := 5) Ey1 Ex1 rfl
  simp only [List.cons_append, List.nil_append] at hr4
  obtain ⟨r5, sr5, hr5, Er5, fr5⟩ := add2_ev (H := [⟨ns .u64 (pL x1 y1 z1 t1), true, true, true, 1⟩, ⟨ns .u64 (pL x2 y2 z2 t2), true, true, true, 1⟩, ⟨ns .u64 d, true, true, true, 1⟩, ⟨List.replicate 20 (.int .u64 0), true, true, true, 1⟩, ⟨ns .u64 r3, true, true, true, 1⟩, ⟨ns .u64 (y1 ++ x1), true, true, true, 1⟩, ⟨ns .u64 r4, true, true, true, 1⟩, ⟨ns .u64 sr4, true, true, true, 1⟩, ⟨ns .u64 y1, true, true, true, 1⟩, ⟨ns .u64 x1, true, true, true, 1⟩, ⟨ns .u64 (y2 ++ x2), true, true, true, 1⟩]) (id := 10) Ey2 Ex2 rfl
  simp only [List.cons_append, List.nil_append] at hr5
  obtain ⟨r6, hr6, Er6, fr6⟩ := mul_ev Er4 Er5
  obtain ⟨r7, hr7, Er7, fr7⟩ := prod_ev (H := [⟨ns .u64 (pL x1 y1 z1 t1), true, true, true, 1⟩, ⟨ns .u64 (pL x2 y2 z2 t2), true, true, true, 1⟩, ⟨ns .u64 d, true, true, true, 1⟩, ⟨List.replicate 20 (.int .u64 0), true, true, true, 1⟩, ⟨ns .u64 r3, true, true, true, 1⟩, ⟨ns .u64 (y1 ++ x1), true, true, true, 1⟩, ⟨ns .u64 r4, true, true, true, 1⟩, ⟨ns .u64 sr4, true, true, true, 1⟩, ⟨ns .u64 y1, true, true, true, 1⟩, ⟨ns .u64 x1, true, true, true, 1⟩, ⟨ns .u64 (y2 ++ x2), true, true, true, 1⟩, ⟨ns .u64 r5, true, true, true, 1⟩, ⟨ns .u64 sr5, true, true, true, 1⟩, ⟨ns .u64 y2, true, true, true, 1⟩, ⟨ns .u64 x2, true, true, true, 1⟩, ⟨ns .u64 r6, true, true, true, 1⟩, ⟨ns .u64 [two, d, t1, t2].flatten, true, true, true, 1⟩]) (id := 16) (n := 4) (xs := [two, d, t1, t2]) rfl (by decide) (by intro w hw; simp only [List.mem_cons, List.not_mem_nil, or_false] at hw; rcases hw with rfl | rfl | rfl | rfl <;> assumption) rfl
  simp only [List.cons_append, List.nil_append, List.map_cons, List.map_nil, List.foldl_cons, List.foldl_nil] at hr7 fr7
  obtain ⟨r8, hr8, Er8, fr8⟩ := prod_ev (H := [⟨ns .u64 (pL x1 y1 z1 t1), true, true, true, 1⟩, ⟨ns .u64 (pL x2 y2 z2 t2), true, true, true, 1⟩, ⟨ns .u64 d, true, true, true, 1⟩, ⟨List.replicate 20 (.int .u64 0), true, true, true, 1⟩, ⟨ns .u64 r3, true, true, true, 1⟩, ⟨ns .u64 (y1 ++ x1), true, true, true, 1⟩, ⟨ns .u64 r4, true, true, true, 1⟩, ⟨ns .u64 sr4, true, true, true, 1⟩, ⟨ns .u64 y1, true, true, true, 1⟩, ⟨ns .u64 x1, true, true, true, 1⟩, ⟨ns .u64 (y2 ++ x2), true, true, true, 1⟩, ⟨ns .u64 r5, true, true, true, 1⟩, ⟨ns .u64 sr5, true, true, true, 1⟩, ⟨ns .u64 y2, true, true, true, 1⟩, ⟨ns .u64 x2, true, true, true, 1⟩, ⟨ns .u64 r6, true, true, true, 1⟩, ⟨ns .u64 [two, d, t1, t2].flatten, true, true, true, 1⟩, ⟨ns .u64 r7, true, true, true, 1⟩, ⟨ns .u64 r7, true, true, true, 1⟩, ⟨ns .u64 two, true, true, true, 1⟩, ⟨ns .u64 d, true, true, true, 1⟩, ⟨ns .u64 t1, true, true, true, 1⟩, ⟨ns .u64 t2, true, true, true, 1⟩, ⟨ns .u64 r7, true, true, true, 1⟩, ⟨ns .u64 [two, z1, z2].flatten, true, true, true, 1⟩]) (id := 24) (n := 3) (xs := [two, z1, z2]) rfl (by decide) (by intro w hw; simp only [List.mem_cons, List.not_mem_nil, or_false] at hw; rcases hw with rfl | rfl | rfl <;> assumption) rfl
  simp only [List.cons_append, List.nil_append, List.map_cons, List.map_nil, List.foldl_cons, List.foldl_nil] at hr8 fr8
  obtain ⟨r9, hr9, Er9, fr9⟩ := sub_v Er6 Er3
  obtain ⟨r10, hr10, Er10, fr10⟩ := sub_v Er8 Er7
  obtain ⟨r11, sr11, hr11, Er11, fr11⟩ := add2_ev (H := [⟨ns .u64 (pL x1 y1 z1 t1), true, true, true, 1⟩, ⟨ns .u64 (pL x2 y2 z2 t2), true, true, true, 1⟩, ⟨ns .u64 d, true, true, true, 1⟩, ⟨List.replicate 20 (.int .u64 0), true, true, true, 1⟩, ⟨ns .u64 r3, true, true, true, 1⟩, ⟨ns .u64 (y1 ++ x1), true, true, true, 1⟩, ⟨ns .u64 r4, true, true, true, 1⟩, ⟨ns .u64 sr4, true, true, true, 1⟩, ⟨ns .u64 y1, true, true, true, 1⟩, ⟨ns .u64 x1, true, true, true, 1⟩, ⟨ns .u64 (y2 ++ x2), true, true, true, 1⟩, ⟨ns .u64 r5, true, true, true, 1⟩, ⟨ns .u64 sr5, true, true, true, 1⟩, ⟨ns .u64 y2, true, true, true, 1⟩, ⟨ns .u64 x2, true, true, true, 1⟩, ⟨ns .u64 r6, true, true, true, 1⟩, ⟨ns .u64 [two, d, t1, t2].flatten, true, true, true, 1⟩, ⟨ns .u64 r7, true, true, true, 1⟩, ⟨ns .u64 r7, true, true, true, 1⟩, ⟨ns .u64 two, true, true, true, 1⟩, ⟨ns .u64 d, true, true, true, 1⟩, ⟨ns .u64 t1, true, true, true, 1⟩, ⟨ns .u64 t2, true, true, true, 1⟩, ⟨ns .u64 r7, true, true, true, 1⟩, ⟨ns .u64 [two, z1, z2].flatten, true, true, true, 1⟩, ⟨ns .u64 r8, true, true, true, 1⟩, ⟨ns .u64 r8, true, true, true, 1⟩, ⟨ns .u64 two, true, true, true, 1⟩, ⟨ns .u64 z1, true, true, true, 1⟩, ⟨ns .u64 z2, true, true, true, 1⟩, ⟨ns .u64 r8, true, true, true, 1⟩, ⟨ns .u64 (r8 ++ r7), true, true, true, 1⟩]) (id := 31) Er8 Er7 rfl
  simp only [List.cons_append, List.nil_append] at hr11
  obtain ⟨r12, sr12, hr12, Er12, fr12⟩ := add2_ev (H := [⟨ns .u64 (pL x1 y1 z1 t1), true, true, true, 1⟩, ⟨ns .u64 (pL x2 y2 z2 t2), true, true, true, 1⟩, ⟨ns .u64 d, true, true, true, 1⟩, ⟨List.replicate 20 (.int .u64 0), true, true, true, 1⟩, ⟨ns .u64 r3, true, true, true, 1⟩, ⟨ns .u64 (y1 ++ x1), true, true, true, 1⟩, ⟨ns .u64 r4, true, true, true, 1⟩, ⟨ns .u64 sr4, true, true, true, 1⟩, ⟨ns .u64 y1, true, true, true, 1⟩, ⟨ns .u64 x1, true, true, true, 1⟩, ⟨ns .u64 (y2 ++ x2), true, true, true, 1⟩, ⟨ns .u64 r5, true, true, true, 1⟩, ⟨ns .u64 sr5, true, true, true, 1⟩, ⟨ns .u64 y2, true, true, true, 1⟩, ⟨ns .u64 x2, true, true, true, 1⟩, ⟨ns .u64 r6, true, true, true, 1⟩, ⟨ns .u64 [two, d, t1, t2].flatten, true, true, true, 1⟩, ⟨ns .u64 r7, true, true, true, 1⟩, ⟨ns .u64 r7, true, true, true, 1⟩, ⟨ns .u64 two, true, true, true, 1⟩, ⟨ns .u64 d, true, true, true, 1⟩, ⟨ns .u64 t1, true, true, true, 1⟩, ⟨ns .u64 t2, true, true, true, 1⟩, ⟨ns .u64 r7, true, true, true, 1⟩, ⟨ns .u64 [two, z1, z2].flatten, true, true, true, 1⟩, ⟨ns .u64 r8, true, true, true, 1⟩, ⟨ns .u64 r8, true, true, true, 1⟩, ⟨ns .u64 two, true, true, true, 1⟩, ⟨ns .u64 z1, true, true, true, 1⟩, ⟨ns .u64 z2, true, true, true, 1⟩, ⟨ns .u64 r8, true, true, true, 1⟩, ⟨ns .u64 (r8 ++ r7), true, true, true, 1⟩, ⟨ns .u64 r11, true, true, true, 1⟩, ⟨ns .u64 sr11, true, true, true, 1⟩, ⟨ns .u64 r8, true, true, true, 1⟩, ⟨ns .u64 r7, true, true, true, 1⟩, ⟨ns .u64 (r6 ++ r3), true, true, true, 1⟩]) (id := 36) Er6 Er3 rfl
  simp only [List.cons_append, List.nil_append] at hr12
  obtain ⟨r13, hr13, Er13, fr13⟩ := mul_ev Er9 Er10
  obtain ⟨r14, hr14, Er14, fr14⟩ := mul_ev Er11 Er12
  obtain ⟨r15, hr15, Er15, fr15⟩ := mul_ev Er10 Er11
  obtain ⟨r16, hr16, Er16, fr16⟩ := mul_ev Er9 Er12
  refine ⟨r13, r14, r15, r16, ?_, Er13, Er14, Er15, Er16, fe r3, fe r6, fe r7, fe r8, ?_⟩
  · obtain ⟨q10, q11, q12, q13⟩ := quad Ex1 Ey1 Ez1 Et1
    obtain ⟨q20, q21, q22, q23⟩ := quad Ex2 Ey2 Ez2 Et2
    have p1 := pL_len Ex1 Ey1 Ez1 Et1
    have p2 := pL_len Ex2 Ey2 Ez2 Et2
    have p3 := pL_len Er13 Er14 Er15 Er16
    have k4 := fill4 Etwo Ed Et1 Et2
    rw [pL_flat] at k4
    have k3 := fill3 Etwo Ez1 Ez2
    have kp := fill4 Er13 Er14 Er15 Er16
    have m1 := fill2 Ey1 Ex1
    have m2 := fill2 Ey2 Ex2
    have m3 := fill2 Er8 Er7
    have m4 := fill2 Er6 Er3
    have Lx1 := Ex1.len
    have Ly1 := Ey1.len
    have Lz1 := Ez1.len
    have Lt1 := Et1.len
    have Lx2 := Ex2.len
    have Ly2 := Ey2.len
    have Lz2 := Ez2.len
    have Lt2 := Et2.len
    have Ld := Ed.len
    have Ltwo := Etwo.len
    have Lr1 := Er1.len
    have Lr2 := Er2.len
    have Lr3 := Er3.len
    have Lr4 := Er4.len
    have Lr5 := Er5.len
    have Lr6 := Er6.len
    have Lr7 := Er7.len
    have Lr8 := Er8.len
    have Lr9 := Er9.len
    have Lr10 := Er10.len
    have Lr11 := Er11.len
    have Lr12 := Er12.len
    have Lr13 := Er13.len
    have Lr14 := Er14.len
    have Lr15 := Er15.len
    have Lr16 := Er16.len
    apply evVal_ex
    apply Exists.intro
    rw [evFun_fn (fn := a54) rfl]
    simp only [a54, envOf, evCode_skip, evCode_exit, evCode_seq, fs_blockS, fs_blockR, fs_blockC, fs_blockK, fs_blockB, evCode_ret, quiet, keep_nil, keep_cons, fs_cond, fs_region, fs_regionQ, quiet2_eq, lastOf_nil, lastOf_cons, List.take_succ_cons, List.take_zero, List.drop_succ_cons, List.drop_zero, Int.reduceBEq, Int.reduceBNe,  fs_nil, fs_guard, fs_move, fs_pick, fs_alloc, fs_box, fs_load, fs_store, fs_bin, fs_eqv, fs_isNil, fs_un, fs_conv, fs_convStr, fs_field, fs_index, fs_indexStr, fs_build, fs_buildSlice, fs_fieldAddr, fs_indexAddr, fs_indexSl, fs_sliceArr, fs_sliceSl, fs_sliceStr, fs_makeSlice, fs_extract, fs_mkIface, fs_mkFunc, fs_nilCheck, fs_s2ap, fs_len, fs_minmax, fs_s2b, fs_b2s, fs_append, fs_copy, fs_callW, fs_callR, fs_callv, opd_tmp, opd_const, opd_func, opds_nil, opds_cons, opdOpt_none, opdOpt_some, opdParts_nil, opdParts_cons, get_miss, vPick_t, vPick_f, vEq_agg, vEq_aggN, vEq_bool, vEq_boolN, vConv_int, vStr_s, vField_agg, vIndex_agg, vIndexStr_s, vFieldAddr_p, vIndexAddr_p, vIndexSl_s, vSliceArr_p, vSliceSl_s, vSliceSl_n, vSliceStr_s, vExtract_t, vNilCheck_p, vS2ap_s, vLen_s, vLen_str, vMin_i, vMax_i, vLoad_p, vStore_p, baseP_p, vB2s_s, vMake_i, vS2b_s, callee_f, liveAt_eq, storeAt_eq, partL_none, partL_some, natIn_none, natIn_int, bounds3_two, bin_add, bin_sub, bin_mul, bin_quo, bin_rem, bin_and, bin_or, bin_xor, bin_andNot, bin_eql, bin_neq, bin_lss, bin_leq, bin_gtr, bin_geq, bin_shl, bin_shr, bin_sadd, bin_seql, bin_sneq, un_not, un_neg, un_xor, after_some, put_some, put_none, res_nil, res_val, res_var, packed_one, packed_two, merge_nil, merge_ge, rf_tup2, rfIn_int, rfIn_bool, rfIn_u8s, rf_str, rfIn_str, ↓gate_true, gd_bool, gd_ut, gd_uf, ↓guardV_tt, ↓guardV_ff, ↓guardV_tf, ↓guardV_ft, ↓keepV_some, ↓qElse_some, ↓get_hit, ↓Option.bind_some, ↓if_true, ↓if_false, List.nil_append, List.cons_append, List.all_nil, List.all_cons, List.isEmpty_nil, reduceCtorEq, Bool.false_eq_true, Nat.reduceEqDiff, beq_self_eq_true, bne_self_eq_false, Bool.not_true, Bool.not_false, Int.natCast_nonneg, Nat.lt_irrefl, false_and, Int.reduceEq, rf_int, rf_bool, rf_tuple_ints, rf_u8s, arr_list, toList2, Bool.and_self, Nat.not_lt_zero, Nat.sub_zero, Nat.zero_le, Nat.le_add_right, cells_agg, cells_agg_size, cells_int, cells_int_size, okV_int, okV_bool, okV_str, okV_agg, okV_ptr, okV_slice, okV_func, okV_nilFunc, okV_iface, okV_nilIface, cells_bool, cells_bool_size, cells_ptr, cells_ptr_size, cells_slice, cells_slice_size, cells_str, cells_str_size, eq_self, wrapI64_small, Int.natCast_zero, Int.natCast_one, Int.cast_ofNat_Int, List.length_nil, List.length_cons, List.getElem?_cons_zero, List.getElem?_cons_succ, List.set_cons_zero, List.set_cons_succ, Nat.zero_add, Nat.add_zero, Nat.mul_one, Nat.zero_mul, Int.toNat_natCast, Int.toNat_zero, Int.lt_irrefl, Int.le_refl, Nat.le_refl, and_self, true_and, and_true, decide_true, decide_false, Int.reduceLE, Int.reduceLT, Int.reduceAdd, Int.reduceMul, Int.reduceSub, Int.reduceTDiv, Int.reduceTMod, Int.reduceNeg, Int.reduceToNat, Int.reduceGT, Int.reduceGE, Int.reducePow, Nat.reduceAdd, Nat.reduceMul, Nat.reduceSub, Nat.reduceDiv, Nat.reduceMod, Nat.reducePow, Nat.reduceLT, Nat.reduceLeDiff, Nat.min_self, ge_iff_le, gt_iff_lt, Option.isNone_none, Option.isSome_none, Option.isNone_some, Option.isSome_some, Bool.and_true, Bool.true_and, Bool.and_false, Bool.false_and, not_true_eq_false, not_false_eq_true, or_true, true_or, false_or, or_false, hget0, hgetK, hset0, hsetK, splice_single, splice_whole, take_whole, List.getElem?_nil, List.length_append, List.append_assoc, List.length_replicate, take_all, pV_cells, pV_size, pV_ok, pV_fold, rf_pV, eV_cells, eV_size, eV_ok, eV_fold, rf_eV, ns_len, q10, q11, q12, q13, q20, q21, q22, q23, p1, p2, p3, k4, k3, kp, m1, m2, m3, m4, vtwo, hr1, hr2, hr3, hr4, hr5, hr6, hr7, hr8, hr9, hr10, hr11, hr12, hr13, hr14, hr15, hr16, Lx1, Ly1, Lz1, Lt1, Lx2, Ly2, Lz2, Lt2, Ld, Ltwo, Lr1, Lr2, Lr3, Lr4, Lr5, Lr6, Lr7, Lr8, Lr9, Lr10, Lr11, Lr12, Lr13, Lr14, Lr15, Lr16]
    rfl
  · refine ⟨?_, ?_, ?_, ?_, ?_, ?_, ?_, ?_⟩
    · rw [fr3, fr1, fr2]
    · rw [fr6, fr4, fr5]
    · rw [fr7, ftwo]
    · rw [fr8, ftwo]
    · rw [fr13, fr9, fr10]
    · rw [fr14, fr11, fr12]
    · rw [fr15, fr10, fr11]
    · rw [fr16, fr9, fr12]
end Go.Ev.Ytaceeoghjgggjaa
set_option linter.unusedSimpArgs false
set_option linter.unusedVariables false
namespace Go.Ev.Ytaceeoghjgggjaa
open Go Go.Ev
attribute [local congr] bind_congr2 ite_congr2 qElse_congr gate_congr guardV_congr
set_option maxRecDepth 100000
theorem twice_v {x1 y1 z1 t1 : List Nat} (Ex1 : El x1 (2 ^ 52)) (Ey1 : El y1 (2 ^ 52)) (Ez1 : El z1 (2 ^ 52)) (Et1 : El t1 (2 ^ 52)) :
    ∃ x y z t, evVal T 53 [pV x1 y1 z1 t1] = some (pV x y z t) ∧ El x (2 ^ 52) ∧ El y (2 ^ 52) ∧ El z (2 ^ 52) ∧ El t (2 ^ 52) ∧
      ∃ a b c h e g f : Go.Fp.Fe, a = fe x1 * fe x1 ∧ b = fe y1 * fe y1 ∧ c = 1 * 2 * fe z1 * fe z1 ∧ h = a + b ∧ e = h - (fe x1 + fe y1) * (fe x1 + fe y1) ∧ g = a - b ∧ f = c + g ∧
        fe x = e * f ∧ fe y = g * h ∧ fe z = f * g ∧ fe t = e * h := by
  obtain ⟨two, htwo⟩ : ∃ two : List Nat, two = [2, 0, 0, 0, 0] := ⟨_, rfl⟩
  have Etwo : El two (2 ^ 52) := by rw [htwo]; exact two_E
  have vtwo : evVal T 50 [.int .u32 2] = some (eV two) := by rw [htwo]; exact two_v
  have ftwo : fe two = 2 := by rw [htwo]; exact two_fe
  clear htwo
  obtain ⟨r1, hr1, Er1, fr1⟩ := mul_ev Ex1 Ex1
  obtain ⟨r2, hr2, Er2, fr2⟩ := mul_ev Ey1 Ey1
  obtain ⟨r3, hr3, Er3, fr3⟩ := prod_ev (H := [⟨ns .u64 (pL x1 y1 z1 t1), true, true, true, 1⟩, ⟨List.replicate 20 (.int .u64 0), true, true, true, 1⟩, ⟨ns .u64 r1, true, true, true, 1⟩, ⟨ns .u64 r2, true, true, true, 1⟩, ⟨ns .u64 [two, z1, z1].flatten, true, true, true, 1⟩]) (id := 4) (n := 3) (xs := [two, z1, z1]) rfl (by decide) (by intro w hw; simp only [List.mem_cons, List.not_mem_nil, or_false] at hw; rcases hw with rfl | rfl | rfl <;> assumption) rfl
  simp only [List.cons_append, List.nil_append, List.map_cons, List.map_nil, List.foldl_cons, List.foldl_nil] at hr3 fr3
  obtain ⟨r4, sr4, hr4, Er4, fr4⟩ := add2_ev (H := [⟨ns .u64 (pL x1 y1 z1 t1), true, true, true, 1⟩, ⟨List.replicate 20 (.int .u64 0), true, true, true, 1⟩, ⟨ns .u64 r1, true, true, true, 1⟩, ⟨ns .u64 r2, true, true, true, 1⟩, ⟨ns .u64 [two, z1, z1].flatten, true, true, true, 1⟩, ⟨ns .u64 r3, true, true, true, 1⟩, ⟨ns .u64 r3, true, true, true, 1⟩, ⟨ns .u64 two, true, true, true, 1⟩, ⟨ns .u64 z1, true, true, true, 1⟩, ⟨ns .u64 z1, true, true, true, 1⟩, ⟨ns .u64 r3, true, true, true, 1⟩, ⟨ns .u64 (r1 ++ r2), true, true, true, 1⟩]) (id := 11) Er1 Er2 rfl
  simp only [List.cons_append, List.nil_append] at hr4
  obtain ⟨r5, sr5, hr5, Er5, fr5⟩ := add2_ev (H := [⟨ns .u64 (pL x1 y1 z1 t1), true, true, true, 1⟩, ⟨List.replicate 20 (.int .u64 0), true, true, true, 1⟩, ⟨ns .u64 r1, true, true, true, 1⟩, ⟨ns .u64 r2, true, true, true, 1⟩, ⟨ns .u64 [two, z1, z1].flatten, true, true, true, 1⟩, ⟨ns .u64 r3, true, true, true, 1⟩, ⟨ns .u64 r3, true, true, true, 1⟩, ⟨ns .u64 two, true, true, true, 1⟩, ⟨ns .u64 z1, true, true, true, 1⟩, ⟨ns .u64 z1, true, true, true, 1⟩, ⟨ns .u64 r3, true, true, true, 1⟩, ⟨ns .u64 (r1 ++ r2), true, true, true, 1⟩, ⟨ns .u64 r4, true, true, true, 1⟩, ⟨ns .u64 sr4, true, true, true, 1⟩, ⟨ns .u64 r1, true, true, true, 1⟩, ⟨ns .u64 r2, true, true, true, 1⟩, ⟨ns .u64 r4, true, true, true, 1⟩, ⟨ns .u64 (x1 ++ y1), true, true, true, 1⟩]) (id := 17) Ex1 Ey1 rfl
  simp only [List.cons_append, List.nil_append] at hr5
  obtain ⟨r6, hr6, Er6, fr6⟩ := mul_ev Er5 Er5
  obtain ⟨r7, hr7, Er7, fr7⟩ := sub_v Er4 Er6
  obtain ⟨r8, hr8, Er8, fr8⟩ := sub_v Er1 Er2
  obtain ⟨r9, sr9, hr9, Er9, fr9⟩ := add2_ev (H := [⟨ns .u64 (pL x1 y1 z1 t1), true, true, true, 1⟩, ⟨List.replicate 20 (.int .u64 0), true, true, true, 1⟩, ⟨ns .u64 r1, true, true, true, 1⟩, ⟨ns .u64 r2, true, true, true, 1⟩, ⟨ns .u64 [two, z1, z1].flatten, true, true, true, 1⟩, ⟨ns .u64 r3, true, true, true, 1⟩, ⟨ns .u64 r3, true, true, true, 1⟩, ⟨ns .u64 two, true, true, true, 1⟩, ⟨ns .u64 z1, true, true, true, 1⟩, ⟨ns .u64 z1, true, true, true, 1⟩, ⟨ns .u64 r3, true, true, true, 1⟩, ⟨ns .u64 (r1 ++ r2), true, true, true, 1⟩, ⟨ns .u64 r4, true, true, true, 1⟩, ⟨ns .u64 sr4, true, true, true, 1⟩, ⟨ns .u64 r1, true, true, true, 1⟩, ⟨ns .u64 r2, true, true, true, 1⟩, ⟨ns .u64 r4, true, true, true, 1⟩, ⟨ns .u64 (x1 ++ y1), true, true, true, 1⟩, ⟨ns .u64 r5, true, true, true, 1⟩, ⟨ns .u64 sr5, true, true, true, 1⟩, ⟨ns .u64 x1, true, true, true, 1⟩, ⟨ns .u64 y1, true, true, true, 1⟩, ⟨ns .u64 r5, true, true, true, 1⟩, ⟨ns .u64 r7, true, true, true, 1⟩, ⟨ns .u64 r8, true, true, true, 1⟩, ⟨ns .u64 (r3 ++ r8), true, true, true, 1⟩]) (id := 25) Er3 Er8 rfl
  simp only [List.cons_append, List.nil_append] at hr9
  obtain ⟨r10, hr10, Er10, fr10⟩ := mul_ev Er7 Er9
  obtain ⟨r11, hr11, Er11, fr11⟩ := mul_ev Er8 Er4
  obtain ⟨r12, hr12, Er12, fr12⟩ := mul_ev Er9 Er8
  obtain ⟨r13, hr13, Er13, fr13⟩ := mul_ev Er7 Er4
  refine ⟨r10, r11, r12, r13, ?_, Er10, Er11, Er12, Er13, fe r1, fe r2, fe r3, fe r4, fe r7, fe r8, fe r9, ?_⟩
  · obtain ⟨q10, q11, q12, q13⟩ := quad Ex1 Ey1 Ez1 Et1
    have p1 := pL_len Ex1 Ey1 Ez1 Et1
    have p3 := pL_len Er10 Er11 Er12 Er13
    have k3 := fill3 Etwo Ez1 Ez1
    have kp := fill4 Er10 Er11 Er12 Er13
    have m1 := fill2 Er1 Er2
    have m2 := fill2 Ex1 Ey1
    have m3 := fill2 Er3 Er8
    have Lx1 := Ex1.len
    have Ly1 := Ey1.len
    have Lz1 := Ez1.len
    have Lt1 := Et1.len
    have Ltwo := Etwo.len
    have Lr1 := Er1.len
    have Lr2 := Er2.len
    have Lr3 := Er3.len
    have Lr4 := Er4.len
    have Lr5 := Er5.len
    have Lr6 := Er6.len
    have Lr7 := Er7.len
    have Lr8 := Er8.len
    have Lr9 := Er9.len
    have Lr10 := Er10.len
    have Lr11 := Er11.len
    have Lr12 := Er12.len
    have Lr13 := Er13.len
    apply evVal_ex
    apply Exists.intro
    rw [evFun_fn (fn := a53) rfl]
    simp only [a53, envOf, evCode_skip, evCode_exit, evCode_seq, fs_blockS, fs_blockR, fs_blockC, fs_blockK, fs_blockB, evCode_ret, quiet, keep_nil, keep_cons, fs_cond, fs_region, fs_regionQ, quiet2_eq, lastOf_nil, lastOf_cons, List.take_succ_cons, List.take_zero, List.drop_succ_cons, List.drop_zero, Int.reduceBEq, Int.reduceBNe,  fs_nil, fs_guard, fs_move, fs_pick, fs_alloc, fs_box, fs_load, fs_store, fs_bin, fs_eqv, fs_isNil, fs_un, fs_conv, fs_convStr, fs_field, fs_index, fs_indexStr, fs_build, fs_buildSlice, fs_fieldAddr, fs_indexAddr, fs_indexSl, fs_sliceArr, fs_sliceSl, fs_sliceStr, fs_makeSlice, fs_extract, fs_mkIface, fs_mkFunc, fs_nilCheck, fs_s2ap, fs_len, fs_minmax, fs_s2b, fs_b2s, fs_append, fs_copy, fs_callW, fs_callR, fs_callv, opd_tmp, opd_const, opd_func, opds_nil, opds_cons, opdOpt_none, opdOpt_some, opdParts_nil, opdParts_cons, get_miss, vPick_t, vPick_f, vEq_agg, vEq_aggN, vEq_bool, vEq_boolN, vConv_int, vStr_s, vField_agg, vIndex_agg, vIndexStr_s, vFieldAddr_p, vIndexAddr_p, vIndexSl_s, vSliceArr_p, vSliceSl_s, vSliceSl_n, vSliceStr_s, vExtract_t, vNilCheck_p, vS2ap_s, vLen_s, vLen_str, vMin_i, vMax_i, vLoad_p, vStore_p, baseP_p, vB2s_s, vMake_i, vS2b_s, callee_f, liveAt_eq, storeAt_eq, partL_none, partL_some, natIn_none, natIn_int, bounds3_two, bin_add, bin_sub, bin_mul, bin_quo, bin_rem, bin_and, bin_or, bin_xor, bin_andNot, bin_eql, bin_neq, bin_lss, bin_leq, bin_gtr, bin_geq, bin_shl, bin_shr, bin_sadd, bin_seql, bin_sneq, un_not, un_neg, un_xor, after_some, put_some, put_none, res_nil, res_val, res_var, packed_one, packed_two, merge_nil, merge_ge, rf_tup2, rfIn_int, rfIn_bool, rfIn_u8s, rf_str, rfIn_str, ↓gate_true, gd_bool, gd_ut, gd_uf, ↓guardV_tt, ↓guardV_ff, ↓guardV_tf, ↓guardV_ft, ↓keepV_some, ↓qElse_some, ↓get_hit, ↓Option.bind_some, ↓if_true, ↓if_false, List.nil_append, List.cons_append, List.all_nil, List.all_cons, List.isEmpty_nil, reduceCtorEq, Bool.false_eq_true, Nat.reduceEqDiff, beq_self_eq_true, bne_self_eq_false, Bool.not_true, Bool.not_false, Int.natCast_nonneg, Nat.lt_irrefl, false_and, Int.reduceEq, rf_int, rf_bool, rf_tuple_ints, rf_u8s, arr_list, toList2, Bool.and_self, Nat.not_lt_zero, Nat.sub_zero, Nat.zero_le, Nat.le_add_right, cells_agg, cells_agg_size, cells_int, cells_int_size, okV_int, okV_bool, okV_str, okV_agg, okV_ptr, okV_slice, okV_func, okV_nilFunc, okV_iface, okV_nilIface, cells_bool, cells_bool_size, cells_ptr, cells_ptr_size, cells_slice, cells_slice_size, cells_str, cells_str_size, eq_self, wrapI64_small, Int.natCast_zero, Int.natCast_one, Int.cast_ofNat_Int, List.length_nil, List.length_cons, List.getElem?_cons_zero, List.getElem?_cons_succ, List.set_cons_zero, List.set_cons_succ, Nat.zero_add, Nat.add_zero, Nat.mul_one, Nat.zero_mul, Int.toNat_natCast, Int.toNat_zero, Int.lt_irrefl, Int.le_refl, Nat.le_refl, and_self, true_and, and_true, decide_true, decide_false, Int.reduceLE, Int.reduceLT, Int.reduceAdd, Int.reduceMul, Int.reduceSub, Int.reduceTDiv, Int.reduceTMod, Int.reduceNeg, Int.reduceToNat, Int.reduceGT, Int.reduceGE, Int.reducePow, Nat.reduceAdd, Nat.reduceMul, Nat.reduceSub, Nat.reduceDiv, Nat.reduceMod, Nat.reducePow, Nat.reduceLT, Nat.reduceLeDiff, Nat.min_self, ge_iff_le, gt_iff_lt, Option.isNone_none, Option.isSome_none, Option.isNone_some, Option.isSome_some, Bool.and_true, Bool.true_and, Bool.and_false, Bool.false_and, not_true_eq_false, not_false_eq_true, or_true, true_or, false_or, or_false, hget0, hgetK, hset0, hsetK, splice_single, splice_whole, take_whole, List.getElem?_nil, List.length_append, List.append_assoc, List.length_replicate, take_all, pV_cells, pV_size, pV_ok, pV_fold, rf_pV, eV_cells, eV_size, eV_ok, eV_fold, rf_eV, ns_len, q10, q11, q12, q13, p1, p3, k3, kp, m1, m2, m3, vtwo, hr1, hr2, hr3, hr4, hr5, hr6, hr7, hr8, hr9, hr10, hr11, hr12, hr13, Lx1, Ly1, Lz1, Lt1, Ltwo, Lr1, Lr2, Lr3, Lr4, Lr5, Lr6, Lr7, Lr8, Lr9, Lr10, Lr11, Lr12, Lr13]
    rfl
  · refine ⟨fr1, fr2, by rw [fr3, ftwo], fr4, by rw [fr7, fr6, fr5], fr8, fr9, ?_, ?_, ?_, ?_⟩
    · rw [fr10]
    · rw [fr11]
    · rw [fr12]
    · rw [fr13]
structure Rep (x y z t : List Nat) (p : Go.Cv.Pt Go.Fp.P Go.Fp.d) : Prop where
  ex : El x (2 ^ 52)
  ey : El y (2 ^ 52)
  ez : El z (2 ^ 52)
  et : El t (2 ^ 52)
  nz : fe z ≠ 0
  x : fe x = p.x * fe z
  y : fe y = p.y * fe z
  t : fe t = p.x * p.y * fe z
abbrev padd (p q : Go.Cv.Pt Go.Fp.P Go.Fp.d) : Go.Cv.Pt Go.Fp.P Go.Fp.d := Go.Cv.Pt.add Go.Fp.fld p q
abbrev pmul (k : Nat) (p : Go.Cv.Pt Go.Fp.P Go.Fp.d) : Go.Cv.Pt Go.Fp.P Go.Fp.d := Go.Cv.Pt.mul Go.Fp.fld k p
abbrev pzero : Go.Cv.Pt Go.Fp.P Go.Fp.d := Go.Cv.Pt.zero
theorem plus_math {x1 y1 z1 t1 x2 y2 z2 t2 dd a b c e x y z t px py qx qy rx ry : Go.Fp.Fe} (hx1 : x1 = px * z1) (hy1 : y1 = py * z1) (ht1 : t1 = px * py * z1) (hx2 : x2 = qx * z2) (hy2 : y2 = qy * z2) (ht2 : t2 = qx * qy * z2)
    (ha : a = (y1 - x1) * (y2 - x2)) (hb : b = (y1 + x1) * (y2 + x2)) (hc : c = 1 * 2 * dd * t1 * t2) (he : e = 1 * 2 * z1 * z2) (hx : x = (b - a) * (e - c)) (hy : y = (e + c) * (b + a)) (hz : z = (e - c) * (e + c)) (ht : t = (b - a) * (b + a))
    (hrx : rx * (1 + dd * px * qx * py * qy) = px * qy + qx * py) (hry : ry * (1 - dd * px * qx * py * qy) = py * qy + px * qx) :
    x = rx * z ∧ y = ry * z ∧ t = rx * ry * z ∧ z = (2 * z1 * z2) * (2 * z1 * z2) * ((1 - dd * px * qx * py * qy) * (1 + dd * px * qx * py * qy)) := by
  have e1 : b - a = (2 * z1 * z2) * (px * qy + qx * py) := by rw [hb, ha, hx1, hy1, hx2, hy2]; grobner
  have e2 : b + a = (2 * z1 * z2) * (py * qy + px * qx) := by rw [hb, ha, hx1, hy1, hx2, hy2]; grobner
  have e3 : e - c = (2 * z1 * z2) * (1 - dd * px * qx * py * qy) := by rw [he, hc, ht1, ht2]; grobner
  have e4 : e + c = (2 * z1 * z2) * (1 + dd * px * qx * py * qy) := by rw [he, hc, ht1, ht2]; grobner
  rw [e1, ← hrx, e3] at hx
  rw [e4, e2, ← hry] at hy
  rw [e3, e4] at hz
  rw [e1, e2, ← hrx, ← hry] at ht
  clear hx1 hy1 ht1 hx2 hy2 ht2 ha hb hc he hrx hry e1 e2 e3 e4
  generalize 1 + dd * px * qx * py * qy = k at *
  generalize 1 - dd * px * qx * py * qy = m at *
  generalize 2 * z1 * z2 = w at *
  subst hx hy hz ht
  refine ⟨?_, ?_, ?_, ?_⟩ <;> grobner
theorem Rep.plus {x1 y1 z1 t1 x2 y2 z2 t2 d : List Nat} {p q : Go.Cv.Pt Go.Fp.P Go.Fp.d} (h1 : Rep x1 y1 z1 t1 p) (h2 : Rep x2 y2 z2 t2 q) (Ed : El d (2 ^ 52)) (hd : fe d = Go.Fp.d) :
    ∃ x y z t, evVal T 54 [pV x1 y1 z1 t1, pV x2 y2 z2 t2, eV d] = some (pV x y z t) ∧ Rep x y z t (padd p q) := by
  obtain ⟨x, y, z, t, hv, Ex, Ey, Ez, Et, a, b, c, e, ha, hb, hc, he, hx, hy, hz, ht⟩ := plus_v h1.ex h1.ey h1.ez h1.et h2.ex h2.ey h2.ez h2.et Ed
  rw [hd] at hc
  obtain ⟨g1, g2, g3, g4⟩ := plus_math h1.x h1.y h1.t h2.x h2.y h2.t ha hb hc he hx hy hz ht (Go.Cv.add_x Go.Fp.fld p q) (Go.Cv.add_y Go.Fp.fld p q)
  refine ⟨x, y, z, t, hv, Ex, Ey, Ez, Et, ?_, g1, g2, g3⟩
  rw [g4]
  have F := Go.Fp.fld
  have w := F.mul_ne (F.mul_ne F.two h1.nz) h2.nz
  exact F.mul_ne (F.mul_ne w w) (F.mul_ne (F.denM p.on q.on) (F.denP p.on q.on))
theorem twice_math {x1 y1 z1 dd a b c h e g f x y z t px py rx ry : Go.Fp.Fe} (hx1 : x1 = px * z1) (hy1 : y1 = py * z1) (on : -(px * px) + py * py = 1 + dd * (px * px) * (py * py))
    (ha : a = x1 * x1) (hb : b = y1 * y1) (hc : c = 1 * 2 * z1 * z1) (hh : h = a + b) (he : e = h - (x1 + y1) * (x1 + y1)) (hg : g = a - b) (hf : f = c + g) (hx : x = e * f) (hy : y = g * h) (hz : z = f * g) (ht : t = e * h)
    (hrx : rx * (1 + dd * px * px * py * py) = px * py + px * py) (hry : ry * (1 - dd * px * px * py * py) = py * py + px * px) :
    x = rx * z ∧ y = ry * z ∧ t = rx * ry * z ∧ z = -((z1 * z1) * (z1 * z1) * ((1 - dd * px * px * py * py) * (1 + dd * px * px * py * py))) := by
  have e1 : e = -((z1 * z1) * (px * py + px * py)) := by rw [he, hh, ha, hb, hx1, hy1]; grobner
  have e2 : h = (z1 * z1) * (py * py + px * px) := by rw [hh, ha, hb, hx1, hy1]; grobner
  have e3 : g = -((z1 * z1) * (1 + dd * px * px * py * py)) := by
    have : 1 + dd * px * px * py * py = py * py - px * px := by
      clear hx1 hy1 ha hb hc hh he hg hf hx hy hz ht hrx hry e1 e2
      grobner
    rw [this, hg, ha, hb, hx1, hy1]; grobner
  have e4 : f = (z1 * z1) * (1 - dd * px * px * py * py) := by
    rw [hf, e3, hc]
    clear hx1 hy1 on ha hb hc hh he hg hf hx hy hz ht hrx hry e1 e2 e3
    grobner
  rw [← hrx] at e1
  rw [← hry] at e2
  clear hx1 hy1 on ha hb hc hh he hg hf hrx hry
  generalize 1 + dd * px * px * py * py = k at *
  generalize 1 - dd * px * px * py * py = m at *
  generalize z1 * z1 = w at *
  subst e1 e2 e3 e4 hx hy hz ht
  refine ⟨?_, ?_, ?_, ?_⟩ <;> grobner
theorem Rep.twice {x1 y1 z1 t1 : List Nat} {p : Go.Cv.Pt Go.Fp.P Go.Fp.d} (h1 : Rep x1 y1 z1 t1 p) : ∃ x y z t, evVal T 53 [pV x1 y1 z1 t1] = some (pV x y z t) ∧ Rep x y z t (padd p p) := by
  obtain ⟨x, y, z, t, hv, Ex, Ey, Ez, Et, a, b, c, h, e, g, f, ha, hb, hc, hh, he, hg, hf, hx, hy, hz, ht⟩ := twice_v h1.ex h1.ey h1.ez h1.et
  obtain ⟨g1, g2, g3, g4⟩ := twice_math h1.x h1.y p.on ha hb hc hh he hg hf hx hy hz ht (Go.Cv.add_x Go.Fp.fld p p) (Go.Cv.add_y Go.Fp.fld p p)
  refine ⟨x, y, z, t, hv, Ex, Ey, Ez, Et, ?_, g1, g2, g3⟩
  rw [g4]
  have F := Go.Fp.fld
  have w := F.mul_ne h1.nz h1.nz
  have n := F.mul_ne (F.mul_ne w w) (F.mul_ne (F.denM p.on p.on) (F.denP p.on p.on))
  intro h0
  exact n (by grobner)
end Go.Ev.Ytaceeoghjgggjaa
set_option linter.unusedSimpArgs false
set_option linter.unusedVariables false
namespace Go.Ev.Ytaceeoghjgggjaa
open Go Go.Ev
attribute [local congr] bind_congr2 ite_congr2 qElse_congr gate_congr guardV_congr
set_option maxRecDepth 100000
def RepL (l : List Nat) (p : Go.Cv.Pt Go.Fp.P Go.Fp.d) : Prop := ∃ x y z t, l = pL x y z t ∧ Rep x y z t p
theorem RepL.len {l : List Nat} {p : Go.Cv.Pt Go.Fp.P Go.Fp.d} (h : RepL l p) : l.length = 20 := by
  obtain ⟨x, y, z, t, rfl, h⟩ := h
  exact pL_len h.ex h.ey h.ez h.et
theorem plusL {l m d : List Nat} {p q : Go.Cv.Pt Go.Fp.P Go.Fp.d} (h1 : RepL l p) (h2 : RepL m q) (Ed : El d (2 ^ 52)) (hd : fe d = Go.Fp.d) : ∃ r, evVal T 54 [eV l, eV m, eV d] = some (eV r) ∧ RepL r (padd p q) := by
  obtain ⟨x, y, z, t, rfl, h1⟩ := h1
  obtain ⟨x2, y2, z2, t2, rfl, h2⟩ := h2
  obtain ⟨a, b, c, e, h3, h4⟩ := h1.plus h2 Ed hd
  exact ⟨pL a b c e, h3, a, b, c, e, rfl, h4⟩
theorem twiceL {l : List Nat} {p : Go.Cv.Pt Go.Fp.P Go.Fp.d} (h1 : RepL l p) : ∃ r, evVal T 53 [eV l] = some (eV r) ∧ RepL r (padd p p) := by
  obtain ⟨x, y, z, t, rfl, h1⟩ := h1
  obtain ⟨a, b, c, e, h3, h4⟩ := h1.twice
  exact ⟨pL a b c e, h3, a, b, c, e, rfl, h4⟩
def dK : List Nat := dig 256 32 Go.Fp.dN
theorem dK_num : num 256 dK = Go.Fp.dN := by decide +kernel
theorem dK_lt : ∀ x ∈ dK, x < 256 := fun _ h => dig_lt (by decide) h
theorem factor_v : ∃ r, evVal T 52 [] = some (eV r) ∧ El r (2 ^ 52) ∧ fe r = Go.Fp.d := by
  have h := of_v (k := dK) (dig_len _ _ _) dK_lt
  refine ⟨dig (2 ^ 51) 5 (num 256 dK % 2 ^ 255), ?_, of_el, ?_⟩
  rotate_left
  · unfold fe
    rw [of_v51, dK_num]
    rfl
  · have hl : (dig (2 ^ 51) 5 (num 256 dK % 2 ^ 255)).length = 5 := dig_len _ _ _
    have hf : fillL (List.replicate 32 (Value.int .u8 0)) [(0, 1, .int .u8 163), (1, 1, .int .u8 120), (2, 1, .int .u8 89), (3, 1, .int .u8 19), (4, 1, .int .u8 202), (5, 1, .int .u8 77), (6, 1, .int .u8 235), (7, 1, .int .u8 117), (8, 1, .int .u8 171), (9, 1, .int .u8 216), (10, 1, .int .u8 65), (11, 1, .int .u8 65), (12, 1, .int .u8 77), (13, 1, .int .u8 10), (14, 1, .int .u8 112), (15, 1, .int .u8 0), (16, 1, .int .u8 152), (17, 1, .int .u8 232), (18, 1, .int .u8 121), (19, 1, .int .u8 119), (20, 1, .int .u8 121), (21, 1, .int .u8 64), (22, 1, .int .u8 199), (23, 1, .int .u8 140), (24, 1, .int .u8 115), (25, 1, .int .u8 254), (26, 1, .int .u8 111), (27, 1, .int .u8 43), (28, 1, .int .u8 238), (29, 1, .int .u8 108), (30, 1, .int .u8 3), (31, 1, .int .u8 82)] = some (u8s dK) := by
      have : dK = [163, 120, 89, 19, 202, 77, 235, 117, 171, 216, 65, 65, 77, 10, 112, 0, 152, 232, 121, 119, 121, 64, 199, 140, 115, 254, 111, 43, 238, 108, 3, 82] := by decide +kernel
      rw [this]; rfl
    generalize dig (2 ^ 51) 5 (num 256 dK % 2 ^ 255) = D at *
    apply evVal_ex
    apply Exists.intro
    rw [evFun_fn (fn := a52) rfl]
    simp only [a52, envOf, evCode_skip, evCode_exit, evCode_seq, fs_blockS, fs_blockR, fs_blockC, fs_blockK, fs_blockB, evCode_ret, quiet, keep_nil, keep_cons, fs_cond, fs_region, fs_regionQ, quiet2_eq, lastOf_nil, lastOf_cons, List.take_succ_cons, List.take_zero, List.drop_succ_cons, List.drop_zero, Int.reduceBEq, Int.reduceBNe,  fs_nil, fs_guard, fs_move, fs_pick, fs_alloc, fs_box, fs_load, fs_store, fs_bin, fs_eqv, fs_isNil, fs_un, fs_conv, fs_convStr, fs_field, fs_index, fs_indexStr, fs_build, fs_buildSlice, fs_fieldAddr, fs_indexAddr, fs_indexSl, fs_sliceArr, fs_sliceSl, fs_sliceStr, fs_makeSlice, fs_extract, fs_mkIface, fs_mkFunc, fs_nilCheck, fs_s2ap, fs_len, fs_minmax, fs_s2b, fs_b2s, fs_append, fs_copy, fs_callW, fs_callR, fs_callv, opd_tmp, opd_const, opd_func, opds_nil, opds_cons, opdOpt_none, opdOpt_some, opdParts_nil, opdParts_cons, get_miss, vPick_t, vPick_f, vEq_agg, vEq_aggN, vEq_bool, vEq_boolN, vConv_int, vStr_s, vField_agg, vIndex_agg, vIndexStr_s, vFieldAddr_p, vIndexAddr_p, vIndexSl_s, vSliceArr_p, vSliceSl_s, vSliceSl_n, vSliceStr_s, vExtract_t, vNilCheck_p, vS2ap_s, vLen_s, vLen_str, vMin_i, vMax_i, vLoad_p, vStore_p, baseP_p, vB2s_s, vMake_i, vS2b_s, callee_f, liveAt_eq, storeAt_eq, partL_none, partL_some, natIn_none, natIn_int, bounds3_two, bin_add, bin_sub, bin_mul, bin_quo, bin_rem, bin_and, bin_or, bin_xor, bin_andNot, bin_eql, bin_neq, bin_lss, bin_leq, bin_gtr, bin_geq, bin_shl, bin_shr, bin_sadd, bin_seql, bin_sneq, un_not, un_neg, un_xor, after_some, put_some, put_none, res_nil, res_val, res_var, packed_one, packed_two, merge_nil, merge_ge, rf_tup2, rfIn_int, rfIn_bool, rfIn_u8s, rf_str, rfIn_str, ↓gate_true, gd_bool, gd_ut, gd_uf, ↓guardV_tt, ↓guardV_ff, ↓guardV_tf, ↓guardV_ft, ↓keepV_some, ↓qElse_some, ↓get_hit, ↓Option.bind_some, ↓if_true, ↓if_false, List.nil_append, List.cons_append, List.all_nil, List.all_cons, List.isEmpty_nil, reduceCtorEq, Bool.false_eq_true, Nat.reduceEqDiff, beq_self_eq_true, bne_self_eq_false, Bool.not_true, Bool.not_false, Int.natCast_nonneg, Nat.lt_irrefl, false_and, Int.reduceEq, rf_int, rf_bool, rf_tuple_ints, rf_u8s, arr_list, toList2, Bool.and_self, Nat.not_lt_zero, Nat.sub_zero, Nat.zero_le, Nat.le_add_right, cells_agg, cells_agg_size, cells_int, cells_int_size, okV_int, okV_bool, okV_str, okV_agg, okV_ptr, okV_slice, okV_func, okV_nilFunc, okV_iface, okV_nilIface, cells_bool, cells_bool_size, cells_ptr, cells_ptr_size, cells_slice, cells_slice_size, cells_str, cells_str_size, eq_self, wrapI64_small, Int.natCast_zero, Int.natCast_one, Int.cast_ofNat_Int, List.length_nil, List.length_cons, List.getElem?_cons_zero, List.getElem?_cons_succ, List.set_cons_zero, List.set_cons_succ, Nat.zero_add, Nat.add_zero, Nat.mul_one, Nat.zero_mul, Int.toNat_natCast, Int.toNat_zero, Int.lt_irrefl, Int.le_refl, Nat.le_refl, and_self, true_and, and_true, decide_true, decide_false, Int.reduceLE, Int.reduceLT, Int.reduceAdd, Int.reduceMul, Int.reduceSub, Int.reduceTDiv, Int.reduceTMod, Int.reduceNeg, Int.reduceToNat, Int.reduceGT, Int.reduceGE, Int.reducePow, Nat.reduceAdd, Nat.reduceMul, Nat.reduceSub, Nat.reduceDiv, Nat.reduceMod, Nat.reducePow, Nat.reduceLT, Nat.reduceLeDiff, Nat.min_self, ge_iff_le, gt_iff_lt, Option.isNone_none, Option.isSome_none, Option.isNone_some, Option.isSome_some, Bool.and_true, Bool.true_and, Bool.and_false, Bool.false_and, not_true_eq_false, not_false_eq_true, or_true, true_or, false_or, or_false, hget0, hgetK, hset0, hsetK, splice_single, splice_whole, take_whole, List.getElem?_nil, List.length_append, List.append_assoc, hf, h, List.length_replicate, take_all, eV_cells, eV_size, eV_ok, eV_fold, rf_eV, ns_len, hl]
    rfl
theorem one_v : evVal T 50 [.int .u32 1] = some (eV [1, 0, 0, 0, 0]) := small_v (n := 1) (by decide)
theorem zero_el5 : El [0, 0, 0, 0, 0] (2 ^ 52) := small_el (by decide)
theorem zero_fe : fe [0, 0, 0, 0, 0] = 0 := by rw [small_fe]; rfl
theorem zero_v : ∃ r, evVal T 30 [] = some (eV r) ∧ RepL r pzero := by
  refine ⟨pL [0, 0, 0, 0, 0] [1, 0, 0, 0, 0] [1, 0, 0, 0, 0] [0, 0, 0, 0, 0], ?_, _, _, _, _, rfl, zero_el5, one_el, one_el, zero_el5, ?_, ?_, ?_, ?_⟩
  · have hf : fillL (List.replicate 20 (Value.int .u64 0)) [(5, 5, eV [1, 0, 0, 0, 0]), (10, 5, eV [1, 0, 0, 0, 0])] = some (ns .u64 (pL [0, 0, 0, 0, 0] [1, 0, 0, 0, 0] [1, 0, 0, 0, 0] [0, 0, 0, 0, 0])) := rfl
    have hl : (pL [0, 0, 0, 0, 0] [1, 0, 0, 0, 0] [1, 0, 0, 0, 0] [0, 0, 0, 0, 0]).length = 20 := rfl
    have hv := one_v
    generalize pL [0, 0, 0, 0, 0] [1, 0, 0, 0, 0] [1, 0, 0, 0, 0] [0, 0, 0, 0, 0] = Z at *
    generalize ([1, 0, 0, 0, 0] : List Nat) = O at *
    apply evVal_ex
    apply Exists.intro
    rw [evFun_fn (fn := a30) rfl]
    simp only [a30, envOf, evCode_skip, evCode_exit, evCode_seq, fs_blockS, fs_blockR, fs_blockC, fs_blockK, fs_blockB, evCode_ret, quiet, keep_nil, keep_cons, fs_cond, fs_region, fs_regionQ, quiet2_eq, lastOf_nil, lastOf_cons, List.take_succ_cons, List.take_zero, List.drop_succ_cons, List.drop_zero, Int.reduceBEq, Int.reduceBNe,  fs_nil, fs_guard, fs_move, fs_pick, fs_alloc, fs_box, fs_load, fs_store, fs_bin, fs_eqv, fs_isNil, fs_un, fs_conv, fs_convStr, fs_field, fs_index, fs_indexStr, fs_build, fs_buildSlice, fs_fieldAddr, fs_indexAddr, fs_indexSl, fs_sliceArr, fs_sliceSl, fs_sliceStr, fs_makeSlice, fs_extract, fs_mkIface, fs_mkFunc, fs_nilCheck, fs_s2ap, fs_len, fs_minmax, fs_s2b, fs_b2s, fs_append, fs_copy, fs_callW, fs_callR, fs_callv, opd_tmp, opd_const, opd_func, opds_nil, opds_cons, opdOpt_none, opdOpt_some, opdParts_nil, opdParts_cons, get_miss, vPick_t, vPick_f, vEq_agg, vEq_aggN, vEq_bool, vEq_boolN, vConv_int, vStr_s, vField_agg, vIndex_agg, vIndexStr_s, vFieldAddr_p, vIndexAddr_p, vIndexSl_s, vSliceArr_p, vSliceSl_s, vSliceSl_n, vSliceStr_s, vExtract_t, vNilCheck_p, vS2ap_s, vLen_s, vLen_str, vMin_i, vMax_i, vLoad_p, vStore_p, baseP_p, vB2s_s, vMake_i, vS2b_s, callee_f, liveAt_eq, storeAt_eq, partL_none, partL_some, natIn_none, natIn_int, bounds3_two, bin_add, bin_sub, bin_mul, bin_quo, bin_rem, bin_and, bin_or, bin_xor, bin_andNot, bin_eql, bin_neq, bin_lss, bin_leq, bin_gtr, bin_geq, bin_shl, bin_shr, bin_sadd, bin_seql, bin_sneq, un_not, un_neg, un_xor, after_some, put_some, put_none, res_nil, res_val, res_var, packed_one, packed_two, merge_nil, merge_ge, rf_tup2, rfIn_int, rfIn_bool, rfIn_u8s, rf_str, rfIn_str, ↓gate_true, gd_bool, gd_ut, gd_uf, ↓guardV_tt, ↓guardV_ff, ↓guardV_tf, ↓guardV_ft, ↓keepV_some, ↓qElse_some, ↓get_hit, ↓Option.bind_some, ↓if_true, ↓if_false, List.nil_append, List.cons_append, List.all_nil, List.all_cons, List.isEmpty_nil, reduceCtorEq, Bool.false_eq_true, Nat.reduceEqDiff, beq_self_eq_true, bne_self_eq_false, Bool.not_true, Bool.not_false, Int.natCast_nonneg, Nat.lt_irrefl, false_and, Int.reduceEq, rf_int, rf_bool, rf_tuple_ints, rf_u8s, arr_list, toList2, Bool.and_self, Nat.not_lt_zero, Nat.sub_zero, Nat.zero_le, Nat.le_add_right, cells_agg, cells_agg_size, cells_int, cells_int_size, okV_int, okV_bool, okV_str, okV_agg, okV_ptr, okV_slice, okV_func, okV_nilFunc, okV_iface, okV_nilIface, cells_bool, cells_bool_size, cells_ptr, cells_ptr_size, cells_slice, cells_slice_size, cells_str, cells_str_size, eq_self, wrapI64_small, Int.natCast_zero, Int.natCast_one, Int.cast_ofNat_Int, List.length_nil, List.length_cons, List.getElem?_cons_zero, List.getElem?_cons_succ, List.set_cons_zero, List.set_cons_succ, Nat.zero_add, Nat.add_zero, Nat.mul_one, Nat.zero_mul, Int.toNat_natCast, Int.toNat_zero, Int.lt_irrefl, Int.le_refl, Nat.le_refl, and_self, true_and, and_true, decide_true, decide_false, Int.reduceLE, Int.reduceLT, Int.reduceAdd, Int.reduceMul, Int.reduceSub, Int.reduceTDiv, Int.reduceTMod, Int.reduceNeg, Int.reduceToNat, Int.reduceGT, Int.reduceGE, Int.reducePow, Nat.reduceAdd, Nat.reduceMul, Nat.reduceSub, Nat.reduceDiv, Nat.reduceMod, Nat.reducePow, Nat.reduceLT, Nat.reduceLeDiff, Nat.min_self, ge_iff_le, gt_iff_lt, Option.isNone_none, Option.isSome_none, Option.isNone_some, Option.isSome_some, Bool.and_true, Bool.true_and, Bool.and_false, Bool.false_and, not_true_eq_false, not_false_eq_true, or_true, true_or, false_or, or_false, hget0, hgetK, hset0, hsetK, splice_single, splice_whole, take_whole, List.getElem?_nil, List.length_append, List.append_assoc, hf, hv, List.length_replicate, take_all, eV_cells, eV_size, eV_ok, eV_fold, rf_eV, ns_len, hl]
    rfl
  · rw [one_fe]; exact Go.Fp.one_ne
  · rw [zero_fe]; simp only [Go.Cv.Pt.zero]; grobner
  · rw [one_fe]; simp only [Go.Cv.Pt.zero]; grobner
  · rw [zero_fe]; simp only [Go.Cv.Pt.zero]; grobner
theorem pmul_step (p : Go.Cv.Pt Go.Fp.P Go.Fp.d) (m b : Nat) (hb : b < 2) : pmul (2 * m + b) p = if b = 1 then padd (padd (pmul m p) (pmul m p)) p else padd (pmul m p) (pmul m p) := by
  have h1 : pmul (2 * m) p = padd (pmul m p) (pmul m p) := by rw [show 2 * m = m + m by omega]; exact Go.Cv.mul_add Go.Fp.fld m m p
  by_cases h : b = 1
  · subst h
    rw [if_pos rfl]
    show padd (pmul (2 * m) p) p = _
    rw [h1]
  · have : b = 0 := by omega
    subst this
    rw [if_neg (by decide), Nat.add_zero, h1]
def muI (l k o d : List Nat) (R : Ob) (i : Int) (ex : Env) : St := ⟨[(2, .pointer (some ⟨0, 0, none⟩)), (3, .pointer (some ⟨1, 0, none⟩)), (4, .pointer (some ⟨2, 0, none⟩)), (5, .pointer (some ⟨3, 0, none⟩)), (6, .pointer (some ⟨4, 0, none⟩)), (7, .int .i64 i)] ++ ex, [⟨ns .u64 l, true, true, true, 1⟩, ⟨u8s k, true, true, true, 1⟩, R, ⟨ns .u64 o, true, true, true, 1⟩, ⟨ns .u64 d, true, true, true, 1⟩], []⟩
theorem mu_body {l k o d : List Nat} {R : Ob} {i : Nat} {p : Go.Cv.Pt Go.Fp.P Go.Fp.d} (hl : RepL l p) (lk : k.length = 32) (xk : ∀ x ∈ k, x < 256) (hi : i < 256) (Ed : El d (2 ^ 52)) (hd : fe d = Go.Fp.d) (ho : RepL o (pmul (num 256 k / 2 ^ (i + 1)) p)) :
    ∃ r, evCode T 0 a26_l0 (muI l k o d R i []) = some (.normal, muI l k r d R ((i : Int) - 1) []) ∧ RepL r (pmul (num 256 k / 2 ^ i) p) := by
  obtain ⟨b, hb⟩ : ∃ b, k[i / 8]? = some b := ⟨_, List.getElem?_eq_getElem (by omega)⟩
  have hbv := num_get (B := 256) (by decide) xk hb
  have hbc := u8s_get hb
  have hbit : b / 2 ^ (i % 8) % 2 = num 256 k / 2 ^ i % 2 := by
    rw [← hbv, show (256 : Nat) = 2 ^ 8 from rfl, bitOf (Nat.mod_lt _ (by decide)), Nat.div_add_mod]
  obtain ⟨r1, m1, g1⟩ := twiceL ho
  obtain ⟨r2, m2, g3⟩ := plusL g1 hl Ed hd
  have hlt := bit_lt (num 256 k) i
  have hnum : num 256 k / 2 ^ i = 2 * (num 256 k / 2 ^ (i + 1)) + num 256 k / 2 ^ i % 2 := by
    rw [Nat.pow_succ, ← Nat.div_div_eq_div_mul]
    omega
  have hstep := pmul_step p (num 256 k / 2 ^ (i + 1)) (num 256 k / 2 ^ i % 2) hlt
  rw [← hnum] at hstep
  have s1 : (2 : Int) ^ min (i % 8) IntKind.u8.bits = ((2 ^ (i % 8) : Nat) : Int) := pow_min (Nat.le_of_lt (Nat.mod_lt _ (by decide)))
  have w2 : IntKind.i64.wrap ((i / 8 : Nat) : Int) = ((i / 8 : Nat) : Int) := wrap_nat (by omega)
  have w3 : IntKind.i64.wrap ((i : Int) - 1) = (i : Int) - 1 := wrapI64_small (by omega) (by omega)
  have e1 : ((0 : Int) ≤ (i : Int)) = True := eq_true (by omega)
  have e3 : (((i / 8 : Nat) : Int) < 32) = True := eq_true (by omega)
  have e4 : (((i % 8 : Nat) : Int) < 0) = False := eq_false (by omega)
  have l1 := hl.len
  have l2 := ho.len
  have l3 := g1.len
  have l4 := g3.len
  have l5 := Ed.len
  generalize hB : num 256 k / 2 ^ i % 2 = B at *
  by_cases hB1 : B = 1
  · have hbq : ((B : Int) == 1) = true := by rw [hB1]; rfl
    rw [if_pos hB1] at hstep
    refine ⟨r2, ?_, by rw [hstep]; exact g3⟩
    simp only [muI, a26_l0, envOf, evCode_skip, evCode_exit, evCode_seq, fs_blockS, fs_blockR, fs_blockC, fs_blockK, fs_blockB, evCode_ret, quiet, keep_nil, keep_cons, fs_cond, fs_region, fs_regionQ, quiet2_eq, lastOf_nil, lastOf_cons, List.take_succ_cons, List.take_zero, List.drop_succ_cons, List.drop_zero, Int.reduceBEq, Int.reduceBNe,  fs_nil, fs_guard, fs_move, fs_pick, fs_alloc, fs_box, fs_load, fs_store, fs_bin, fs_eqv, fs_isNil, fs_un, fs_conv, fs_convStr, fs_field, fs_index, fs_indexStr, fs_build, fs_buildSlice, fs_fieldAddr, fs_indexAddr, fs_indexSl, fs_sliceArr, fs_sliceSl, fs_sliceStr, fs_makeSlice, fs_extract, fs_mkIface, fs_mkFunc, fs_nilCheck, fs_s2ap, fs_len, fs_minmax, fs_s2b, fs_b2s, fs_append, fs_copy, fs_callW, fs_callR, fs_callv, opd_tmp, opd_const, opd_func, opds_nil, opds_cons, opdOpt_none, opdOpt_some, opdParts_nil, opdParts_cons, get_miss, vPick_t, vPick_f, vEq_agg, vEq_aggN, vEq_bool, vEq_boolN, vConv_int, vStr_s, vField_agg, vIndex_agg, vIndexStr_s, vFieldAddr_p, vIndexAddr_p, vIndexSl_s, vSliceArr_p, vSliceSl_s, vSliceSl_n, vSliceStr_s, vExtract_t, vNilCheck_p, vS2ap_s, vLen_s, vLen_str, vMin_i, vMax_i, vLoad_p, vStore_p, baseP_p, vB2s_s, vMake_i, vS2b_s, callee_f, liveAt_eq, storeAt_eq, partL_none, partL_some, natIn_none, natIn_int, bounds3_two, bin_add, bin_sub, bin_mul, bin_quo, bin_rem, bin_and, bin_or, bin_xor, bin_andNot, bin_eql, bin_neq, bin_lss, bin_leq, bin_gtr, bin_geq, bin_shl, bin_shr, bin_sadd, bin_seql, bin_sneq, un_not, un_neg, un_xor, after_some, put_some, put_none, res_nil, res_val, res_var, packed_one, packed_two, merge_nil, merge_ge, rf_tup2, rfIn_int, rfIn_bool, rfIn_u8s, rf_str, rfIn_str, ↓gate_true, gd_bool, gd_ut, gd_uf, ↓guardV_tt, ↓guardV_ff, ↓guardV_tf, ↓guardV_ft, ↓keepV_some, ↓qElse_some, ↓get_hit, ↓Option.bind_some, ↓if_true, ↓if_false, List.nil_append, List.cons_append, List.all_nil, List.all_cons, List.isEmpty_nil, reduceCtorEq, Bool.false_eq_true, Nat.reduceEqDiff, beq_self_eq_true, bne_self_eq_false, Bool.not_true, Bool.not_false, Int.natCast_nonneg, Nat.lt_irrefl, false_and, Int.reduceEq, rf_int, rf_bool, rf_tuple_ints, rf_u8s, arr_list, toList2, Bool.and_self, Nat.not_lt_zero, Nat.sub_zero, Nat.zero_le, Nat.le_add_right, cells_agg, cells_agg_size, cells_int, cells_int_size, okV_int, okV_bool, okV_str, okV_agg, okV_ptr, okV_slice, okV_func, okV_nilFunc, okV_iface, okV_nilIface, cells_bool, cells_bool_size, cells_ptr, cells_ptr_size, cells_slice, cells_slice_size, cells_str, cells_str_size, eq_self, wrapI64_small, Int.natCast_zero, Int.natCast_one, Int.cast_ofNat_Int, List.length_nil, List.length_cons, List.getElem?_cons_zero, List.getElem?_cons_succ, List.set_cons_zero, List.set_cons_succ, Nat.zero_add, Nat.add_zero, Nat.mul_one, Nat.zero_mul, Int.toNat_natCast, Int.toNat_zero, Int.lt_irrefl, Int.le_refl, Nat.le_refl, and_self, true_and, and_true, decide_true, decide_false, Int.reduceLE, Int.reduceLT, Int.reduceAdd, Int.reduceMul, Int.reduceSub, Int.reduceTDiv, Int.reduceTMod, Int.reduceNeg, Int.reduceToNat, Int.reduceGT, Int.reduceGE, Int.reducePow, Nat.reduceAdd, Nat.reduceMul, Nat.reduceSub, Nat.reduceDiv, Nat.reduceMod, Nat.reducePow, Nat.reduceLT, Nat.reduceLeDiff, Nat.min_self, ge_iff_le, gt_iff_lt, Option.isNone_none, Option.isSome_none, Option.isNone_some, Option.isSome_some, Bool.and_true, Bool.true_and, Bool.and_false, Bool.false_and, not_true_eq_false, not_false_eq_true, or_true, true_or, false_or, or_false, hget0, hgetK, hset0, hsetK, splice_single, splice_whole, take_whole, List.getElem?_nil, List.length_append, List.append_assoc, n_add, n_mul, n_ladd, n_addl, n_lmul, n_mull, n_fdiv, n_fdivl, n_tdiv, n_tmod, n_w64, n_w32, n_w16, n_w8, n_sub64, n_lsub64, n_subl64, n_m32, n_m51, n_m1, n_m1b, n_m7b, p64_32, p64_51, p64_13, p8_7, hbc, hbit, s1, w2, w3, e1, e3, e4, m1, m2, hbq, take_all, eV_cells, eV_size, eV_ok, eV_fold, ns_len, l1, l2, l3, l4, l5, rf_eV]
  · have hbq : ((B : Int) == 1) = false := by
      have : B = 0 := by omega
      rw [this]; rfl
    rw [if_neg hB1] at hstep
    refine ⟨r1, ?_, by rw [hstep]; exact g1⟩
    simp only [muI, a26_l0, envOf, evCode_skip, evCode_exit, evCode_seq, fs_blockS, fs_blockR, fs_blockC, fs_blockK, fs_blockB, evCode_ret, quiet, keep_nil, keep_cons, fs_cond, fs_region, fs_regionQ, quiet2_eq, lastOf_nil, lastOf_cons, List.take_succ_cons, List.take_zero, List.drop_succ_cons, List.drop_zero, Int.reduceBEq, Int.reduceBNe,  fs_nil, fs_guard, fs_move, fs_pick, fs_alloc, fs_box, fs_load, fs_store, fs_bin, fs_eqv, fs_isNil, fs_un, fs_conv, fs_convStr, fs_field, fs_index, fs_indexStr, fs_build, fs_buildSlice, fs_fieldAddr, fs_indexAddr, fs_indexSl, fs_sliceArr, fs_sliceSl, fs_sliceStr, fs_makeSlice, fs_extract, fs_mkIface, fs_mkFunc, fs_nilCheck, fs_s2ap, fs_len, fs_minmax, fs_s2b, fs_b2s, fs_append, fs_copy, fs_callW, fs_callR, fs_callv, opd_tmp, opd_const, opd_func, opds_nil, opds_cons, opdOpt_none, opdOpt_some, opdParts_nil, opdParts_cons, get_miss, vPick_t, vPick_f, vEq_agg, vEq_aggN, vEq_bool, vEq_boolN, vConv_int, vStr_s, vField_agg, vIndex_agg, vIndexStr_s, vFieldAddr_p, vIndexAddr_p, vIndexSl_s, vSliceArr_p, vSliceSl_s, vSliceSl_n, vSliceStr_s, vExtract_t, vNilCheck_p, vS2ap_s, vLen_s, vLen_str, vMin_i, vMax_i, vLoad_p, vStore_p, baseP_p, vB2s_s, vMake_i, vS2b_s, callee_f, liveAt_eq, storeAt_eq, partL_none, partL_some, natIn_none, natIn_int, bounds3_two, bin_add, bin_sub, bin_mul, bin_quo, bin_rem, bin_and, bin_or, bin_xor, bin_andNot, bin_eql, bin_neq, bin_lss, bin_leq, bin_gtr, bin_geq, bin_shl, bin_shr, bin_sadd, bin_seql, bin_sneq, un_not, un_neg, un_xor, after_some, put_some, put_none, res_nil, res_val, res_var, packed_one, packed_two, merge_nil, merge_ge, rf_tup2, rfIn_int, rfIn_bool, rfIn_u8s, rf_str, rfIn_str, ↓gate_true, gd_bool, gd_ut, gd_uf, ↓guardV_tt, ↓guardV_ff, ↓guardV_tf, ↓guardV_ft, ↓keepV_some, ↓qElse_some, ↓get_hit, ↓Option.bind_some, ↓if_true, ↓if_false, List.nil_append, List.cons_append, List.all_nil, List.all_cons, List.isEmpty_nil, reduceCtorEq, Bool.false_eq_true, Nat.reduceEqDiff, beq_self_eq_true, bne_self_eq_false, Bool.not_true, Bool.not_false, Int.natCast_nonneg, Nat.lt_irrefl, false_and, Int.reduceEq, rf_int, rf_bool, rf_tuple_ints, rf_u8s, arr_list, toList2, Bool.and_self, Nat.not_lt_zero, Nat.sub_zero, Nat.zero_le, Nat.le_add_right, cells_agg, cells_agg_size, cells_int, cells_int_size, okV_int, okV_bool, okV_str, okV_agg, okV_ptr, okV_slice, okV_func, okV_nilFunc, okV_iface, okV_nilIface, cells_bool, cells_bool_size, cells_ptr, cells_ptr_size, cells_slice, cells_slice_size, cells_str, cells_str_size, eq_self, wrapI64_small, Int.natCast_zero, Int.natCast_one, Int.cast_ofNat_Int, List.length_nil, List.length_cons, List.getElem?_cons_zero, List.getElem?_cons_succ, List.set_cons_zero, List.set_cons_succ, Nat.zero_add, Nat.add_zero, Nat.mul_one, Nat.zero_mul, Int.toNat_natCast, Int.toNat_zero, Int.lt_irrefl, Int.le_refl, Nat.le_refl, and_self, true_and, and_true, decide_true, decide_false, Int.reduceLE, Int.reduceLT, Int.reduceAdd, Int.reduceMul, Int.reduceSub, Int.reduceTDiv, Int.reduceTMod, Int.reduceNeg, Int.reduceToNat, Int.reduceGT, Int.reduceGE, Int.reducePow, Nat.reduceAdd, Nat.reduceMul, Nat.reduceSub, Nat.reduceDiv, Nat.reduceMod, Nat.reducePow, Nat.reduceLT, Nat.reduceLeDiff, Nat.min_self, ge_iff_le, gt_iff_lt, Option.isNone_none, Option.isSome_none, Option.isNone_some, Option.isSome_some, Bool.and_true, Bool.true_and, Bool.and_false, Bool.false_and, not_true_eq_false, not_false_eq_true, or_true, true_or, false_or, or_false, hget0, hgetK, hset0, hsetK, splice_single, splice_whole, take_whole, List.getElem?_nil, List.length_append, List.append_assoc, n_add, n_mul, n_ladd, n_addl, n_lmul, n_mull, n_fdiv, n_fdivl, n_tdiv, n_tmod, n_w64, n_w32, n_w16, n_w8, n_sub64, n_lsub64, n_subl64, n_m32, n_m51, n_m1, n_m1b, n_m7b, p64_32, p64_51, p64_13, p8_7, hbc, hbit, s1, w2, w3, e1, e3, e4, m1, m2, hbq, take_all, eV_cells, eV_size, eV_ok, eV_fold, ns_len, l1, l2, l3, l4, l5, rf_eV]
theorem multiply_v {l k : List Nat} {p : Go.Cv.Pt Go.Fp.P Go.Fp.d} (hl : RepL l p) (lk : k.length = 32) (xk : ∀ x ∈ k, x < 256) : ∃ r, evVal T 26 [eV l, .agg (u8s k).toArray] = some (eV r) ∧ RepL r (pmul (num 256 k) p) := by
  have hK := num_lt xk
  rw [lk, show (256 : Nat) ^ 32 = 2 ^ 256 from by rw [show (256 : Nat) = 2 ^ 8 from rfl, ← Nat.pow_mul]] at hK
  obtain ⟨z, hz, hz2⟩ := zero_v
  obtain ⟨d, hd1, Ed, hd⟩ := factor_v
  obtain ⟨st, hb, r, rfl, hr1⟩ := block_inv (T := T) (base := 0) (id := 0) (body := a26_l0)
    (fun j st => ∃ r : List Nat, st = muI l k r d ⟨List.replicate 20 (.int .u64 0), true, true, true, 1⟩ ((255 : Int) - j) [] ∧ RepL r (pmul (num 256 k / 2 ^ (256 - j)) p))
    (Q := fun st => ∃ r : List Nat, st = muI l k r d ⟨List.replicate 20 (.int .u64 0), true, true, true, 1⟩ (-1) [(11, .bool false)] ∧ RepL r (pmul (num 256 k) p))
    256 (s := muI l k z d ⟨List.replicate 20 (.int .u64 0), true, true, true, 1⟩ 255 []) ⟨_, rfl, by rw [Nat.sub_zero, Nat.div_eq_of_lt hK]; exact hz2⟩
    (fun j st hj hs => by
      obtain ⟨r, rfl, h2⟩ := hs
      obtain ⟨i, hi⟩ : ∃ i, 256 - j = i + 1 := ⟨255 - j, by omega⟩
      rw [hi] at h2
      obtain ⟨r', g1, g3⟩ := mu_body (R := ⟨List.replicate 20 (.int .u64 0), true, true, true, 1⟩) hl lk xk (i := i) (by omega) Ed hd h2
      rw [show (255 : Int) - j = (i : Int) by omega]
      refine ⟨_, g1, r', ?_, ?_⟩
      · rw [show (255 : Int) - ((j + 1 : Nat) : Int) = (i : Int) - 1 by omega]
      · rw [show 256 - (j + 1) = i by omega]; exact g3)
    (fun st hs => by
      obtain ⟨r, rfl, h2⟩ := hs
      rw [Nat.sub_self, Nat.pow_zero, Nat.div_one] at h2
      have e : ((0 : Int) ≤ -1) = False := by decide
      refine ⟨_, ?_, r, rfl, h2⟩
      rw [show (255 : Int) - ((256 : Nat) : Int) = -1 by omega]
      simp only [muI, a26_l0, envOf, evCode_skip, evCode_exit, evCode_seq, fs_blockS, fs_blockR, fs_blockC, fs_blockK, fs_blockB, evCode_ret, quiet, keep_nil, keep_cons, fs_cond, fs_region, fs_regionQ, quiet2_eq, lastOf_nil, lastOf_cons, List.take_succ_cons, List.take_zero, List.drop_succ_cons, List.drop_zero, Int.reduceBEq, Int.reduceBNe,  fs_nil, fs_guard, fs_move, fs_pick, fs_alloc, fs_box, fs_load, fs_store, fs_bin, fs_eqv, fs_isNil, fs_un, fs_conv, fs_convStr, fs_field, fs_index, fs_indexStr, fs_build, fs_buildSlice, fs_fieldAddr, fs_indexAddr, fs_indexSl, fs_sliceArr, fs_sliceSl, fs_sliceStr, fs_makeSlice, fs_extract, fs_mkIface, fs_mkFunc, fs_nilCheck, fs_s2ap, fs_len, fs_minmax, fs_s2b, fs_b2s, fs_append, fs_copy, fs_callW, fs_callR, fs_callv, opd_tmp, opd_const, opd_func, opds_nil, opds_cons, opdOpt_none, opdOpt_some, opdParts_nil, opdParts_cons, get_miss, vPick_t, vPick_f, vEq_agg, vEq_aggN, vEq_bool, vEq_boolN, vConv_int, vStr_s, vField_agg, vIndex_agg, vIndexStr_s, vFieldAddr_p, vIndexAddr_p, vIndexSl_s, vSliceArr_p, vSliceSl_s, vSliceSl_n, vSliceStr_s, vExtract_t, vNilCheck_p, vS2ap_s, vLen_s, vLen_str, vMin_i, vMax_i, vLoad_p, vStore_p, baseP_p, vB2s_s, vMake_i, vS2b_s, callee_f, liveAt_eq, storeAt_eq, partL_none, partL_some, natIn_none, natIn_int, bounds3_two, bin_add, bin_sub, bin_mul, bin_quo, bin_rem, bin_and, bin_or, bin_xor, bin_andNot, bin_eql, bin_neq, bin_lss, bin_leq, bin_gtr, bin_geq, bin_shl, bin_shr, bin_sadd, bin_seql, bin_sneq, un_not, un_neg, un_xor, after_some, put_some, put_none, res_nil, res_val, res_var, packed_one, packed_two, merge_nil, merge_ge, rf_tup2, rfIn_int, rfIn_bool, rfIn_u8s, rf_str, rfIn_str, ↓gate_true, gd_bool, gd_ut, gd_uf, ↓guardV_tt, ↓guardV_ff, ↓guardV_tf, ↓guardV_ft, ↓keepV_some, ↓qElse_some, ↓get_hit, ↓Option.bind_some, ↓if_true, ↓if_false, List.nil_append, List.cons_append, List.all_nil, List.all_cons, List.isEmpty_nil, reduceCtorEq, Bool.false_eq_true, Nat.reduceEqDiff, beq_self_eq_true, bne_self_eq_false, Bool.not_true, Bool.not_false, Int.natCast_nonneg, Nat.lt_irrefl, false_and, Int.reduceEq, rf_int, rf_bool, rf_tuple_ints, rf_u8s, arr_list, toList2, Bool.and_self, Nat.not_lt_zero, Nat.sub_zero, Nat.zero_le, Nat.le_add_right, cells_agg, cells_agg_size, cells_int, cells_int_size, okV_int, okV_bool, okV_str, okV_agg, okV_ptr, okV_slice, okV_func, okV_nilFunc, okV_iface, okV_nilIface, cells_bool, cells_bool_size, cells_ptr, cells_ptr_size, cells_slice, cells_slice_size, cells_str, cells_str_size, eq_self, wrapI64_small, Int.natCast_zero, Int.natCast_one, Int.cast_ofNat_Int, List.length_nil, List.length_cons, List.getElem?_cons_zero, List.getElem?_cons_succ, List.set_cons_zero, List.set_cons_succ, Nat.zero_add, Nat.add_zero, Nat.mul_one, Nat.zero_mul, Int.toNat_natCast, Int.toNat_zero, Int.lt_irrefl, Int.le_refl, Nat.le_refl, and_self, true_and, and_true, decide_true, decide_false, Int.reduceLE, Int.reduceLT, Int.reduceAdd, Int.reduceMul, Int.reduceSub, Int.reduceTDiv, Int.reduceTMod, Int.reduceNeg, Int.reduceToNat, Int.reduceGT, Int.reduceGE, Int.reducePow, Nat.reduceAdd, Nat.reduceMul, Nat.reduceSub, Nat.reduceDiv, Nat.reduceMod, Nat.reducePow, Nat.reduceLT, Nat.reduceLeDiff, Nat.min_self, ge_iff_le, gt_iff_lt, Option.isNone_none, Option.isSome_none, Option.isNone_some, Option.isSome_some, Bool.and_true, Bool.true_and, Bool.and_false, Bool.false_and, not_true_eq_false, not_false_eq_true, or_true, true_or, false_or, or_false, e])
  refine ⟨r, ?_, hr1⟩
  have l1 := hl.len
  have l2 := hz2.len
  have l3 := hr1.len
  have l4 := Ed.len
  simp only [muI, List.cons_append, List.nil_append] at hb
  apply evVal_ex
  apply Exists.intro
  rw [evFun_fn (fn := a26) rfl]
  simp only [a26, envOf, evCode_skip, evCode_exit, evCode_seq, fs_blockS, fs_blockR, fs_blockC, fs_blockK, fs_blockB, evCode_ret, quiet, keep_nil, keep_cons, fs_cond, fs_region, fs_regionQ, quiet2_eq, lastOf_nil, lastOf_cons, List.take_succ_cons, List.take_zero, List.drop_succ_cons, List.drop_zero, Int.reduceBEq, Int.reduceBNe,  fs_nil, fs_guard, fs_move, fs_pick, fs_alloc, fs_box, fs_load, fs_store, fs_bin, fs_eqv, fs_isNil, fs_un, fs_conv, fs_convStr, fs_field, fs_index, fs_indexStr, fs_build, fs_buildSlice, fs_fieldAddr, fs_indexAddr, fs_indexSl, fs_sliceArr, fs_sliceSl, fs_sliceStr, fs_makeSlice, fs_extract, fs_mkIface, fs_mkFunc, fs_nilCheck, fs_s2ap, fs_len, fs_minmax, fs_s2b, fs_b2s, fs_append, fs_copy, fs_callW, fs_callR, fs_callv, opd_tmp, opd_const, opd_func, opds_nil, opds_cons, opdOpt_none, opdOpt_some, opdParts_nil, opdParts_cons, get_miss, vPick_t, vPick_f, vEq_agg, vEq_aggN, vEq_bool, vEq_boolN, vConv_int, vStr_s, vField_agg, vIndex_agg, vIndexStr_s, vFieldAddr_p, vIndexAddr_p, vIndexSl_s, vSliceArr_p, vSliceSl_s, vSliceSl_n, vSliceStr_s, vExtract_t, vNilCheck_p, vS2ap_s, vLen_s, vLen_str, vMin_i, vMax_i, vLoad_p, vStore_p, baseP_p, vB2s_s, vMake_i, vS2b_s, callee_f, liveAt_eq, storeAt_eq, partL_none, partL_some, natIn_none, natIn_int, bounds3_two, bin_add, bin_sub, bin_mul, bin_quo, bin_rem, bin_and, bin_or, bin_xor, bin_andNot, bin_eql, bin_neq, bin_lss, bin_leq, bin_gtr, bin_geq, bin_shl, bin_shr, bin_sadd, bin_seql, bin_sneq, un_not, un_neg, un_xor, after_some, put_some, put_none, res_nil, res_val, res_var, packed_one, packed_two, merge_nil, merge_ge, rf_tup2, rfIn_int, rfIn_bool, rfIn_u8s, rf_str, rfIn_str, ↓gate_true, gd_bool, gd_ut, gd_uf, ↓guardV_tt, ↓guardV_ff, ↓guardV_tf, ↓guardV_ft, ↓keepV_some, ↓qElse_some, ↓get_hit, ↓Option.bind_some, ↓if_true, ↓if_false, List.nil_append, List.cons_append, List.all_nil, List.all_cons, List.isEmpty_nil, reduceCtorEq, Bool.false_eq_true, Nat.reduceEqDiff, beq_self_eq_true, bne_self_eq_false, Bool.not_true, Bool.not_false, Int.natCast_nonneg, Nat.lt_irrefl, false_and, Int.reduceEq, rf_int, rf_bool, rf_tuple_ints, rf_u8s, arr_list, toList2, Bool.and_self, Nat.not_lt_zero, Nat.sub_zero, Nat.zero_le, Nat.le_add_right, cells_agg, cells_agg_size, cells_int, cells_int_size, okV_int, okV_bool, okV_str, okV_agg, okV_ptr, okV_slice, okV_func, okV_nilFunc, okV_iface, okV_nilIface, cells_bool, cells_bool_size, cells_ptr, cells_ptr_size, cells_slice, cells_slice_size, cells_str, cells_str_size, eq_self, wrapI64_small, Int.natCast_zero, Int.natCast_one, Int.cast_ofNat_Int, List.length_nil, List.length_cons, List.getElem?_cons_zero, List.getElem?_cons_succ, List.set_cons_zero, List.set_cons_succ, Nat.zero_add, Nat.add_zero, Nat.mul_one, Nat.zero_mul, Int.toNat_natCast, Int.toNat_zero, Int.lt_irrefl, Int.le_refl, Nat.le_refl, and_self, true_and, and_true, decide_true, decide_false, Int.reduceLE, Int.reduceLT, Int.reduceAdd, Int.reduceMul, Int.reduceSub, Int.reduceTDiv, Int.reduceTMod, Int.reduceNeg, Int.reduceToNat, Int.reduceGT, Int.reduceGE, Int.reducePow, Nat.reduceAdd, Nat.reduceMul, Nat.reduceSub, Nat.reduceDiv, Nat.reduceMod, Nat.reducePow, Nat.reduceLT, Nat.reduceLeDiff, Nat.min_self, ge_iff_le, gt_iff_lt, Option.isNone_none, Option.isSome_none, Option.isNone_some, Option.isSome_some, Bool.and_true, Bool.true_and, Bool.and_false, Bool.false_and, not_true_eq_false, not_false_eq_true, or_true, true_or, false_or, or_false, hget0, hgetK, hset0, hsetK, splice_single, splice_whole, take_whole, List.getElem?_nil, List.length_append, List.append_assoc, hz, hd1, hb, muI, List.length_replicate, take_all, eV_cells, eV_size, eV_ok, eV_fold, ns_len, l1, l2, l3, l4, rf_eV]
  rfl
end Go.Ev.Ytaceeoghjgggjaa
set_option linter.unusedSimpArgs false
set_option linter.unusedVariables false
namespace Go.Ev.Ytaceeoghjgggjaa
open Go Go.Ev
attribute [local congr] bind_congr2 ite_congr2 qElse_congr gate_congr guardV_congr
set_option maxRecDepth 100000
instance decPt (p q : Go.Cv.Pt Go.Fp.P Go.Fp.d) : Decidable (p = q) := if h : p.x = q.x ∧ p.y = q.y then isTrue (Go.Cv.Pt.ext h.1 h.2) else isFalse (fun e => h (by rw [e]; exact ⟨rfl, rfl⟩))
theorem same_iff {a b z w : Go.Fp.Fe} (hz : z ≠ 0) (hw : w ≠ 0) : (a * z * w = b * w * z) = (a = b) := by
  apply propext
  constructor
  · intro h
    have F := Go.Fp.fld
    refine F.cancel (F.mul_ne hz hw) ?_
    grobner
  · intro h; subst h; grobner
theorem equal_v {l m : List Nat} {p q : Go.Cv.Pt Go.Fp.P Go.Fp.d} (h1 : RepL l p) (h2 : RepL m q) : evVal T 28 [eV l, eV m] = some (.bool (decide (p = q))) := by
  obtain ⟨x1, y1, z1, t1, rfl, h1⟩ := h1
  obtain ⟨x2, y2, z2, t2, rfl, h2⟩ := h2
  obtain ⟨a, ha, Ea, fa⟩ := mul_ev h1.ex h2.ez
  obtain ⟨b, hb, Eb, fb⟩ := mul_ev h2.ex h1.ez
  obtain ⟨c, hc, Ec, fc⟩ := mul_ev h1.ey h2.ez
  obtain ⟨e, he, Ee, fe_⟩ := mul_ev h2.ey h1.ez
  have q1 := eq_v Ea Eb
  have q2 := eq_v Ec Ee
  rw [fa, fb, h1.x, h2.x] at q1
  rw [fc, fe_, h1.y, h2.y] at q2
  simp only [same_iff h1.nz h2.nz] at q1 q2
  obtain ⟨u0, u1, u2, u3⟩ := quad h1.ex h1.ey h1.ez h1.et
  obtain ⟨v0, v1, v2, v3⟩ := quad h2.ex h2.ey h2.ez h2.et
  have p1 := pL_len h1.ex h1.ey h1.ez h1.et
  have p2 := pL_len h2.ex h2.ey h2.ez h2.et
  generalize pL x1 y1 z1 t1 = L at *
  generalize pL x2 y2 z2 t2 = M at *
  by_cases hx : p.x = q.x
  · rw [decide_eq_true hx] at q1
    have hd : decide (p = q) = decide (p.y = q.y) := by
      by_cases hy : p.y = q.y
      · rw [decide_eq_true hy, decide_eq_true (Go.Cv.Pt.ext hx hy)]
      · rw [decide_eq_false hy, decide_eq_false (fun h => hy (by rw [h]))]
    rw [hd]
    apply evVal_ex
    apply Exists.intro
    rw [evFun_fn (fn := a28) rfl]
    simp only [a28, envOf, evCode_skip, evCode_exit, evCode_seq, fs_blockS, fs_blockR, fs_blockC, fs_blockK, fs_blockB, evCode_ret, quiet, keep_nil, keep_cons, fs_cond, fs_region, fs_regionQ, quiet2_eq, lastOf_nil, lastOf_cons, List.take_succ_cons, List.take_zero, List.drop_succ_cons, List.drop_zero, Int.reduceBEq, Int.reduceBNe,  fs_nil, fs_guard, fs_move, fs_pick, fs_alloc, fs_box, fs_load, fs_store, fs_bin, fs_eqv, fs_isNil, fs_un, fs_conv, fs_convStr, fs_field, fs_index, fs_indexStr, fs_build, fs_buildSlice, fs_fieldAddr, fs_indexAddr, fs_indexSl, fs_sliceArr, fs_sliceSl, fs_sliceStr, fs_makeSlice, fs_extract, fs_mkIface, fs_mkFunc, fs_nilCheck, fs_s2ap, fs_len, fs_minmax, fs_s2b, fs_b2s, fs_append, fs_copy, fs_callW, fs_callR, fs_callv, opd_tmp, opd_const, opd_func, opds_nil, opds_cons, opdOpt_none, opdOpt_some, opdParts_nil, opdParts_cons, get_miss, vPick_t, vPick_f, vEq_agg, vEq_aggN, vEq_bool, vEq_boolN, vConv_int, vStr_s, vField_agg, vIndex_agg, vIndexStr_s, vFieldAddr_p, vIndexAddr_p, vIndexSl_s, vSliceArr_p, vSliceSl_s, vSliceSl_n, vSliceStr_s, vExtract_t, vNilCheck_p, vS2ap_s, vLen_s, vLen_str, vMin_i, vMax_i, vLoad_p, vStore_p, baseP_p, vB2s_s, vMake_i, vS2b_s, callee_f, liveAt_eq, storeAt_eq, partL_none, partL_some, natIn_none, natIn_int, bounds3_two, bin_add, bin_sub, bin_mul, bin_quo, bin_rem, bin_and, bin_or, bin_xor, bin_andNot, bin_eql, bin_neq, bin_lss, bin_leq, bin_gtr, bin_geq, bin_shl, bin_shr, bin_sadd, bin_seql, bin_sneq, un_not, un_neg, un_xor, after_some, put_some, put_none, res_nil, res_val, res_var, packed_one, packed_two, merge_nil, merge_ge, rf_tup2, rfIn_int, rfIn_bool, rfIn_u8s, rf_str, rfIn_str, ↓gate_true, gd_bool, gd_ut, gd_uf, ↓guardV_tt, ↓guardV_ff, ↓guardV_tf, ↓guardV_ft, ↓keepV_some, ↓qElse_some, ↓get_hit, ↓Option.bind_some, ↓if_true, ↓if_false, List.nil_append, List.cons_append, List.all_nil, List.all_cons, List.isEmpty_nil, reduceCtorEq, Bool.false_eq_true, Nat.reduceEqDiff, beq_self_eq_true, bne_self_eq_false, Bool.not_true, Bool.not_false, Int.natCast_nonneg, Nat.lt_irrefl, false_and, Int.reduceEq, rf_int, rf_bool, rf_tuple_ints, rf_u8s, arr_list, toList2, Bool.and_self, Nat.not_lt_zero, Nat.sub_zero, Nat.zero_le, Nat.le_add_right, cells_agg, cells_agg_size, cells_int, cells_int_size, okV_int, okV_bool, okV_str, okV_agg, okV_ptr, okV_slice, okV_func, okV_nilFunc, okV_iface, okV_nilIface, cells_bool, cells_bool_size, cells_ptr, cells_ptr_size, cells_slice, cells_slice_size, cells_str, cells_str_size, eq_self, wrapI64_small, Int.natCast_zero, Int.natCast_one, Int.cast_ofNat_Int, List.length_nil, List.length_cons, List.getElem?_cons_zero, List.getElem?_cons_succ, List.set_cons_zero, List.set_cons_succ, Nat.zero_add, Nat.add_zero, Nat.mul_one, Nat.zero_mul, Int.toNat_natCast, Int.toNat_zero, Int.lt_irrefl, Int.le_refl, Nat.le_refl, and_self, true_and, and_true, decide_true, decide_false, Int.reduceLE, Int.reduceLT, Int.reduceAdd, Int.reduceMul, Int.reduceSub, Int.reduceTDiv, Int.reduceTMod, Int.reduceNeg, Int.reduceToNat, Int.reduceGT, Int.reduceGE, Int.reducePow, Nat.reduceAdd, Nat.reduceMul, Nat.reduceSub, Nat.reduceDiv, Nat.reduceMod, Nat.reducePow, Nat.reduceLT, Nat.reduceLeDiff, Nat.min_self, ge_iff_le, gt_iff_lt, Option.isNone_none, Option.isSome_none, Option.isNone_some, Option.isSome_some, Bool.and_true, Bool.true_and, Bool.and_false, Bool.false_and, not_true_eq_false, not_false_eq_true, or_true, true_or, false_or, or_false, hget0, hgetK, hset0, hsetK, splice_single, splice_whole, take_whole, List.getElem?_nil, List.length_append, List.append_assoc, u0, u1, u2, v0, v1, v2, ha, hb, hc, he, q1, q2, List.length_replicate, take_all, eV_cells, eV_size, eV_ok, eV_fold, ns_len, p1, p2, rf_eV]
    rfl
  · rw [decide_eq_false hx] at q1
    rw [decide_eq_false (fun h => hx (by rw [h]))]
    apply evVal_ex
    apply Exists.intro
    rw [evFun_fn (fn := a28) rfl]
    simp only [a28, envOf, evCode_skip, evCode_exit, evCode_seq, fs_blockS, fs_blockR, fs_blockC, fs_blockK, fs_blockB, evCode_ret, quiet, keep_nil, keep_cons, fs_cond, fs_region, fs_regionQ, quiet2_eq, lastOf_nil, lastOf_cons, List.take_succ_cons, List.take_zero, List.drop_succ_cons, List.drop_zero, Int.reduceBEq, Int.reduceBNe,  fs_nil, fs_guard, fs_move, fs_pick, fs_alloc, fs_box, fs_load, fs_store, fs_bin, fs_eqv, fs_isNil, fs_un, fs_conv, fs_convStr, fs_field, fs_index, fs_indexStr, fs_build, fs_buildSlice, fs_fieldAddr, fs_indexAddr, fs_indexSl, fs_sliceArr, fs_sliceSl, fs_sliceStr, fs_makeSlice, fs_extract, fs_mkIface, fs_mkFunc, fs_nilCheck, fs_s2ap, fs_len, fs_minmax, fs_s2b, fs_b2s, fs_append, fs_copy, fs_callW, fs_callR, fs_callv, opd_tmp, opd_const, opd_func, opds_nil, opds_cons, opdOpt_none, opdOpt_some, opdParts_nil, opdParts_cons, get_miss, vPick_t, vPick_f, vEq_agg, vEq_aggN, vEq_bool, vEq_boolN, vConv_int, vStr_s, vField_agg, vIndex_agg, vIndexStr_s, vFieldAddr_p, vIndexAddr_p, vIndexSl_s, vSliceArr_p, vSliceSl_s, vSliceSl_n, vSliceStr_s, vExtract_t, vNilCheck_p, vS2ap_s, vLen_s, vLen_str, vMin_i, vMax_i, vLoad_p, vStore_p, baseP_p, vB2s_s, vMake_i, vS2b_s, callee_f, liveAt_eq, storeAt_eq, partL_none, partL_some, natIn_none, natIn_int, bounds3_two, bin_add, bin_sub, bin_mul, bin_quo, bin_rem, bin_and, bin_or, bin_xor, bin_andNot, bin_eql, bin_neq, bin_lss, bin_leq, bin_gtr, bin_geq, bin_shl, bin_shr, bin_sadd, bin_seql, bin_sneq, un_not, un_neg, un_xor, after_some, put_some, put_none, res_nil, res_val, res_var, packed_one, packed_two, merge_nil, merge_ge, rf_tup2, rfIn_int, rfIn_bool, rfIn_u8s, rf_str, rfIn_str, ↓gate_true, gd_bool, gd_ut, gd_uf, ↓guardV_tt, ↓guardV_ff, ↓guardV_tf, ↓guardV_ft, ↓keepV_some, ↓qElse_some, ↓get_hit, ↓Option.bind_some, ↓if_true, ↓if_false, List.nil_append, List.cons_append, List.all_nil, List.all_cons, List.isEmpty_nil, reduceCtorEq, Bool.false_eq_true, Nat.reduceEqDiff, beq_self_eq_true, bne_self_eq_false, Bool.not_true, Bool.not_false, Int.natCast_nonneg, Nat.lt_irrefl, false_and, Int.reduceEq, rf_int, rf_bool, rf_tuple_ints, rf_u8s, arr_list, toList2, Bool.and_self, Nat.not_lt_zero, Nat.sub_zero, Nat.zero_le, Nat.le_add_right, cells_agg, cells_agg_size, cells_int, cells_int_size, okV_int, okV_bool, okV_str, okV_agg, okV_ptr, okV_slice, okV_func, okV_nilFunc, okV_iface, okV_nilIface, cells_bool, cells_bool_size, cells_ptr, cells_ptr_size, cells_slice, cells_slice_size, cells_str, cells_str_size, eq_self, wrapI64_small, Int.natCast_zero, Int.natCast_one, Int.cast_ofNat_Int, List.length_nil, List.length_cons, List.getElem?_cons_zero, List.getElem?_cons_succ, List.set_cons_zero, List.set_cons_succ, Nat.zero_add, Nat.add_zero, Nat.mul_one, Nat.zero_mul, Int.toNat_natCast, Int.toNat_zero, Int.lt_irrefl, Int.le_refl, Nat.le_refl, and_self, true_and, and_true, decide_true, decide_false, Int.reduceLE, Int.reduceLT, Int.reduceAdd, Int.reduceMul, Int.reduceSub, Int.reduceTDiv, Int.reduceTMod, Int.reduceNeg, Int.reduceToNat, Int.reduceGT, Int.reduceGE, Int.reducePow, Nat.reduceAdd, Nat.reduceMul, Nat.reduceSub, Nat.reduceDiv, Nat.reduceMod, Nat.reducePow, Nat.reduceLT, Nat.reduceLeDiff, Nat.min_self, ge_iff_le, gt_iff_lt, Option.isNone_none, Option.isSome_none, Option.isNone_some, Option.isSome_some, Bool.and_true, Bool.true_and, Bool.and_false, Bool.false_and, not_true_eq_false, not_false_eq_true, or_true, true_or, false_or, or_false, hget0, hgetK, hset0, hsetK, splice_single, splice_whole, take_whole, List.getElem?_nil, List.length_append, List.append_assoc, u0, u1, u2, v0, v1, v2, ha, hb, hc, he, q1, q2, List.length_replicate, take_all, eV_cells, eV_size, eV_ok, eV_fold, ns_len, p1, p2, rf_eV]
    rfl
theorem eight_eq (p : Go.Cv.Pt Go.Fp.P Go.Fp.d) : padd (padd (padd p p) (padd p p)) (padd (padd p p) (padd p p)) = pmul 8 p := by
  have h2 : pmul 2 p = padd p p := Go.Cv.mul_two Go.Fp.fld p
  have h4 : pmul 4 p = padd (pmul 2 p) (pmul 2 p) := Go.Cv.mul_add Go.Fp.fld 2 2 p
  have h8 : pmul 8 p = padd (pmul 4 p) (pmul 4 p) := Go.Cv.mul_add Go.Fp.fld 4 4 p
  rw [h8, h4, h2]
theorem tiny_v {l : List Nat} {p : Go.Cv.Pt Go.Fp.P Go.Fp.d} (h : RepL l p) : evVal T 39 [eV l] = some (.bool (decide (pmul 8 p = pzero))) := by
  obtain ⟨a, ha, ra⟩ := twiceL h
  obtain ⟨b, hb, rb⟩ := twiceL ra
  obtain ⟨c, hc, rc⟩ := twiceL rb
  obtain ⟨z, hz, rz⟩ := zero_v
  have he := equal_v rc rz
  rw [eight_eq] at he
  have p1 := h.len
  apply evVal_ex
  apply Exists.intro
  rw [evFun_fn (fn := a39) rfl]
  simp only [a39, envOf, evCode_skip, evCode_exit, evCode_seq, fs_blockS, fs_blockR, fs_blockC, fs_blockK, fs_blockB, evCode_ret, quiet, keep_nil, keep_cons, fs_cond, fs_region, fs_regionQ, quiet2_eq, lastOf_nil, lastOf_cons, List.take_succ_cons, List.take_zero, List.drop_succ_cons, List.drop_zero, Int.reduceBEq, Int.reduceBNe,  fs_nil, fs_guard, fs_move, fs_pick, fs_alloc, fs_box, fs_load, fs_store, fs_bin, fs_eqv, fs_isNil, fs_un, fs_conv, fs_convStr, fs_field, fs_index, fs_indexStr, fs_build, fs_buildSlice, fs_fieldAddr, fs_indexAddr, fs_indexSl, fs_sliceArr, fs_sliceSl, fs_sliceStr, fs_makeSlice, fs_extract, fs_mkIface, fs_mkFunc, fs_nilCheck, fs_s2ap, fs_len, fs_minmax, fs_s2b, fs_b2s, fs_append, fs_copy, fs_callW, fs_callR, fs_callv, opd_tmp, opd_const, opd_func, opds_nil, opds_cons, opdOpt_none, opdOpt_some, opdParts_nil, opdParts_cons, get_miss, vPick_t, vPick_f, vEq_agg, vEq_aggN, vEq_bool, vEq_boolN, vConv_int, vStr_s, vField_agg, vIndex_agg, vIndexStr_s, vFieldAddr_p, vIndexAddr_p, vIndexSl_s, vSliceArr_p, vSliceSl_s, vSliceSl_n, vSliceStr_s, vExtract_t, vNilCheck_p, vS2ap_s, vLen_s, vLen_str, vMin_i, vMax_i, vLoad_p, vStore_p, baseP_p, vB2s_s, vMake_i, vS2b_s, callee_f, liveAt_eq, storeAt_eq, partL_none, partL_some, natIn_none, natIn_int, bounds3_two, bin_add, bin_sub, bin_mul, bin_quo, bin_rem, bin_and, bin_or, bin_xor, bin_andNot, bin_eql, bin_neq, bin_lss, bin_leq, bin_gtr, bin_geq, bin_shl, bin_shr, bin_sadd, bin_seql, bin_sneq, un_not, un_neg, un_xor, after_some, put_some, put_none, res_nil, res_val, res_var, packed_one, packed_two, merge_nil, merge_ge, rf_tup2, rfIn_int, rfIn_bool, rfIn_u8s, rf_str, rfIn_str, ↓gate_true, gd_bool, gd_ut, gd_uf, ↓guardV_tt, ↓guardV_ff, ↓guardV_tf, ↓guardV_ft, ↓keepV_some, ↓qElse_some, ↓get_hit, ↓Option.bind_some, ↓if_true, ↓if_false, List.nil_append, List.cons_append, List.all_nil, List.all_cons, List.isEmpty_nil, reduceCtorEq, Bool.false_eq_true, Nat.reduceEqDiff, beq_self_eq_true, bne_self_eq_false, Bool.not_true, Bool.not_false, Int.natCast_nonneg, Nat.lt_irrefl, false_and, Int.reduceEq, rf_int, rf_bool, rf_tuple_ints, rf_u8s, arr_list, toList2, Bool.and_self, Nat.not_lt_zero, Nat.sub_zero, Nat.zero_le, Nat.le_add_right, cells_agg, cells_agg_size, cells_int, cells_int_size, okV_int, okV_bool, okV_str, okV_agg, okV_ptr, okV_slice, okV_func, okV_nilFunc, okV_iface, okV_nilIface, cells_bool, cells_bool_size, cells_ptr, cells_ptr_size, cells_slice, cells_slice_size, cells_str, cells_str_size, eq_self, wrapI64_small, Int.natCast_zero, Int.natCast_one, Int.cast_ofNat_Int, List.length_nil, List.length_cons, List.getElem?_cons_zero, List.getElem?_cons_succ, List.set_cons_zero, List.set_cons_succ, Nat.zero_add, Nat.add_zero, Nat.mul_one, Nat.zero_mul, Int.toNat_natCast, Int.toNat_zero, Int.lt_irrefl, Int.le_refl, Nat.le_refl, and_self, true_and, and_true, decide_true, decide_false, Int.reduceLE, Int.reduceLT, Int.reduceAdd, Int.reduceMul, Int.reduceSub, Int.reduceTDiv, Int.reduceTMod, Int.reduceNeg, Int.reduceToNat, Int.reduceGT, Int.reduceGE, Int.reducePow, Nat.reduceAdd, Nat.reduceMul, Nat.reduceSub, Nat.reduceDiv, Nat.reduceMod, Nat.reducePow, Nat.reduceLT, Nat.reduceLeDiff, Nat.min_self, ge_iff_le, gt_iff_lt, Option.isNone_none, Option.isSome_none, Option.isNone_some, Option.isSome_some, Bool.and_true, Bool.true_and, Bool.and_false, Bool.false_and, not_true_eq_false, not_false_eq_true, or_true, true_or, false_or, or_false, hget0, hgetK, hset0, hsetK, splice_single, splice_whole, take_whole, List.getElem?_nil, List.length_append, List.append_assoc, ha, hb, hc, hz, he, take_all, eV_cells, eV_size, eV_ok, eV_fold, ns_len, p1, rf_eV]
  rfl
def encN (p : Go.Cv.Pt Go.Fp.P Go.Fp.d) : Nat := p.y.val + (p.x.val % 2) * 2 ^ 255
def enc (p : Go.Cv.Pt Go.Fp.P Go.Fp.d) : List Nat := dig 256 32 (encN p)
theorem enc_len (p : Go.Cv.Pt Go.Fp.P Go.Fp.d) : (enc p).length = 32 := dig_len _ _ _
theorem val_lt (a : Go.Fp.Fe) : a.val < 2 ^ 255 := Nat.lt_trans a.isLt (by rw [Go.Fp.P_eq]; decide)
theorem encode_v {l : List Nat} {p : Go.Cv.Pt Go.Fp.P Go.Fp.d} (h : RepL l p) : evVal T 29 [eV l] = some (.agg (u8s (enc p)).toArray) := by
  obtain ⟨x, y, z, t, rfl, h⟩ := h
  obtain ⟨i, hi, Ei, fi⟩ := invert_v h.ez
  obtain ⟨a, ha, Ea, fa⟩ := mul_ev h.ey Ei
  obtain ⟨b, hb, Eb, fb⟩ := mul_ev h.ex Ei
  have hinv := Go.Fp.iv_mul h.nz
  have fa' : fe a = p.y := by rw [fa, fi, h.y]; grobner
  have fb' : fe b = p.x := by rw [fb, fi, h.x]; grobner
  have k1 := bytes_v Ea
  have k2 := odd_v Eb
  rw [fa'] at k1
  rw [fb'] at k2
  obtain ⟨u0, u1, u2, u3⟩ := quad h.ex h.ey h.ez h.et
  have p1 := pL_len h.ex h.ey h.ez h.et
  have L1 := Ei.len
  have lk : (dig 256 32 p.y.val).length = 32 := dig_len _ _ _
  have l0 : (dig 256 32 0).length = 32 := rfl
  have hz32 : List.replicate 32 (Value.int .u8 0) = u8s (dig 256 32 0) := rfl
  generalize pL x y z t = L at *
  by_cases ho : p.x.val % 2 = 1
  · rw [decide_eq_true ho] at k2
    have hv := val_lt p.y
    obtain ⟨w, hw⟩ : ∃ w, (dig 256 32 p.y.val)[31]? = some w := ⟨_, List.getElem?_eq_getElem (by rw [dig_len]; decide)⟩
    have hwc := u8s_get hw
    have hw' : w < 256 := dig_lt (by decide) (List.mem_of_getElem? hw)
    have hput := dig_put (w := 8) (m := 32) (q := 31) (s := 7) (y := 1) (M := p.y.val) (by decide) (by decide) hv (by decide)
    have hgd : (dig (2 ^ 8) 32 p.y.val).getD 31 0 = w := by rw [List.getD_eq_getElem?_getD]; rw [show (2 : Nat) ^ 8 = 256 from rfl, hw]; rfl
    rw [hgd] at hput
    have hset := u8s_set (dig 256 32 p.y.val) 31 (w ||| 128)
    rw [show (dig 256 32 p.y.val).set 31 (w ||| 128) = enc p from by rw [enc, encN, ho]; exact hput] at hset
    have o1 : bitsOp .or .u8 (w : Int) 128 = ((w ||| 128 : Nat) : Int) := bits_or (k := .u8) (a := w) (b := 128) rfl hw' (by decide)
    have le := enc_len p
    generalize enc p = E at *
    apply evVal_ex
    apply Exists.intro
    rw [evFun_fn (fn := a29) rfl]
    simp only [a29, envOf, evCode_skip, evCode_exit, evCode_seq, fs_blockS, fs_blockR, fs_blockC, fs_blockK, fs_blockB, evCode_ret, quiet, keep_nil, keep_cons, fs_cond, fs_region, fs_regionQ, quiet2_eq, lastOf_nil, lastOf_cons, List.take_succ_cons, List.take_zero, List.drop_succ_cons, List.drop_zero, Int.reduceBEq, Int.reduceBNe,  fs_nil, fs_guard, fs_move, fs_pick, fs_alloc, fs_box, fs_load, fs_store, fs_bin, fs_eqv, fs_isNil, fs_un, fs_conv, fs_convStr, fs_field, fs_index, fs_indexStr, fs_build, fs_buildSlice, fs_fieldAddr, fs_indexAddr, fs_indexSl, fs_sliceArr, fs_sliceSl, fs_sliceStr, fs_makeSlice, fs_extract, fs_mkIface, fs_mkFunc, fs_nilCheck, fs_s2ap, fs_len, fs_minmax, fs_s2b, fs_b2s, fs_append, fs_copy, fs_callW, fs_callR, fs_callv, opd_tmp, opd_const, opd_func, opds_nil, opds_cons, opdOpt_none, opdOpt_some, opdParts_nil, opdParts_cons, get_miss, vPick_t, vPick_f, vEq_agg, vEq_aggN, vEq_bool, vEq_boolN, vConv_int, vStr_s, vField_agg, vIndex_agg, vIndexStr_s, vFieldAddr_p, vIndexAddr_p, vIndexSl_s, vSliceArr_p, vSliceSl_s, vSliceSl_n, vSliceStr_s, vExtract_t, vNilCheck_p, vS2ap_s, vLen_s, vLen_str, vMin_i, vMax_i, vLoad_p, vStore_p, baseP_p, vB2s_s, vMake_i, vS2b_s, callee_f, liveAt_eq, storeAt_eq, partL_none, partL_some, natIn_none, natIn_int, bounds3_two, bin_add, bin_sub, bin_mul, bin_quo, bin_rem, bin_and, bin_or, bin_xor, bin_andNot, bin_eql, bin_neq, bin_lss, bin_leq, bin_gtr, bin_geq, bin_shl, bin_shr, bin_sadd, bin_seql, bin_sneq, un_not, un_neg, un_xor, after_some, put_some, put_none, res_nil, res_val, res_var, packed_one, packed_two, merge_nil, merge_ge, rf_tup2, rfIn_int, rfIn_bool, rfIn_u8s, rf_str, rfIn_str, ↓gate_true, gd_bool, gd_ut, gd_uf, ↓guardV_tt, ↓guardV_ff, ↓guardV_tf, ↓guardV_ft, ↓keepV_some, ↓qElse_some, ↓get_hit, ↓Option.bind_some, ↓if_true, ↓if_false, List.nil_append, List.cons_append, List.all_nil, List.all_cons, List.isEmpty_nil, reduceCtorEq, Bool.false_eq_true, Nat.reduceEqDiff, beq_self_eq_true, bne_self_eq_false, Bool.not_true, Bool.not_false, Int.natCast_nonneg, Nat.lt_irrefl, false_and, Int.reduceEq, rf_int, rf_bool, rf_tuple_ints, rf_u8s, arr_list, toList2, Bool.and_self, Nat.not_lt_zero, Nat.sub_zero, Nat.zero_le, Nat.le_add_right, cells_agg, cells_agg_size, cells_int, cells_int_size, okV_int, okV_bool, okV_str, okV_agg, okV_ptr, okV_slice, okV_func, okV_nilFunc, okV_iface, okV_nilIface, cells_bool, cells_bool_size, cells_ptr, cells_ptr_size, cells_slice, cells_slice_size, cells_str, cells_str_size, eq_self, wrapI64_small, Int.natCast_zero, Int.natCast_one, Int.cast_ofNat_Int, List.length_nil, List.length_cons, List.getElem?_cons_zero, List.getElem?_cons_succ, List.set_cons_zero, List.set_cons_succ, Nat.zero_add, Nat.add_zero, Nat.mul_one, Nat.zero_mul, Int.toNat_natCast, Int.toNat_zero, Int.lt_irrefl, Int.le_refl, Nat.le_refl, and_self, true_and, and_true, decide_true, decide_false, Int.reduceLE, Int.reduceLT, Int.reduceAdd, Int.reduceMul, Int.reduceSub, Int.reduceTDiv, Int.reduceTMod, Int.reduceNeg, Int.reduceToNat, Int.reduceGT, Int.reduceGE, Int.reducePow, Nat.reduceAdd, Nat.reduceMul, Nat.reduceSub, Nat.reduceDiv, Nat.reduceMod, Nat.reducePow, Nat.reduceLT, Nat.reduceLeDiff, Nat.min_self, ge_iff_le, gt_iff_lt, Option.isNone_none, Option.isSome_none, Option.isNone_some, Option.isSome_some, Bool.and_true, Bool.true_and, Bool.and_false, Bool.false_and, not_true_eq_false, not_false_eq_true, or_true, true_or, false_or, or_false, hget0, hgetK, hset0, hsetK, splice_single, splice_whole, take_whole, List.getElem?_nil, List.length_append, List.append_assoc, hz32, u0, u1, u2, hi, ha, hb, k1, k2, hwc, o1, hset, List.length_replicate, take_all, eV_cells, eV_size, eV_ok, eV_fold, ns_len, u8s_len, lk, l0, le, p1, L1, rf_eV]
    rfl
  · rw [decide_eq_false ho] at k2
    have he : enc p = dig 256 32 p.y.val := by rw [enc, encN, show p.x.val % 2 = 0 by omega, Nat.zero_mul, Nat.add_zero]
    rw [he]
    generalize dig 256 32 p.y.val = E at *
    apply evVal_ex
    apply Exists.intro
    rw [evFun_fn (fn := a29) rfl]
    simp only [a29, envOf, evCode_skip, evCode_exit, evCode_seq, fs_blockS, fs_blockR, fs_blockC, fs_blockK, fs_blockB, evCode_ret, quiet, keep_nil, keep_cons, fs_cond, fs_region, fs_regionQ, quiet2_eq, lastOf_nil, lastOf_cons, List.take_succ_cons, List.take_zero, List.drop_succ_cons, List.drop_zero, Int.reduceBEq, Int.reduceBNe,  fs_nil, fs_guard, fs_move, fs_pick, fs_alloc, fs_box, fs_load, fs_store, fs_bin, fs_eqv, fs_isNil, fs_un, fs_conv, fs_convStr, fs_field, fs_index, fs_indexStr, fs_build, fs_buildSlice, fs_fieldAddr, fs_indexAddr, fs_indexSl, fs_sliceArr, fs_sliceSl, fs_sliceStr, fs_makeSlice, fs_extract, fs_mkIface, fs_mkFunc, fs_nilCheck, fs_s2ap, fs_len, fs_minmax, fs_s2b, fs_b2s, fs_append, fs_copy, fs_callW, fs_callR, fs_callv, opd_tmp, opd_const, opd_func, opds_nil, opds_cons, opdOpt_none, opdOpt_some, opdParts_nil, opdParts_cons, get_miss, vPick_t, vPick_f, vEq_agg, vEq_aggN, vEq_bool, vEq_boolN, vConv_int, vStr_s, vField_agg, vIndex_agg, vIndexStr_s, vFieldAddr_p, vIndexAddr_p, vIndexSl_s, vSliceArr_p, vSliceSl_s, vSliceSl_n, vSliceStr_s, vExtract_t, vNilCheck_p, vS2ap_s, vLen_s, vLen_str, vMin_i, vMax_i, vLoad_p, vStore_p, baseP_p, vB2s_s, vMake_i, vS2b_s, callee_f, liveAt_eq, storeAt_eq, partL_none, partL_some, natIn_none, natIn_int, bounds3_two, bin_add, bin_sub, bin_mul, bin_quo, bin_rem, bin_and, bin_or, bin_xor, bin_andNot, bin_eql, bin_neq, bin_lss, bin_leq, bin_gtr, bin_geq, bin_shl, bin_shr, bin_sadd, bin_seql, bin_sneq, un_not, un_neg, un_xor, after_some, put_some, put_none, res_nil, res_val, res_var, packed_one, packed_two, merge_nil, merge_ge, rf_tup2, rfIn_int, rfIn_bool, rfIn_u8s, rf_str, rfIn_str, ↓gate_true, gd_bool, gd_ut, gd_uf, ↓guardV_tt, ↓guardV_ff, ↓guardV_tf, ↓guardV_ft, ↓keepV_some, ↓qElse_some, ↓get_hit, ↓Option.bind_some, ↓if_true, ↓if_false, List.nil_append, List.cons_append, List.all_nil, List.all_cons, List.isEmpty_nil, reduceCtorEq, Bool.false_eq_true, Nat.reduceEqDiff, beq_self_eq_true, bne_self_eq_false, Bool.not_true, Bool.not_false, Int.natCast_nonneg, Nat.lt_irrefl, false_and, Int.reduceEq, rf_int, rf_bool, rf_tuple_ints, rf_u8s, arr_list, toList2, Bool.and_self, Nat.not_lt_zero, Nat.sub_zero, Nat.zero_le, Nat.le_add_right, cells_agg, cells_agg_size, cells_int, cells_int_size, okV_int, okV_bool, okV_str, okV_agg, okV_ptr, okV_slice, okV_func, okV_nilFunc, okV_iface, okV_nilIface, cells_bool, cells_bool_size, cells_ptr, cells_ptr_size, cells_slice, cells_slice_size, cells_str, cells_str_size, eq_self, wrapI64_small, Int.natCast_zero, Int.natCast_one, Int.cast_ofNat_Int, List.length_nil, List.length_cons, List.getElem?_cons_zero, List.getElem?_cons_succ, List.set_cons_zero, List.set_cons_succ, Nat.zero_add, Nat.add_zero, Nat.mul_one, Nat.zero_mul, Int.toNat_natCast, Int.toNat_zero, Int.lt_irrefl, Int.le_refl, Nat.le_refl, and_self, true_and, and_true, decide_true, decide_false, Int.reduceLE, Int.reduceLT, Int.reduceAdd, Int.reduceMul, Int.reduceSub, Int.reduceTDiv, Int.reduceTMod, Int.reduceNeg, Int.reduceToNat, Int.reduceGT, Int.reduceGE, Int.reducePow, Nat.reduceAdd, Nat.reduceMul, Nat.reduceSub, Nat.reduceDiv, Nat.reduceMod, Nat.reducePow, Nat.reduceLT, Nat.reduceLeDiff, Nat.min_self, ge_iff_le, gt_iff_lt, Option.isNone_none, Option.isSome_none, Option.isNone_some, Option.isSome_some, Bool.and_true, Bool.true_and, Bool.and_false, Bool.false_and, not_true_eq_false, not_false_eq_true, or_true, true_or, false_or, or_false, hget0, hgetK, hset0, hsetK, splice_single, splice_whole, take_whole, List.getElem?_nil, List.length_append, List.append_assoc, hz32, u0, u1, u2, hi, ha, hb, k1, k2, List.length_replicate, take_all, eV_cells, eV_size, eV_ok, eV_fold, ns_len, u8s_len, lk, l0, p1, L1, rf_eV]
    rfl
def bxN : Nat := 15112221349535400772501151409588531511454012693041857206046113283949847762202
def byN : Nat := 46316835694926478169428394003475163141307993866256225615783033603165251855960
def pbase : Go.Cv.Pt Go.Fp.P Go.Fp.d := ⟨Go.Fp.fp bxN, Go.Fp.fp byN, by
  unfold Go.Cv.On Go.Fp.d
  have h : (Go.Fp.fp byN * Go.Fp.fp byN : Go.Fp.Fe) = Go.Fp.fp bxN * Go.Fp.fp bxN + (1 + Go.Fp.fp Go.Fp.dN * (Go.Fp.fp bxN * Go.Fp.fp bxN) * (Go.Fp.fp byN * Go.Fp.fp byN)) := by
    rw [← Go.Fp.fp_one, ← Go.Fp.fp_mul, ← Go.Fp.fp_mul, ← Go.Fp.fp_mul, ← Go.Fp.fp_mul, ← Go.Fp.fp_add, ← Go.Fp.fp_add]
    exact Go.Fp.fp_eq.2 (by decide +kernel)
  grobner⟩
def bxK : List Nat := dig 256 32 bxN
def byK : List Nat := dig 256 32 byN
theorem bxK_num : num 256 bxK = bxN := by decide +kernel
theorem byK_num : num 256 byK = byN := by decide +kernel
theorem base_v : ∃ r, evVal T 25 [] = some (eV r) ∧ RepL r pbase := by
  have h1 := of_v (k := bxK) (dig_len _ _ _) dig32_lt
  have h2 := of_v (k := byK) (dig_len _ _ _) dig32_lt
  have E1 := of_el (V := num 256 bxK % 2 ^ 255)
  have E2 := of_el (V := num 256 byK % 2 ^ 255)
  have f1 : fe (dig (2 ^ 51) 5 (num 256 bxK % 2 ^ 255)) = Go.Fp.fp bxN := by unfold fe; rw [of_v51, bxK_num]; rfl
  have f2 : fe (dig (2 ^ 51) 5 (num 256 byK % 2 ^ 255)) = Go.Fp.fp byN := by unfold fe; rw [of_v51, byK_num]; rfl
  generalize dig (2 ^ 51) 5 (num 256 bxK % 2 ^ 255) = X at *
  generalize dig (2 ^ 51) 5 (num 256 byK % 2 ^ 255) = Y at *
  obtain ⟨t, ht, Et, ft⟩ := mul_ev E1 E2
  have E3 : ∃ O : List Nat, O = [1, 0, 0, 0, 0] := ⟨_, rfl⟩
  obtain ⟨O, hO⟩ := E3
  have E3 : El O (2 ^ 52) := by rw [hO]; exact one_el
  have v1 : evVal T 50 [.int .u32 1] = some (eV O) := by rw [hO]; exact one_v
  have f3 : fe O = 1 := by rw [hO]; exact one_fe
  clear hO
  have hf := fill4 E1 E2 E3 Et
  have p1 := pL_len E1 E2 E3 Et
  refine ⟨pL X Y O t, ?_, X, Y, O, t, rfl, E1, E2, E3, Et, by rw [f3]; exact Go.Fp.one_ne, by rw [f1, f3]; simp only [pbase]; grobner, by rw [f2, f3]; simp only [pbase]; grobner, by rw [ft, f1, f2, f3]; simp only [pbase]; grobner⟩
  have L1 := E1.len
  have L2 := E2.len
  have g1 : fillL (List.replicate 32 (Value.int .u8 0)) [(0, 1, .int .u8 26), (1, 1, .int .u8 213), (2, 1, .int .u8 37), (3, 1, .int .u8 143), (4, 1, .int .u8 96), (5, 1, .int .u8 45), (6, 1, .int .u8 86), (7, 1, .int .u8 201), (8, 1, .int .u8 178), (9, 1, .int .u8 167), (10, 1, .int .u8 37), (11, 1, .int .u8 149), (12, 1, .int .u8 96), (13, 1, .int .u8 199), (14, 1, .int .u8 44), (15, 1, .int .u8 105), (16, 1, .int .u8 92), (17, 1, .int .u8 220), (18, 1, .int .u8 214), (19, 1, .int .u8 253), (20, 1, .int .u8 49), (21, 1, .int .u8 226), (22, 1, .int .u8 164), (23, 1, .int .u8 192), (24, 1, .int .u8 254), (25, 1, .int .u8 83), (26, 1, .int .u8 110), (27, 1, .int .u8 205), (28, 1, .int .u8 211), (29, 1, .int .u8 54), (30, 1, .int .u8 105), (31, 1, .int .u8 33)] = some (u8s bxK) := by
    have : bxK = [26, 213, 37, 143, 96, 45, 86, 201, 178, 167, 37, 149, 96, 199, 44, 105, 92, 220, 214, 253, 49, 226, 164, 192, 254, 83, 110, 205, 211, 54, 105, 33] := by decide +kernel
    rw [this]; rfl
  have g2 : fillL (List.replicate 32 (Value.int .u8 0)) [(0, 1, .int .u8 88), (1, 1, .int .u8 102), (2, 1, .int .u8 102), (3, 1, .int .u8 102), (4, 1, .int .u8 102), (5, 1, .int .u8 102), (6, 1, .int .u8 102), (7, 1, .int .u8 102), (8, 1, .int .u8 102), (9, 1, .int .u8 102), (10, 1, .int .u8 102), (11, 1, .int .u8 102), (12, 1, .int .u8 102), (13, 1, .int .u8 102), (14, 1, .int .u8 102), (15, 1, .int .u8 102), (16, 1, .int .u8 102), (17, 1, .int .u8 102), (18, 1, .int .u8 102), (19, 1, .int .u8 102), (20, 1, .int .u8 102), (21, 1, .int .u8 102), (22, 1, .int .u8 102), (23, 1, .int .u8 102), (24, 1, .int .u8 102), (25, 1, .int .u8 102), (26, 1, .int .u8 102), (27, 1, .int .u8 102), (28, 1, .int .u8 102), (29, 1, .int .u8 102), (30, 1, .int .u8 102), (31, 1, .int .u8 102)] = some (u8s byK) := by
    have : byK = [88, 102, 102, 102, 102, 102, 102, 102, 102, 102, 102, 102, 102, 102, 102, 102, 102, 102, 102, 102, 102, 102, 102, 102, 102, 102, 102, 102, 102, 102, 102, 102] := by decide +kernel
    rw [this]; rfl
  generalize pL X Y O t = Q at *
  apply evVal_ex
  apply Exists.intro
  rw [evFun_fn (fn := a25) rfl]
  simp only [a25, envOf, evCode_skip, evCode_exit, evCode_seq, fs_blockS, fs_blockR, fs_blockC, fs_blockK, fs_blockB, evCode_ret, quiet, keep_nil, keep_cons, fs_cond, fs_region, fs_regionQ, quiet2_eq, lastOf_nil, lastOf_cons, List.take_succ_cons, List.take_zero, List.drop_succ_cons, List.drop_zero, Int.reduceBEq, Int.reduceBNe,  fs_nil, fs_guard, fs_move, fs_pick, fs_alloc, fs_box, fs_load, fs_store, fs_bin, fs_eqv, fs_isNil, fs_un, fs_conv, fs_convStr, fs_field, fs_index, fs_indexStr, fs_build, fs_buildSlice, fs_fieldAddr, fs_indexAddr, fs_indexSl, fs_sliceArr, fs_sliceSl, fs_sliceStr, fs_makeSlice, fs_extract, fs_mkIface, fs_mkFunc, fs_nilCheck, fs_s2ap, fs_len, fs_minmax, fs_s2b, fs_b2s, fs_append, fs_copy, fs_callW, fs_callR, fs_callv, opd_tmp, opd_const, opd_func, opds_nil, opds_cons, opdOpt_none, opdOpt_some, opdParts_nil, opdParts_cons, get_miss, vPick_t, vPick_f, vEq_agg, vEq_aggN, vEq_bool, vEq_boolN, vConv_int, vStr_s, vField_agg, vIndex_agg, vIndexStr_s, vFieldAddr_p, vIndexAddr_p, vIndexSl_s, vSliceArr_p, vSliceSl_s, vSliceSl_n, vSliceStr_s, vExtract_t, vNilCheck_p, vS2ap_s, vLen_s, vLen_str, vMin_i, vMax_i, vLoad_p, vStore_p, baseP_p, vB2s_s, vMake_i, vS2b_s, callee_f, liveAt_eq, storeAt_eq, partL_none, partL_some, natIn_none, natIn_int, bounds3_two, bin_add, bin_sub, bin_mul, bin_quo, bin_rem, bin_and, bin_or, bin_xor, bin_andNot, bin_eql, bin_neq, bin_lss, bin_leq, bin_gtr, bin_geq, bin_shl, bin_shr, bin_sadd, bin_seql, bin_sneq, un_not, un_neg, un_xor, after_some, put_some, put_none, res_nil, res_val, res_var, packed_one, packed_two, merge_nil, merge_ge, rf_tup2, rfIn_int, rfIn_bool, rfIn_u8s, rf_str, rfIn_str, ↓gate_true, gd_bool, gd_ut, gd_uf, ↓guardV_tt, ↓guardV_ff, ↓guardV_tf, ↓guardV_ft, ↓keepV_some, ↓qElse_some, ↓get_hit, ↓Option.bind_some, ↓if_true, ↓if_false, List.nil_append, List.cons_append, List.all_nil, List.all_cons, List.isEmpty_nil, reduceCtorEq, Bool.false_eq_true, Nat.reduceEqDiff, beq_self_eq_true, bne_self_eq_false, Bool.not_true, Bool.not_false, Int.natCast_nonneg, Nat.lt_irrefl, false_and, Int.reduceEq, rf_int, rf_bool, rf_tuple_ints, rf_u8s, arr_list, toList2, Bool.and_self, Nat.not_lt_zero, Nat.sub_zero, Nat.zero_le, Nat.le_add_right, cells_agg, cells_agg_size, cells_int, cells_int_size, okV_int, okV_bool, okV_str, okV_agg, okV_ptr, okV_slice, okV_func, okV_nilFunc, okV_iface, okV_nilIface, cells_bool, cells_bool_size, cells_ptr, cells_ptr_size, cells_slice, cells_slice_size, cells_str, cells_str_size, eq_self, wrapI64_small, Int.natCast_zero, Int.natCast_one, Int.cast_ofNat_Int, List.length_nil, List.length_cons, List.getElem?_cons_zero, List.getElem?_cons_succ, List.set_cons_zero, List.set_cons_succ, Nat.zero_add, Nat.add_zero, Nat.mul_one, Nat.zero_mul, Int.toNat_natCast, Int.toNat_zero, Int.lt_irrefl, Int.le_refl, Nat.le_refl, and_self, true_and, and_true, decide_true, decide_false, Int.reduceLE, Int.reduceLT, Int.reduceAdd, Int.reduceMul, Int.reduceSub, Int.reduceTDiv, Int.reduceTMod, Int.reduceNeg, Int.reduceToNat, Int.reduceGT, Int.reduceGE, Int.reducePow, Nat.reduceAdd, Nat.reduceMul, Nat.reduceSub, Nat.reduceDiv, Nat.reduceMod, Nat.reducePow, Nat.reduceLT, Nat.reduceLeDiff, Nat.min_self, ge_iff_le, gt_iff_lt, Option.isNone_none, Option.isSome_none, Option.isNone_some, Option.isSome_some, Bool.and_true, Bool.true_and, Bool.and_false, Bool.false_and, not_true_eq_false, not_false_eq_true, or_true, true_or, false_or, or_false, hget0, hgetK, hset0, hsetK, splice_single, splice_whole, take_whole, List.getElem?_nil, List.length_append, List.append_assoc, g1, g2, h1, h2, v1, ht, hf, List.length_replicate, take_all, eV_cells, eV_size, eV_ok, eV_fold, ns_len, p1, L1, L2, rf_eV]
  rfl
end Go.Ev.Ytaceeoghjgggjaa
set_option linter.unusedSimpArgs false
set_option linter.unusedVariables false
namespace Go.Ev.Ytaceeoghjgggjaa
open Go Go.Ev
attribute [local congr] bind_congr2 ite_congr2 qElse_congr gate_congr guardV_congr
set_option maxRecDepth 100000
theorem part20 {a b c : List Nat} {n : Nat} (hb : b.length = 20) (ha : a.length = n) : List.take 20 (List.drop n (ns .u64 (a ++ (b ++ c)))) = ns .u64 b := by
  simp only [ns_append]
  rw [List.drop_append_of_le_length (by rw [ns_len]; omega), List.drop_of_length_le (by rw [ns_len]; omega), List.nil_append, List.take_append_of_le_length (by rw [ns_len]; omega), List.take_of_length_le (by rw [ns_len]; omega)]
theorem adds_body {H : List Ob} {l : List Ob} {id n i : Nat} {o x r d : List Nat} {R : Ob} {cs : List Value} {g : List Ob} (hi : i < n) (hn : n < 100) (l1 : x.length = 20) (l2 : o.length = 20) (l4 : d.length = 5) (hm : evVal T 54 [eV o, eV x, eV d] = some (eV r)) (l3 : r.length = 20)
    (hA : ∀ l, (H ++ l)[id]? = some ⟨cs, true, true, true, 1⟩) (hcs : (cs.drop (i * 20)).take 20 = ns .u64 x) (hlen : i * 20 + 20 ≤ cs.length) :
    evCode T H.length a27_l0 ⟨[(2, .pointer (some ⟨H.length, 0, none⟩)), (3, .pointer (some ⟨H.length + 1, 0, none⟩)), (4, .pointer (some ⟨H.length + 2, 0, none⟩)), (9, .slice (some ⟨id, 0, none⟩) n n), (10, .int .i64 n), (11, .int .i64 i)], H ++ (R :: ⟨ns .u64 o, true, true, true, 1⟩ :: ⟨ns .u64 d, true, true, true, 1⟩ :: g), []⟩ =
      some (.normal, ⟨[(2, .pointer (some ⟨H.length, 0, none⟩)), (3, .pointer (some ⟨H.length + 1, 0, none⟩)), (4, .pointer (some ⟨H.length + 2, 0, none⟩)), (9, .slice (some ⟨id, 0, none⟩) n n), (10, .int .i64 n), (11, .int .i64 ((i + 1 : Nat) : Int))], H ++ (R :: ⟨ns .u64 r, true, true, true, 1⟩ :: ⟨ns .u64 d, true, true, true, 1⟩ :: (g ++ [⟨ns .u64 x, true, true, true, 1⟩])), []⟩) := by
  have hz : ∃ Z, List.replicate 20 (Value.int .u64 0) = ns .u64 Z ∧ Z.length = 20 := ⟨List.replicate 20 0, rfl, rfl⟩
  obtain ⟨Z, hz, l0⟩ := hz
  have e1 : ((i : Int) < (n : Int)) = True := eq_true (by omega)
  have w3 : IntKind.i64.wrap ((i : Int) + 1) = ((i + 1 : Nat) : Int) := wrap_nat (n := i + 1) (by omega)
  simp only [a27_l0, envOf, evCode_skip, evCode_exit, evCode_seq, fs_blockS, fs_blockR, fs_blockC, fs_blockK, fs_blockB, evCode_ret, quiet, keep_nil, keep_cons, fs_cond, fs_region, fs_regionP, fs_nil, fs_guard, fs_move, fs_pick, fs_alloc, fs_box, fs_load, fs_store, fs_bin, fs_eqv, fs_isNil, fs_un, fs_conv, fs_convStr, fs_field, fs_index, fs_indexStr, fs_build, fs_buildSlice, fs_fieldAddr, fs_indexAddr, fs_indexSl, fs_sliceArr, fs_sliceSl, fs_sliceStr, fs_makeSlice, fs_extract, fs_mkIface, fs_mkFunc, fs_nilCheck, fs_s2ap, fs_len, fs_minmax, fs_s2b, fs_b2s, fs_append, fs_copy, fs_callW, fs_callR, fs_callv, opd_tmp, opd_const, opd_func, opds_nil, opds_cons, opdOpt_none, opdOpt_some, opdParts_nil, opdParts_cons, get_miss, vPick_t, vPick_f, vEq_agg, vEq_aggN, vEq_bool, vEq_boolN, vConv_int, vStr_s, vField_agg, vIndex_agg, vIndexStr_s, vFieldAddr_p, vIndexAddr_p, vIndexSl_s, vSliceArr_p, vSliceSl_s, vSliceSl_n, vSliceStr_s, vExtract_t, vNilCheck_p, vS2ap_s, vLen_s, vLen_str, vMin_i, vMax_i, vLoad_p, vStore_p, baseP_p, vB2s_s, vMake_i, vS2b_s, callee_f, liveAt_eq, storeAt_eq, partL_none, partL_some, natIn_none, natIn_int, bounds3_two, bin_add, bin_sub, bin_mul, bin_quo, bin_rem, bin_and, bin_or, bin_xor, bin_andNot, bin_eql, bin_neq, bin_lss, bin_leq, bin_gtr, bin_geq, bin_shl, bin_shr, bin_sadd, bin_seql, bin_sneq, un_not, un_neg, un_xor, after_some, put_some, put_none, res_nil, res_val, res_var, packed_one, packed_two, merge_nil, merge_ge, rf_tup2, rfIn_int, rfIn_bool, rfIn_u8s, rf_str, rfIn_str, ↓gate_true, gd_bool, gd_ut, gd_uf, ↓guardV_tt, ↓guardV_ff, ↓guardV_tf, ↓guardV_ft, ↓keepV_some, ↓qElse_some, ↓get_hit, ↓Option.bind_some, ↓if_true, ↓if_false, List.nil_append, List.cons_append, List.all_nil, List.all_cons, List.isEmpty_nil, reduceCtorEq, Bool.false_eq_true, Nat.reduceEqDiff, beq_self_eq_true, bne_self_eq_false, Bool.not_true, Bool.not_false, Int.natCast_nonneg, Nat.lt_irrefl, false_and, Int.reduceEq, rf_int, rf_bool, rf_tuple_ints, rf_u8s, arr_list, toList2, Bool.and_self, Nat.not_lt_zero, Nat.sub_zero, Nat.zero_le, Nat.le_add_right, cells_agg, cells_agg_size, cells_int, cells_int_size, okV_int, okV_bool, okV_str, okV_agg, okV_ptr, okV_slice, okV_func, okV_nilFunc, okV_iface, okV_nilIface, cells_bool, cells_bool_size, cells_ptr, cells_ptr_size, cells_slice, cells_slice_size, cells_str, cells_str_size, eq_self, wrapI64_small, Int.natCast_zero, Int.natCast_one, Int.cast_ofNat_Int, List.length_nil, List.length_cons, List.getElem?_cons_zero, List.getElem?_cons_succ, List.set_cons_zero, List.set_cons_succ, Nat.zero_add, Nat.add_zero, Nat.mul_one, Nat.zero_mul, Int.toNat_natCast, Int.toNat_zero, Int.lt_irrefl, Int.le_refl, Nat.le_refl, and_self, true_and, and_true, decide_true, decide_false, Int.reduceLE, Int.reduceLT, Int.reduceAdd, Int.reduceMul, Int.reduceSub, Int.reduceTDiv, Int.reduceTMod, Int.reduceNeg, Int.reduceToNat, Int.reduceGT, Int.reduceGE, Int.reducePow, Nat.reduceAdd, Nat.reduceMul, Nat.reduceSub, Nat.reduceDiv, Nat.reduceMod, Nat.reducePow, Nat.reduceLT, Nat.reduceLeDiff, Nat.min_self, ge_iff_le, gt_iff_lt, Option.isNone_none, Option.isSome_none, Option.isNone_some, Option.isSome_some, Bool.and_true, Bool.true_and, Bool.and_false, Bool.false_and, not_true_eq_false, not_false_eq_true, or_true, true_or, false_or, or_false, hget0, hgetK, hset0, hsetK, splice_single, splice_whole, take_whole, List.getElem?_nil, List.length_append, List.append_assoc, Nat.add_assoc, hz, hA, hcs, hlen, hm, eV_cells, eV_size, eV_ok, eV_fold, ns_len, l0, l1, l2, l3, l4, rf_eV, e1, w3]
inductive Reps : List (List Nat) → List (Go.Cv.Pt Go.Fp.P Go.Fp.d) → Prop
  | nil : Reps [] []
  | cons {x xs p ps} : RepL x p → Reps xs ps → Reps (x :: xs) (p :: ps)
theorem Reps.len {xs : List (List Nat)} {ps : List (Go.Cv.Pt Go.Fp.P Go.Fp.d)} (h : Reps xs ps) : xs.length = ps.length := by
  induction h with
  | nil => rfl
  | cons _ _ ih => simp [ih]
theorem Reps.all {xs : List (List Nat)} {ps : List (Go.Cv.Pt Go.Fp.P Go.Fp.d)} (h : Reps xs ps) : ∀ x ∈ xs, x.length = 20 := by
  induction h with
  | nil => simp
  | cons h _ ih => intro y hy; rcases List.mem_cons.1 hy with rfl | hy; exact h.len; exact ih y hy
theorem Reps.get {xs : List (List Nat)} {ps : List (Go.Cv.Pt Go.Fp.P Go.Fp.d)} (h : Reps xs ps) : ∀ {i : Nat} {x : List Nat}, xs[i]? = some x → ∃ p, ps[i]? = some p ∧ RepL x p := by
  induction h with
  | nil => intro i x h; simp at h
  | cons h _ ih =>
    intro i x hx
    cases i with
    | zero => simp at hx; subst hx; exact ⟨_, rfl, h⟩
    | succ i => simp at hx; simpa using ih hx
theorem flat20 : ∀ (ys : List (List Nat)), (∀ x ∈ ys, x.length = 20) → ys.flatten.length = ys.length * 20 := by
  intro ys hy
  induction ys with
  | nil => rfl
  | cons y ys ih =>
    rw [List.flatten_cons, List.length_append, ih (fun x hx => hy x (by simp [hx])), (hy y (by simp)), List.length_cons]; omega
theorem adds_ev {H : List Ob} {id n : Nat} {xs : List (List Nat)} {ps : List (Go.Cv.Pt Go.Fp.P Go.Fp.d)} (hn : xs.length = n) (hN : n < 100) (hx : Reps xs ps) (h : H[id]? = some ⟨ns .u64 xs.flatten, true, true, true, 1⟩) :
    ∃ r d, evFun T 27 [.slice (some ⟨id, 0, none⟩) n n] H = some (eV r, H ++ (⟨ns .u64 r, true, true, true, 1⟩ :: ⟨ns .u64 r, true, true, true, 1⟩ :: ⟨ns .u64 d, true, true, true, 1⟩ :: xs.map fun x => (⟨ns .u64 x, true, true, true, 1⟩ : Ob)), []) ∧ RepL r (ps.foldl padd pzero) := by
  have hid : id < H.length := (List.getElem?_eq_some_iff.1 h).1
  have hA : ∀ l, (H ++ l)[id]? = some ⟨ns .u64 xs.flatten, true, true, true, 1⟩ := fun l => by rw [List.getElem?_append_left hid]; exact h
  obtain ⟨d, hd, Ed, fd⟩ := factor_v
  obtain ⟨z, hz, Ez⟩ := zero_v
  have hZ : ∃ Z, List.replicate 20 (Value.int .u64 0) = ns .u64 Z ∧ Z.length = 20 := ⟨List.replicate 20 0, rfl, rfl⟩
  obtain ⟨Z, hZ, l0⟩ := hZ
  obtain ⟨st, hb, r, rfl, hr1⟩ := block_inv (T := T) (base := H.length) (id := 0) (body := a27_l0)
    (fun i st => ∃ r : List Nat, st = ⟨[(2, .pointer (some ⟨H.length, 0, none⟩)), (3, .pointer (some ⟨H.length + 1, 0, none⟩)), (4, .pointer (some ⟨H.length + 2, 0, none⟩)), (9, .slice (some ⟨id, 0, none⟩) n n), (10, .int .i64 n), (11, .int .i64 (i : Nat))], H ++ (⟨ns .u64 Z, true, true, true, 1⟩ :: ⟨ns .u64 r, true, true, true, 1⟩ :: ⟨ns .u64 d, true, true, true, 1⟩ :: ((xs.take i).map fun x => (⟨ns .u64 x, true, true, true, 1⟩ : Ob))), []⟩ ∧ RepL r ((ps.take i).foldl padd pzero))
    (Q := fun st => ∃ r : List Nat, st = ⟨[(2, .pointer (some ⟨H.length, 0, none⟩)), (3, .pointer (some ⟨H.length + 1, 0, none⟩)), (4, .pointer (some ⟨H.length + 2, 0, none⟩)), (9, .slice (some ⟨id, 0, none⟩) n n), (10, .int .i64 n), (11, .int .i64 n), (12, .bool false)], H ++ (⟨ns .u64 Z, true, true, true, 1⟩ :: ⟨ns .u64 r, true, true, true, 1⟩ :: ⟨ns .u64 d, true, true, true, 1⟩ :: (xs.map fun x => (⟨ns .u64 x, true, true, true, 1⟩ : Ob))), []⟩ ∧ RepL r (ps.foldl padd pzero))
    n (s := ⟨[(2, .pointer (some ⟨H.length, 0, none⟩)), (3, .pointer (some ⟨H.length + 1, 0, none⟩)), (4, .pointer (some ⟨H.length + 2, 0, none⟩)), (9, .slice (some ⟨id, 0, none⟩) n n), (10, .int .i64 n), (11, .int .i64 0)], H ++ [⟨ns .u64 Z, true, true, true, 1⟩, ⟨ns .u64 z, true, true, true, 1⟩, ⟨ns .u64 d, true, true, true, 1⟩], []⟩) ⟨z, rfl, Ez⟩
    (fun i st hi hs => by
      obtain ⟨r, rfl, hr1⟩ := hs
      obtain ⟨x, hxi⟩ : ∃ y, xs[i]? = some y := ⟨_, List.getElem?_eq_getElem (by omega)⟩
      obtain ⟨p, hpi, hxe⟩ := hx.get hxi
      obtain ⟨r', hm, g1⟩ := plusL hr1 hxe Ed fd
      have hsplit : xs = xs.take i ++ x :: xs.drop (i + 1) := by
        have h1 := List.getElem?_eq_some_iff.1 hxi
        conv => lhs; rw [← List.take_append_drop i xs, List.drop_eq_getElem_cons h1.1, h1.2]
      have htl : (xs.take i).flatten.length = i * 20 := by
        rw [flat20 _ (fun y hy => hx.all y (List.mem_of_mem_take hy)), List.length_take, Nat.min_eq_left (by omega)]
      have hcs : ((ns .u64 xs.flatten).drop (i * 20)).take 20 = ns .u64 x := by
        conv => lhs; rw [hsplit, List.flatten_append, List.flatten_cons]
        exact part20 hxe.len htl
      have hb := adds_body (R := ⟨ns .u64 Z, true, true, true, 1⟩) (g := (xs.take i).map fun x => (⟨ns .u64 x, true, true, true, 1⟩ : Ob)) (l := []) hi hN hxe.len hr1.len Ed.len hm g1.len hA hcs (by rw [ns_len, flat20 xs hx.all, hn]; omega)
      have htk : xs.take (i + 1) = xs.take i ++ [x] := by rw [List.take_add_one, hxi]; rfl
      have htp : ps.take (i + 1) = ps.take i ++ [p] := by rw [List.take_add_one, hpi]; rfl
      refine ⟨_, hb, r', ?_, ?_⟩
      · rw [htk, List.map_append]; rfl
      · rw [htp, List.foldl_append]; exact g1)
    (fun st hs => by
      obtain ⟨r, rfl, hr1⟩ := hs
      have e1 : ((n : Int) < (n : Int)) = False := eq_false (by omega)
      have ht : xs.take n = xs := List.take_of_length_le (by omega)
      have ht2 : ps.take n = ps := List.take_of_length_le (by have := hx.len; omega)
      rw [ht2] at hr1
      rw [ht]
      refine ⟨_, ?_, r, rfl, hr1⟩
      simp only [a27_l0, envOf, evCode_skip, evCode_exit, evCode_seq, fs_blockS, fs_blockR, fs_blockC, fs_blockK, fs_blockB, evCode_ret, quiet, keep_nil, keep_cons, fs_cond, fs_region, fs_regionP, fs_nil, fs_guard, fs_move, fs_pick, fs_alloc, fs_box, fs_load, fs_store, fs_bin, fs_eqv, fs_isNil, fs_un, fs_conv, fs_convStr, fs_field, fs_index, fs_indexStr, fs_build, fs_buildSlice, fs_fieldAddr, fs_indexAddr, fs_indexSl, fs_sliceArr, fs_sliceSl, fs_sliceStr, fs_makeSlice, fs_extract, fs_mkIface, fs_mkFunc, fs_nilCheck, fs_s2ap, fs_len, fs_minmax, fs_s2b, fs_b2s, fs_append, fs_copy, fs_callW, fs_callR, fs_callv, opd_tmp, opd_const, opd_func, opds_nil, opds_cons, opdOpt_none, opdOpt_some, opdParts_nil, opdParts_cons, get_miss, vPick_t, vPick_f, vEq_agg, vEq_aggN, vEq_bool, vEq_boolN, vConv_int, vStr_s, vField_agg, vIndex_agg, vIndexStr_s, vFieldAddr_p, vIndexAddr_p, vIndexSl_s, vSliceArr_p, vSliceSl_s, vSliceSl_n, vSliceStr_s, vExtract_t, vNilCheck_p, vS2ap_s, vLen_s, vLen_str, vMin_i, vMax_i, vLoad_p, vStore_p, baseP_p, vB2s_s, vMake_i, vS2b_s, callee_f, liveAt_eq, storeAt_eq, partL_none, partL_some, natIn_none, natIn_int, bounds3_two, bin_add, bin_sub, bin_mul, bin_quo, bin_rem, bin_and, bin_or, bin_xor, bin_andNot, bin_eql, bin_neq, bin_lss, bin_leq, bin_gtr, bin_geq, bin_shl, bin_shr, bin_sadd, bin_seql, bin_sneq, un_not, un_neg, un_xor, after_some, put_some, put_none, res_nil, res_val, res_var, packed_one, packed_two, merge_nil, merge_ge, rf_tup2, rfIn_int, rfIn_bool, rfIn_u8s, rf_str, rfIn_str, ↓gate_true, gd_bool, gd_ut, gd_uf, ↓guardV_tt, ↓guardV_ff, ↓guardV_tf, ↓guardV_ft, ↓keepV_some, ↓qElse_some, ↓get_hit, ↓Option.bind_some, ↓if_true, ↓if_false, List.nil_append, List.cons_append, List.all_nil, List.all_cons, List.isEmpty_nil, reduceCtorEq, Bool.false_eq_true, Nat.reduceEqDiff, beq_self_eq_true, bne_self_eq_false, Bool.not_true, Bool.not_false, Int.natCast_nonneg, Nat.lt_irrefl, false_and, Int.reduceEq, rf_int, rf_bool, rf_tuple_ints, rf_u8s, arr_list, toList2, Bool.and_self, Nat.not_lt_zero, Nat.sub_zero, Nat.zero_le, Nat.le_add_right, cells_agg, cells_agg_size, cells_int, cells_int_size, okV_int, okV_bool, okV_str, okV_agg, okV_ptr, okV_slice, okV_func, okV_nilFunc, okV_iface, okV_nilIface, cells_bool, cells_bool_size, cells_ptr, cells_ptr_size, cells_slice, cells_slice_size, cells_str, cells_str_size, eq_self, wrapI64_small, Int.natCast_zero, Int.natCast_one, Int.cast_ofNat_Int, List.length_nil, List.length_cons, List.getElem?_cons_zero, List.getElem?_cons_succ, List.set_cons_zero, List.set_cons_succ, Nat.zero_add, Nat.add_zero, Nat.mul_one, Nat.zero_mul, Int.toNat_natCast, Int.toNat_zero, Int.lt_irrefl, Int.le_refl, Nat.le_refl, and_self, true_and, and_true, decide_true, decide_false, Int.reduceLE, Int.reduceLT, Int.reduceAdd, Int.reduceMul, Int.reduceSub, Int.reduceTDiv, Int.reduceTMod, Int.reduceNeg, Int.reduceToNat, Int.reduceGT, Int.reduceGE, Int.reducePow, Nat.reduceAdd, Nat.reduceMul, Nat.reduceSub, Nat.reduceDiv, Nat.reduceMod, Nat.reducePow, Nat.reduceLT, Nat.reduceLeDiff, Nat.min_self, ge_iff_le, gt_iff_lt, Option.isNone_none, Option.isSome_none, Option.isNone_some, Option.isSome_some, Bool.and_true, Bool.true_and, Bool.and_false, Bool.false_and, not_true_eq_false, not_false_eq_true, or_true, true_or, false_or, or_false, e1])
  refine ⟨r, d, ?_, hr1⟩
  have l1 := hr1.len
  have l2 := Ez.len
  have l3 := Ed.len
  rw [evFun_fn (fn := a27) rfl]
  have hz5 : List.replicate 5 (Value.int .u64 0) = ns .u64 [0, 0, 0, 0, 0] := rfl
  have l5 : ([0, 0, 0, 0, 0] : List Nat).length = 5 := rfl
  simp only [a27, envOf, evCode_skip, evCode_exit, evCode_seq, fs_blockS, fs_blockR, fs_blockC, fs_blockK, fs_blockB, evCode_ret, quiet, keep_nil, keep_cons, fs_cond, fs_region, fs_regionP, fs_nil, fs_guard, fs_move, fs_pick, fs_alloc, fs_box, fs_load, fs_store, fs_bin, fs_eqv, fs_isNil, fs_un, fs_conv, fs_convStr, fs_field, fs_index, fs_indexStr, fs_build, fs_buildSlice, fs_fieldAddr, fs_indexAddr, fs_indexSl, fs_sliceArr, fs_sliceSl, fs_sliceStr, fs_makeSlice, fs_extract, fs_mkIface, fs_mkFunc, fs_nilCheck, fs_s2ap, fs_len, fs_minmax, fs_s2b, fs_b2s, fs_append, fs_copy, fs_callW, fs_callR, fs_callv, opd_tmp, opd_const, opd_func, opds_nil, opds_cons, opdOpt_none, opdOpt_some, opdParts_nil, opdParts_cons, get_miss, vPick_t, vPick_f, vEq_agg, vEq_aggN, vEq_bool, vEq_boolN, vConv_int, vStr_s, vField_agg, vIndex_agg, vIndexStr_s, vFieldAddr_p, vIndexAddr_p, vIndexSl_s, vSliceArr_p, vSliceSl_s, vSliceSl_n, vSliceStr_s, vExtract_t, vNilCheck_p, vS2ap_s, vLen_s, vLen_str, vMin_i, vMax_i, vLoad_p, vStore_p, baseP_p, vB2s_s, vMake_i, vS2b_s, callee_f, liveAt_eq, storeAt_eq, partL_none, partL_some, natIn_none, natIn_int, bounds3_two, bin_add, bin_sub, bin_mul, bin_quo, bin_rem, bin_and, bin_or, bin_xor, bin_andNot, bin_eql, bin_neq, bin_lss, bin_leq, bin_gtr, bin_geq, bin_shl, bin_shr, bin_sadd, bin_seql, bin_sneq, un_not, un_neg, un_xor, after_some, put_some, put_none, res_nil, res_val, res_var, packed_one, packed_two, merge_nil, merge_ge, rf_tup2, rfIn_int, rfIn_bool, rfIn_u8s, rf_str, rfIn_str, ↓gate_true, gd_bool, gd_ut, gd_uf, ↓guardV_tt, ↓guardV_ff, ↓guardV_tf, ↓guardV_ft, ↓keepV_some, ↓qElse_some, ↓get_hit, ↓Option.bind_some, ↓if_true, ↓if_false, List.nil_append, List.cons_append, List.all_nil, List.all_cons, List.isEmpty_nil, reduceCtorEq, Bool.false_eq_true, Nat.reduceEqDiff, beq_self_eq_true, bne_self_eq_false, Bool.not_true, Bool.not_false, Int.natCast_nonneg, Nat.lt_irrefl, false_and, Int.reduceEq, rf_int, rf_bool, rf_tuple_ints, rf_u8s, arr_list, toList2, Bool.and_self, Nat.not_lt_zero, Nat.sub_zero, Nat.zero_le, Nat.le_add_right, cells_agg, cells_agg_size, cells_int, cells_int_size, okV_int, okV_bool, okV_str, okV_agg, okV_ptr, okV_slice, okV_func, okV_nilFunc, okV_iface, okV_nilIface, cells_bool, cells_bool_size, cells_ptr, cells_ptr_size, cells_slice, cells_slice_size, cells_str, cells_str_size, eq_self, wrapI64_small, Int.natCast_zero, Int.natCast_one, Int.cast_ofNat_Int, List.length_nil, List.length_cons, List.getElem?_cons_zero, List.getElem?_cons_succ, List.set_cons_zero, List.set_cons_succ, Nat.zero_add, Nat.add_zero, Nat.mul_one, Nat.zero_mul, Int.toNat_natCast, Int.toNat_zero, Int.lt_irrefl, Int.le_refl, Nat.le_refl, and_self, true_and, and_true, decide_true, decide_false, Int.reduceLE, Int.reduceLT, Int.reduceAdd, Int.reduceMul, Int.reduceSub, Int.reduceTDiv, Int.reduceTMod, Int.reduceNeg, Int.reduceToNat, Int.reduceGT, Int.reduceGE, Int.reducePow, Nat.reduceAdd, Nat.reduceMul, Nat.reduceSub, Nat.reduceDiv, Nat.reduceMod, Nat.reducePow, Nat.reduceLT, Nat.reduceLeDiff, Nat.min_self, ge_iff_le, gt_iff_lt, Option.isNone_none, Option.isSome_none, Option.isNone_some, Option.isSome_some, Bool.and_true, Bool.true_and, Bool.and_false, Bool.false_and, not_true_eq_false, not_false_eq_true, or_true, true_or, false_or, or_false, hget0, hgetK, hset0, hsetK, splice_single, splice_whole, take_whole, List.getElem?_nil, List.length_append, List.append_assoc, Nat.add_assoc, hZ, hz5, l5, hd, hz, hb, eV_cells, eV_size, eV_ok, eV_fold, ns_len, l0, l1, l2, l3, rf_eV]
theorem fold2 {p q : Go.Cv.Pt Go.Fp.P Go.Fp.d} : [p, q].foldl padd pzero = padd p q := by
  show padd (padd pzero p) q = _
  rw [show padd pzero p = p from Go.Cv.zero_add Go.Fp.fld p]
end Go.Ev.Ytaceeoghjgggjaa
set_option linter.unusedSimpArgs false
set_option linter.unusedVariables false
namespace Go.Ev.Ytaceeoghjgggjaa
open Go Go.Ev
attribute [local congr] bind_congr2 ite_congr2 qElse_congr gate_congr guardV_congr
set_option maxRecDepth 100000
structure Jac where
  x : Nat
  y : Nat
  z : Nat
  t : Nat
structure JRep (a : Jac) (p : Go.Cv.Pt Go.Fp.P Go.Fp.d) : Prop where
  nz : Go.Fp.fp a.z ≠ 0
  x : Go.Fp.fp a.x = p.x * Go.Fp.fp a.z
  y : Go.Fp.fp a.y = p.y * Go.Fp.fp a.z
  t : Go.Fp.fp a.t = p.x * p.y * Go.Fp.fp a.z
def nsub (a b : Nat) : Nat := a + (Go.Fp.P - b % Go.Fp.P)
theorem fp_nsub (a b : Nat) : Go.Fp.fp (nsub a b) = Go.Fp.fp a - Go.Fp.fp b := by
  unfold nsub
  have h : b % Go.Fp.P ≤ Go.Fp.P := Nat.le_of_lt (Nat.mod_lt _ (by rw [Go.Fp.P_eq]; decide))
  rw [Go.Fp.fp_add, Go.Fp.fp_sub h, Go.Fp.fp_P, Go.Fp.fp_mod]
  grobner
def jaddA (a b : Jac) : Nat := nsub a.y a.x * nsub b.y b.x % Go.Fp.P
def jaddB (a b : Jac) : Nat := (a.y + a.x) * (b.y + b.x) % Go.Fp.P
def jaddC (a b : Jac) : Nat := 1 * 2 * Go.Fp.dN * a.t * b.t % Go.Fp.P
def jaddD (a b : Jac) : Nat := 1 * 2 * a.z * b.z % Go.Fp.P
def jfin (a b c e : Nat) : Jac := ⟨nsub b a * nsub e c % Go.Fp.P, (e + c) * (b + a) % Go.Fp.P, nsub e c * (e + c) % Go.Fp.P, nsub b a * (b + a) % Go.Fp.P⟩
def jadd (a b : Jac) : Jac := jfin (jaddA a b) (jaddB a b) (jaddC a b) (jaddD a b)
theorem JRep.add {a b : Jac} {p q : Go.Cv.Pt Go.Fp.P Go.Fp.d} (h1 : JRep a p) (h2 : JRep b q) : JRep (jadd a b) (padd p q) := by
  have ha : Go.Fp.fp (jaddA a b) = (Go.Fp.fp a.y - Go.Fp.fp a.x) * (Go.Fp.fp b.y - Go.Fp.fp b.x) := by
    unfold jaddA; rw [Go.Fp.fp_mod, Go.Fp.fp_mul, fp_nsub, fp_nsub]
  have hb : Go.Fp.fp (jaddB a b) = (Go.Fp.fp a.y + Go.Fp.fp a.x) * (Go.Fp.fp b.y + Go.Fp.fp b.x) := by
    unfold jaddB; rw [Go.Fp.fp_mod, Go.Fp.fp_mul, Go.Fp.fp_add, Go.Fp.fp_add]
  have hc : Go.Fp.fp (jaddC a b) = 1 * 2 * Go.Fp.d * Go.Fp.fp a.t * Go.Fp.fp b.t := by
    unfold jaddC; rw [Go.Fp.fp_mod, Go.Fp.fp_mul, Go.Fp.fp_mul, Go.Fp.fp_mul, Go.Fp.fp_mul, Go.Fp.fp_one, Go.Fp.fp_two]; rfl
  have hd : Go.Fp.fp (jaddD a b) = 1 * 2 * Go.Fp.fp a.z * Go.Fp.fp b.z := by
    unfold jaddD; rw [Go.Fp.fp_mod, Go.Fp.fp_mul, Go.Fp.fp_mul, Go.Fp.fp_mul, Go.Fp.fp_one, Go.Fp.fp_two]
  have hx : Go.Fp.fp (jadd a b).x = (Go.Fp.fp (jaddB a b) - Go.Fp.fp (jaddA a b)) * (Go.Fp.fp (jaddD a b) - Go.Fp.fp (jaddC a b)) := by
    show Go.Fp.fp (_ % _) = _; rw [Go.Fp.fp_mod, Go.Fp.fp_mul, fp_nsub, fp_nsub]
  have hy : Go.Fp.fp (jadd a b).y = (Go.Fp.fp (jaddD a b) + Go.Fp.fp (jaddC a b)) * (Go.Fp.fp (jaddB a b) + Go.Fp.fp (jaddA a b)) := by
    show Go.Fp.fp (_ % _) = _; rw [Go.Fp.fp_mod, Go.Fp.fp_mul, Go.Fp.fp_add, Go.Fp.fp_add]
  have hz : Go.Fp.fp (jadd a b).z = (Go.Fp.fp (jaddD a b) - Go.Fp.fp (jaddC a b)) * (Go.Fp.fp (jaddD a b) + Go.Fp.fp (jaddC a b)) := by
    show Go.Fp.fp (_ % _) = _; rw [Go.Fp.fp_mod, Go.Fp.fp_mul, Go.Fp.fp_add, fp_nsub]
  have ht : Go.Fp.fp (jadd a b).t = (Go.Fp.fp (jaddB a b) - Go.Fp.fp (jaddA a b)) * (Go.Fp.fp (jaddB a b) + Go.Fp.fp (jaddA a b)) := by
    show Go.Fp.fp (_ % _) = _; rw [Go.Fp.fp_mod, Go.Fp.fp_mul, Go.Fp.fp_add, fp_nsub]
  obtain ⟨g1, g2, g3, g4⟩ := plus_math h1.x h1.y h1.t h2.x h2.y h2.t ha hb hc hd hx hy hz ht (Go.Cv.add_x Go.Fp.fld p q) (Go.Cv.add_y Go.Fp.fld p q)
  refine ⟨?_, g1, g2, g3⟩
  rw [g4]
  have F := Go.Fp.fld
  have w := F.mul_ne (F.mul_ne F.two h1.nz) h2.nz
  exact F.mul_ne (F.mul_ne w w) (F.mul_ne (F.denM p.on q.on) (F.denP p.on q.on))
def jmul (p : Jac) : Nat → Nat → Jac
  | 0, _ => ⟨0, 1, 1, 0⟩
  | f + 1, k => (fun r => if k % 2 = 1 then jadd (jadd r r) p else jadd r r) (jmul p f (k / 2))
theorem JRep.mul {a : Jac} {p : Go.Cv.Pt Go.Fp.P Go.Fp.d} (h : JRep a p) : ∀ {f k : Nat}, k < 2 ^ f → JRep (jmul a f k) (pmul k p)
  | 0, k, hk => by
    have : k = 0 := by omega
    subst this
    exact ⟨Go.Fp.one_ne, by show (0 : Go.Fp.Fe) = 0 * 1; grobner, by show (1 : Go.Fp.Fe) = 1 * 1; grobner, by show (0 : Go.Fp.Fe) = 0 * 1 * 1; grobner⟩
  | f + 1, k, hk => by
    have ih := JRep.mul h (f := f) (k := k / 2) (by omega)
    have hb := Nat.mod_lt k (by decide : 0 < 2)
    have e : pmul k p = pmul (2 * (k / 2) + k % 2) p := by rw [Nat.div_add_mod]
    rw [e, pmul_step p (k / 2) (k % 2) hb]
    simp only [jmul]
    split
    · exact (ih.add ih).add h
    · exact ih.add ih
def jbase : Jac := ⟨bxN, byN, 1, bxN * byN % Go.Fp.P⟩
theorem jbase_rep : JRep jbase pbase := by
  have h1 : Go.Fp.fp 1 = (1 : Go.Fp.Fe) := rfl
  refine ⟨Go.Fp.one_ne, ?_, ?_, ?_⟩
  · show Go.Fp.fp bxN = Go.Fp.fp bxN * Go.Fp.fp 1; rw [h1]; grobner
  · show Go.Fp.fp byN = Go.Fp.fp byN * Go.Fp.fp 1; rw [h1]; grobner
  · show Go.Fp.fp (bxN * byN % Go.Fp.P) = Go.Fp.fp bxN * Go.Fp.fp byN * Go.Fp.fp 1; rw [h1, Go.Fp.fp_mod, Go.Fp.fp_mul]; grobner
theorem eight_base : pmul 8 pbase ≠ pzero := fun h => by
  have r := jbase_rep.mul (f := 4) (k := 8) (by decide)
  rw [h] at r
  have hx := r.x
  rw [show (pzero : Go.Cv.Pt Go.Fp.P Go.Fp.d).x = 0 from rfl] at hx
  have h0 : Go.Fp.fp (jmul jbase 4 8).x = Go.Fp.fp 0 := by rw [hx]; show _ = (0 : Go.Fp.Fe); grobner
  have h1 := Go.Fp.fp_eq.1 h0
  have h2 : (jmul jbase 4 8).x % Go.Fp.P ≠ 0 % Go.Fp.P := by decide +kernel
  exact h2 h1
theorem jac_zero {a : Jac} {q : Go.Cv.Pt Go.Fp.P Go.Fp.d} (r : JRep a q) (c1 : a.x % Go.Fp.P = 0 % Go.Fp.P) (c2 : a.y % Go.Fp.P = a.z % Go.Fp.P) : q = pzero := by
  have d1 := Go.Fp.fp_eq.2 c1
  have d2 := Go.Fp.fp_eq.2 c2
  have F := Go.Fp.fld
  have hx := r.x
  have hy := r.y
  have hz := r.nz
  rw [d1] at hx
  rw [d2] at hy
  generalize Go.Fp.fp a.z = z at *
  apply Go.Cv.Pt.ext
  · show _ = (0 : Go.Fp.Fe)
    have h0 : Go.Fp.fp 0 = (0 : Go.Fp.Fe) := rfl
    rw [h0] at hx
    refine F.cancel hz ?_
    generalize q.x = w at *
    clear r hy d1 d2
    grobner
  · show _ = (1 : Go.Fp.Fe)
    refine F.cancel hz ?_
    generalize q.y = w at *
    clear r hx d1 d2
    grobner
def ellTest (a : Jac) : Bool := Nat.beq (a.x % Go.Fp.P) 0 && Nat.beq (a.y % Go.Fp.P) (a.z % Go.Fp.P)
theorem ell_test : ellTest (jmul jbase 253 ell) = true := by decide +kernel
theorem ell_base : pmul ell pbase = pzero := by
  have h := ell_test
  simp only [ellTest, Bool.and_eq_true] at h
  exact jac_zero (jbase_rep.mul (f := 253) (k := ell) (by decide +kernel)) (Nat.eq_of_beq_eq_true h.1) (Nat.eq_of_beq_eq_true h.2)
end Go.Ev.Ytaceeoghjgggjaa
set_option linter.unusedSimpArgs false
set_option linter.unusedVariables false
namespace Go.Ev.Ytaceeoghjgggjaa
open Go Go.Ev
attribute [local congr] bind_congr2 ite_congr2 qElse_congr gate_congr guardV_congr
set_option maxRecDepth 100000
theorem guardW_tt {α : Type} {x y : Option α} : guardV (.bool true) true x y = x := Eq.trans rfl rfl
theorem guardW_ff {α : Type} {x y : Option α} : guardV (.bool false) false x y = x := Eq.trans rfl rfl
theorem guardW_tf {α : Type} {x y : Option α} : guardV (.bool true) false x y = y := Eq.trans rfl rfl
theorem guardW_ft {α : Type} {x y : Option α} : guardV (.bool false) true x y = y := Eq.trans rfl rfl
theorem keepW_some {t : Nat} {v : Value} {l : Env} : keepV t (some v) l = (t, v) :: l := Eq.trans rfl rfl
theorem qElseW_some {α : Type} {v : α} {y : Option α} : qElse (some v) y = some v := Eq.trans rfl rfl
theorem steps_app {T : Tab} {b : Nat} {q : Bool} : ∀ (o1 o2 : List AOper) (s : St), steps T b q (o1 ++ o2) s = (steps T b q o1 s).bind (steps T b q o2)
  | [], o2, s => rfl
  | o :: o1, o2, s => by
    rw [List.cons_append]
    unfold steps
    cases hg : guardOf s.env o.guard with
    | none => rfl
    | some g =>
      cases g with
      | true =>
        simp only
        cases hx : evOper T o.op s.env s.h with
        | none => rfl
        | some x =>
          simp only [Option.bind_some]
          split
          · rfl
          · exact steps_app o1 o2 _
      | false => exact steps_app o1 o2 _
theorem steps_chunk {T : Tab} {b : Nat} {q : Bool} {a1 a2 a3 a4 a5 a6 a7 : AOper} {r : List AOper} {s : St} : steps T b q (a1 :: a2 :: a3 :: a4 :: a5 :: a6 :: a7 :: r) s = (steps T b q [a1, a2, a3, a4, a5, a6] s).bind fun s' => steps T b q (a7 :: r) s' := by
  rw [← steps_app]; rfl
def encB : List Nat := [88, 102, 102, 102, 102, 102, 102, 102, 102, 102, 102, 102, 102, 102, 102, 102, 102, 102, 102, 102, 102, 102, 102, 102, 102, 102, 102, 102, 102, 102, 102, 102]
def encZ : List Nat := [1, 0, 0, 0, 0, 0, 0, 0, 0, 0, 0, 0, 0, 0, 0, 0, 0, 0, 0, 0, 0, 0, 0, 0, 0, 0, 0, 0, 0, 0, 0, 0]
theorem enc_base : enc pbase = encB := by decide +kernel
theorem enc_zero : enc pzero = encZ := by decide +kernel
theorem tiny_no {p : Go.Cv.Pt Go.Fp.P Go.Fp.d} {l : List Nat} (h : RepL l p) (hp : pmul 8 p ≠ pzero) : evVal T 39 [eV l] = some (.bool false) := by
  have := tiny_v h
  rw [decide_eq_false hp] at this
  exact this
theorem tiny_yes {p : Go.Cv.Pt Go.Fp.P Go.Fp.d} {l : List Nat} (h : RepL l p) (hp : pmul 8 p = pzero) : evVal T 39 [eV l] = some (.bool true) := by
  have := tiny_v h
  rw [decide_eq_true hp] at this
  exact this
theorem enc_of {p : Go.Cv.Pt Go.Fp.P Go.Fp.d} {l E : List Nat} (h : RepL l p) (hp : enc p = E) : evVal T 29 [eV l] = some (.agg (u8s E).toArray) := by
  have := encode_v h
  rw [hp] at this
  exact this
theorem base_facts : ∃ b, evVal T 25 [] = some (eV b) ∧ b.length = 20 ∧ evVal T 29 [eV b] = some (.agg (u8s encB).toArray) ∧ evVal T 39 [eV b] = some (.bool false) := by
  obtain ⟨b, hb, rb⟩ := base_v
  exact ⟨b, hb, rb.len, enc_of rb enc_base, tiny_no rb eight_base⟩
theorem zero_facts : ∃ b, evVal T 30 [] = some (eV b) ∧ b.length = 20 ∧ evVal T 29 [eV b] = some (.agg (u8s encZ).toArray) ∧ evVal T 39 [eV b] = some (.bool true) := by
  obtain ⟨b, hb, rb⟩ := zero_v
  exact ⟨b, hb, rb.len, enc_of rb enc_zero, tiny_yes rb (Go.Cv.mul_zero Go.Fp.fld 8)⟩
theorem bl1 : encB.length = 32 := rfl
theorem bl2 : encZ.length = 32 := rfl
theorem bz32 : List.replicate 32 (Value.int .u8 0) = u8s (dig 256 32 0) := rfl
theorem bl3 : (dig 256 32 0).length = 32 := rfl
theorem bg0 : (u8s encB)[0]? = some (.int .u8 88) := rfl
theorem bg1 : (u8s encB)[1]? = some (.int .u8 102) := rfl
theorem bg2 : (u8s encB)[31]? = some (.int .u8 102) := rfl
theorem bf1 : fillL (u8s (dig 256 32 0)) [(0, 1, .int .u8 1)] = some (u8s encZ) := rfl
theorem bq : (encZ == encZ) = true := by decide
theorem based_w {U : Tab} (hU : U.fn 24 = some a24) {b z B Z O : List Nat} {c0 c1 c2 : Int} (h0 : (c0 == 88) = true) (h1 : (c1 == 102) = true) (h2 : (c2 == 102) = true) (hb : evVal U 25 [] = some (eV b)) (p1 : b.length = 20) (e1 : evVal U 29 [eV b] = some (.agg (u8s B).toArray)) (t1 : evVal U 39 [eV b] = some (.bool false))
    (hz : evVal U 30 [] = some (eV z)) (p2 : z.length = 20) (e2 : evVal U 29 [eV z] = some (.agg (u8s Z).toArray)) (t2 : evVal U 39 [eV z] = some (.bool true)) (l1 : B.length = 32) (l2 : Z.length = 32) (l3 : O.length = 32)
    (g0 : (u8s B)[0]? = some (.int .u8 c0)) (g1 : (u8s B)[1]? = some (.int .u8 c1)) (g2 : (u8s B)[31]? = some (.int .u8 c2)) (hz32 : List.replicate 32 (Value.int .u8 0) = u8s O) (f1 : fillL (u8s O) [(0, 1, .int .u8 1)] = some (u8s Z)) (q : (Z == Z) = true) : evVal U 24 [] = some (.bool true) := by
  apply evVal_ex
  apply Exists.intro
  rw [evFun_fn hU]
  simp only [a24, ↓steps_chunk, envOf, evCode_skip, evCode_exit, evCode_seq, fs_blockS, fs_blockR, fs_blockC, fs_blockK, fs_blockB, evCode_ret, quiet, keep_nil, keep_cons, fs_cond, fs_region, fs_regionQ, quiet2_eq, lastOf_nil, lastOf_cons, List.take_succ_cons, List.take_zero, List.drop_succ_cons, List.drop_zero, Int.reduceBEq, Int.reduceBNe,  fs_nil, fs_guard, fs_move, fs_pick, fs_alloc, fs_box, fs_load, fs_store, fs_bin, fs_eqv, fs_isNil, fs_un, fs_conv, fs_convStr, fs_field, fs_index, fs_indexStr, fs_build, fs_buildSlice, fs_fieldAddr, fs_indexAddr, fs_indexSl, fs_sliceArr, fs_sliceSl, fs_sliceStr, fs_makeSlice, fs_extract, fs_mkIface, fs_mkFunc, fs_nilCheck, fs_s2ap, fs_len, fs_minmax, fs_s2b, fs_b2s, fs_append, fs_copy, fs_callW, fs_callR, fs_callv, opd_tmp, opd_const, opd_func, opds_nil, opds_cons, opdOpt_none, opdOpt_some, opdParts_nil, opdParts_cons, get_miss, vPick_t, vPick_f, vEq_agg, vEq_aggN, vEq_bool, vEq_boolN, vConv_int, vStr_s, vField_agg, vIndex_agg, vIndexStr_s, vFieldAddr_p, vIndexAddr_p, vIndexSl_s, vSliceArr_p, vSliceSl_s, vSliceSl_n, vSliceStr_s, vExtract_t, vNilCheck_p, vS2ap_s, vLen_s, vLen_str, vMin_i, vMax_i, vLoad_p, vStore_p, baseP_p, vB2s_s, vMake_i, vS2b_s, callee_f, liveAt_eq, storeAt_eq, partL_none, partL_some, natIn_none, natIn_int, bounds3_two, bin_add, bin_sub, bin_mul, bin_quo, bin_rem, bin_and, bin_or, bin_xor, bin_andNot, bin_eql, bin_neq, bin_lss, bin_leq, bin_gtr, bin_geq, bin_shl, bin_shr, bin_sadd, bin_seql, bin_sneq, un_not, un_neg, un_xor, after_some, put_some, put_none, res_nil, res_val, res_var, packed_one, packed_two, merge_nil, merge_ge, rf_tup2, rfIn_int, rfIn_bool, rfIn_u8s, rf_str, rfIn_str, ↓gate_true, gd_bool, gd_ut, gd_uf, ↓guardW_tt, ↓guardW_ff, ↓guardW_tf, ↓guardW_ft, ↓keepW_some, ↓qElseW_some, ↓get_hit, ↓Option.bind_some, ↓if_true, ↓if_false, List.nil_append, List.cons_append, List.all_nil, List.all_cons, List.isEmpty_nil, reduceCtorEq, Bool.false_eq_true, Nat.reduceEqDiff, beq_self_eq_true, bne_self_eq_false, Bool.not_true, Bool.not_false, Int.natCast_nonneg, Nat.lt_irrefl, false_and, Int.reduceEq, rf_int, rf_bool, rf_tuple_ints, rf_u8s, arr_list, toList2, Bool.and_self, Nat.not_lt_zero, Nat.sub_zero, Nat.zero_le, Nat.le_add_right, cells_agg, cells_agg_size, cells_int, cells_int_size, okV_int, okV_bool, okV_str, okV_agg, okV_ptr, okV_slice, okV_func, okV_nilFunc, okV_iface, okV_nilIface, cells_bool, cells_bool_size, cells_ptr, cells_ptr_size, cells_slice, cells_slice_size, cells_str, cells_str_size, eq_self, wrapI64_small, Int.natCast_zero, Int.natCast_one, Int.cast_ofNat_Int, List.length_nil, List.length_cons, List.getElem?_cons_zero, List.getElem?_cons_succ, List.set_cons_zero, List.set_cons_succ, Nat.zero_add, Nat.add_zero, Nat.mul_one, Nat.zero_mul, Int.toNat_natCast, Int.toNat_zero, Int.lt_irrefl, Int.le_refl, Nat.le_refl, and_self, true_and, and_true, decide_true, decide_false, Int.reduceLE, Int.reduceLT, Int.reduceAdd, Int.reduceMul, Int.reduceSub, Int.reduceTDiv, Int.reduceTMod, Int.reduceNeg, Int.reduceToNat, Int.reduceGT, Int.reduceGE, Int.reducePow, Nat.reduceAdd, Nat.reduceMul, Nat.reduceSub, Nat.reduceDiv, Nat.reduceMod, Nat.reducePow, Nat.reduceLT, Nat.reduceLeDiff, Nat.min_self, ge_iff_le, gt_iff_lt, Option.isNone_none, Option.isSome_none, Option.isNone_some, Option.isSome_some, Bool.and_true, Bool.true_and, Bool.and_false, Bool.false_and, not_true_eq_false, not_false_eq_true, or_true, true_or, false_or, or_false, hget0, hgetK, hset0, hsetK, splice_single, splice_whole, take_whole, List.getElem?_nil, List.length_append, List.append_assoc, hz32, hb, hz, e1, e2, t1, t2, g0, g1, g2, h0, h1, h2, f1, q, cellsEq_u8, List.length_replicate, take_all, eV_cells, eV_size, eV_ok, eV_fold, ns_len, u8s_len, l1, l2, l3, p1, p2, rf_eV]
  rfl
theorem based_v : evVal T 24 [] = some (.bool true) := by
  obtain ⟨b, hb, p1, e1, t1⟩ := base_facts
  obtain ⟨z, hz, p2, e2, t2⟩ := zero_facts
  exact based_w (U := T) rfl (by decide) (by decide) (by decide) hb p1 e1 t1 hz p2 e2 t2 bl1 bl2 bl3 bg0 bg1 bg2 bz32 bf1 bq
end Go.Ev.Ytaceeoghjgggjaa
set_option linter.unusedSimpArgs false
set_option linter.unusedVariables false
namespace Go.Ev.Ytaceeoghjgggjaa
open Go Go.Ev
attribute [local congr] bind_congr2 ite_congr2 qElse_congr gate_congr guardV_congr
set_option maxRecDepth 100000
theorem fill40 {a b : List Nat} {p q : Go.Cv.Pt Go.Fp.P Go.Fp.d} (ha : RepL a p) (hb : RepL b q) : fillL (List.replicate 40 (Value.int .u64 0)) [(0, 20, eV a), (20, 20, eV b)] = some (ns .u64 [a, b].flatten) := by
  obtain ⟨x1, y1, z1, t1, rfl, h1⟩ := ha
  obtain ⟨x2, y2, z2, t2, rfl, h2⟩ := hb
  obtain ⟨a0, a1, a2, a3, a4, rfl, -⟩ := h1.ex.five
  obtain ⟨b0, b1, b2, b3, b4, rfl, -⟩ := h1.ey.five
  obtain ⟨c0, c1, c2, c3, c4, rfl, -⟩ := h1.ez.five
  obtain ⟨d0, d1, d2, d3, d4, rfl, -⟩ := h1.et.five
  obtain ⟨e0, e1, e2, e3, e4, rfl, -⟩ := h2.ex.five
  obtain ⟨f0, f1, f2, f3, f4, rfl, -⟩ := h2.ey.five
  obtain ⟨g0, g1, g2, g3, g4, rfl, -⟩ := h2.ez.five
  obtain ⟨i0, i1, i2, i3, i4, rfl, -⟩ := h2.et.five
  rfl
theorem equal_yes {l m : List Nat} {p q : Go.Cv.Pt Go.Fp.P Go.Fp.d} (h1 : RepL l p) (h2 : RepL m q) (h : p = q) : evVal T 28 [eV l, eV m] = some (.bool true) := by
  rw [equal_v h1 h2, decide_eq_true h]
def keyOf (m : Nat) : List Nat := m :: List.replicate 31 0
theorem keyOf_len (m : Nat) : (keyOf m).length = 32 := rfl
theorem keyOf_lt {m : Nat} (hm : m < 256) : ∀ x ∈ keyOf m, x < 256 := by
  intro x hx
  rcases List.mem_cons.1 hx with rfl | hx
  · exact hm
  · rw [List.eq_of_mem_replicate hx]; decide
theorem keyOf_num (m : Nat) : num 256 (keyOf m) = m := by
  have : num 256 (List.replicate 31 0) = 0 := by decide +kernel
  show m + 256 * num 256 (List.replicate 31 0) = m
  rw [this]; omega
end Go.Ev.Ytaceeoghjgggjaa
set_option linter.unusedSimpArgs false
set_option linter.unusedVariables false
namespace Go.Ev.Ytaceeoghjgggjaa
open Go Go.Ev
attribute [local congr] bind_congr2 ite_congr2 qElse_congr gate_congr guardV_congr
set_option maxRecDepth 100000
theorem pmul_add (a b : Nat) (p : Go.Cv.Pt Go.Fp.P Go.Fp.d) : pmul (a + b) p = padd (pmul a p) (pmul b p) := Go.Cv.mul_add Go.Fp.fld a b p
theorem pmul_mul (a b : Nat) (p : Go.Cv.Pt Go.Fp.P Go.Fp.d) : pmul (a * b) p = pmul a (pmul b p) := Go.Cv.mul_mul Go.Fp.fld a b p
theorem pmul_mod {l : Nat} {p : Go.Cv.Pt Go.Fp.P Go.Fp.d} (hl : pmul l p = pzero) (k : Nat) : pmul (k % l) p = pmul k p := Go.Cv.mul_mod Go.Fp.fld hl k
theorem pmul_zero (k : Nat) : pmul k pzero = pzero := Go.Cv.mul_zero Go.Fp.fld k
theorem pmul_swap (a b : Nat) (p : Go.Cv.Pt Go.Fp.P Go.Fp.d) : pmul a (pmul b p) = pmul b (pmul a p) := Go.Cv.mul_swap Go.Fp.fld a b p
end Go.Ev.Ytaceeoghjgggjaa
set_option linter.unusedSimpArgs false
set_option linter.unusedVariables false
namespace Go.Ev.Ytaceeoghjgggjaa
open Go Go.Ev
attribute [local congr] bind_congr2 ite_congr2 qElse_congr gate_congr guardV_congr
set_option maxRecDepth 100000
def mA (x y z : List Nat) : List Nat := dig 256 32 ((num 256 x * num 256 y + num 256 z) % ell)
theorem mA_len {x y z : List Nat} : (mA x y z).length = 32 := dig_len _ _ _
theorem mA_lt {x y z : List Nat} : ∀ t ∈ mA x y z, t < 256 := fun _ h => dig_lt (by decide) h
theorem ell_le : ell ≤ 256 ^ 32 := by decide
theorem num_dig_ell (v : Nat) : num 256 (dig 256 32 (v % ell)) = v % ell := by
  rw [num_dig (by decide), Nat.mod_eq_of_lt (Nat.lt_of_lt_of_le (Nat.mod_lt _ ell_pos) ell_le)]
theorem num_mA (x y z : List Nat) : num 256 (mA x y z) = (num 256 x * num 256 y + num 256 z) % ell := num_dig_ell _
theorem mulAdd_mA {a b c : List Nat} (la : a.length = 32) (lb : b.length = 32) (lc : c.length = 32) (xa : ∀ x ∈ a, x < 256) (xb : ∀ x ∈ b, x < 256) (xc : ∀ x ∈ c, x < 256) :
    ∃ l, evFun T 19 [.agg (u8s a).toArray, .agg (u8s b).toArray, .agg (u8s c).toArray] [] = some (.agg (u8s (mA a b c)).toArray, l, []) := mulAdd_ev la lb lc xa xb xc
end Go.Ev.Ytaceeoghjgggjaa
set_option linter.unusedSimpArgs false
set_option linter.unusedVariables false
namespace Go.Ev.Ytaceeoghjgggjaa
open Go Go.Ev
attribute [local congr] bind_congr2 ite_congr2 qElse_congr gate_congr guardV_congr
set_option maxRecDepth 100000
def ord16 : List Nat := [237, 211, 245, 92, 26, 99, 18, 88, 214, 156, 247, 162, 222, 249, 222, 20]
def ordL : List Nat := dig 256 32 ell
theorem ordL_eq : ordL = ord16 ++ List.replicate 15 0 ++ [16] := by decide +kernel
theorem ordL_len : ordL.length = 32 := dig_len _ _ _
theorem ordL_lt : ∀ x ∈ ordL, x < 256 := fun _ h => dig_lt (by decide) h
theorem ordL_num : num 256 ordL = ell := by decide +kernel
theorem grow_one {k : IntKind} {B bytes : Nat} {H : List Ob} {s : Value} {bs : List Nat} {x : Nat} (h : Grown k B H s bs) (hB : B ≤ H.length) (hb : (bs.length + 1) * bytes ≤ 2 ^ 47) (hb0 : 0 < bytes) :
    ∃ s' H' M, appendV 1 bytes (H ++ [⟨[.int k (x : Nat)], true, true, true, 1⟩]) s (.slice (some ⟨H.length, 0, none⟩) 1 1) = some (s', H', none, M) ∧ Grown k B H' s' (bs ++ [x]) ∧ (∀ i ∈ M, B ≤ i) ∧ B ≤ H'.length ∧ ∀ i, i < B → H'[i]? = H[i]? := by
  obtain ⟨s', H', M, h1, h2, h3, h4, h5⟩ := (h.app (l' := [⟨[.int k (x : Nat)], true, true, true, 1⟩])).append (bytes := bytes) (x := .slice (some ⟨H.length, 0, none⟩) 1 1) (new := [x]) (by simp; omega) rfl (by simp [elemsOf, liveAt, ns]) hb hb0
  refine ⟨s', H', M, h1, h2, h3, ?_, fun i hi => by rw [h5 i hi, List.getElem?_append_left (by omega)]⟩
  simp at h4
  omega
def oI (s : Value) (H : List Ob) (ex : Env) : St := ⟨[(1, s)] ++ ex, H, []⟩
theorem order23_ev (H : List Ob) : ∃ s l, evFun T 23 [] H = some (s, H ++ l, []) ∧ Grown .i64 H.length (H ++ l) s ordL := by
  have hf : fillL (List.replicate 16 (Value.int .i64 0)) [(0, 1, .int .i64 237), (1, 1, .int .i64 211), (2, 1, .int .i64 245), (3, 1, .int .i64 92), (4, 1, .int .i64 26), (5, 1, .int .i64 99), (6, 1, .int .i64 18), (7, 1, .int .i64 88), (8, 1, .int .i64 214), (9, 1, .int .i64 156), (10, 1, .int .i64 247), (11, 1, .int .i64 162), (12, 1, .int .i64 222), (13, 1, .int .i64 249), (14, 1, .int .i64 222), (15, 1, .int .i64 20)] = some (ns .i64 ord16) := rfl
  have f0 : fillL [Value.int .i64 0] [(0, 1, .int .i64 0)] = some [.int .i64 0] := rfl
  have f16 : fillL [Value.int .i64 0] [(0, 1, .int .i64 16)] = some [.int .i64 16] := rfl
  obtain ⟨st, hb, s, Hc, rfl, hg, hL, hK⟩ := block_inv (T := T) (base := H.length) (id := 0) (body := a23_l0)
    (fun j st => ∃ s Hc, st = oI s Hc [] ∧ Grown .i64 H.length Hc s (ord16 ++ List.replicate j 0) ∧ H.length ≤ Hc.length ∧ ∀ i, i < H.length → Hc[i]? = H[i]?)
    (Q := fun st => ∃ s Hc, st = oI s Hc [(5, .bool false)] ∧ Grown .i64 H.length Hc s (ord16 ++ List.replicate 15 0) ∧ H.length ≤ Hc.length ∧ ∀ i, i < H.length → Hc[i]? = H[i]?)
    15 (s := oI (.slice (some ⟨H.length, 0, none⟩) 16 16) (H ++ [⟨ns .i64 ord16, true, true, true, 1⟩]) []) ⟨_, _, rfl, Grown.new (id := H.length) (bs := ord16) (Nat.le_refl _) (by decide) (by simp [Ob.fresh]), by simp, fun i hi => List.getElem?_append_left hi⟩
    (fun j st hj hs => by
      obtain ⟨s, Hc, rfl, hg, hL, hK⟩ := hs
      have hl := hg.len
      have e16 : (ord16 ++ List.replicate j 0).length = 16 + j := by simp [ord16]; omega
      rw [e16] at hl
      have h31 : (((16 + j : Nat) : Int) < 31) := by omega
      obtain ⟨s', H', M, h1, h2, h3, h4, h5⟩ := grow_one (x := 0) (bytes := 8) hg hL (by simp [ord16]; omega) (by decide)
      have hm : inMerge H.length [] M = [] := inMerge_ge h3
      refine ⟨oI s' H' [], ?_, s', H', rfl, by rw [List.replicate_succ', ← List.append_assoc]; exact h2, h4, fun i hi => by rw [h5 i hi, hK i hi]⟩
      simp only [oI, a23_l0, envOf, evCode_skip, evCode_exit, evCode_seq, fs_blockS, fs_blockR, fs_blockC, fs_blockK, fs_blockB, evCode_ret, quiet, keep_nil, keep_cons, fs_cond, fs_region, fs_regionP, fs_nil, fs_guard, fs_move, fs_pick, fs_alloc, fs_box, fs_load, fs_store, fs_bin, fs_eqv, fs_isNil, fs_un, fs_conv, fs_convStr, fs_field, fs_index, fs_indexStr, fs_build, fs_buildSlice, fs_fieldAddr, fs_indexAddr, fs_indexSl, fs_sliceArr, fs_sliceSl, fs_sliceStr, fs_makeSlice, fs_extract, fs_mkIface, fs_mkFunc, fs_nilCheck, fs_s2ap, fs_len, fs_minmax, fs_s2b, fs_b2s, fs_append, fs_copy, fs_callV, fs_callR, fs_callv, opd_tmp, opd_const, opd_func, opds_nil, opds_cons, opdOpt_none, opdOpt_some, opdParts_nil, opdParts_cons, get_miss, vPick_t, vPick_f, vEq_agg, vEq_aggN, vEq_bool, vEq_boolN, vConv_int, vStr_s, vField_agg, vIndex_agg, vIndexStr_s, vFieldAddr_p, vIndexAddr_p, vIndexSl_s, vSliceArr_p, vSliceSl_s, vSliceSl_n, vSliceStr_s, vExtract_t, vNilCheck_p, vS2ap_s, vLen_s, vLen_str, vMin_i, vMax_i, vLoad_p, vStore_p, baseP_p, vB2s_s, vMake_i, vS2b_s, callee_f, liveAt_eq, storeAt_eq, partL_none, partL_some, natIn_none, natIn_int, bounds3_two, bin_add, bin_sub, bin_mul, bin_quo, bin_rem, bin_and, bin_or, bin_xor, bin_andNot, bin_eql, bin_neq, bin_lss, bin_leq, bin_gtr, bin_geq, bin_shl, bin_shr, bin_sadd, bin_seql, bin_sneq, un_not, un_neg, un_xor, after_some, put_some, put_none, res_nil, res_val, res_var, packed_one, packed_two, merge_nil, merge_ge, rf_tup2, rfIn_int, rfIn_bool, rfIn_u8s, rf_str, rfIn_str, ↓gate_true, gd_bool, gd_ut, gd_uf, ↓guardV_tt, ↓guardV_ff, ↓guardV_tf, ↓guardV_ft, ↓keepV_some, ↓qElse_some, ↓get_hit, ↓Option.bind_some, ↓if_true, ↓if_false, List.nil_append, List.cons_append, List.all_nil, List.all_cons, List.isEmpty_nil, reduceCtorEq, Bool.false_eq_true, Nat.reduceEqDiff, beq_self_eq_true, bne_self_eq_false, Bool.not_true, Bool.not_false, Int.natCast_nonneg, Nat.lt_irrefl, false_and, Int.reduceEq, rf_int, rf_bool, rf_tuple_ints, rf_u8s, arr_list, toList2, Bool.and_self, Nat.not_lt_zero, Nat.sub_zero, Nat.zero_le, Nat.le_add_right, cells_agg, cells_agg_size, cells_int, cells_int_size, okV_int, okV_bool, okV_str, okV_agg, okV_ptr, okV_slice, okV_func, okV_nilFunc, okV_iface, okV_nilIface, cells_bool, cells_bool_size, cells_ptr, cells_ptr_size, cells_slice, cells_slice_size, cells_str, cells_str_size, eq_self, wrapI64_small, Int.natCast_zero, Int.natCast_one, Int.cast_ofNat_Int, List.length_nil, List.length_cons, List.getElem?_cons_zero, List.getElem?_cons_succ, List.set_cons_zero, List.set_cons_succ, Nat.zero_add, Nat.add_zero, Nat.mul_one, Nat.zero_mul, Int.toNat_natCast, Int.toNat_zero, Int.lt_irrefl, Int.le_refl, Nat.le_refl, and_self, true_and, and_true, decide_true, decide_false, Int.reduceLE, Int.reduceLT, Int.reduceAdd, Int.reduceMul, Int.reduceSub, Int.reduceTDiv, Int.reduceTMod, Int.reduceNeg, Int.reduceToNat, Int.reduceGT, Int.reduceGE, Int.reducePow, Nat.reduceAdd, Nat.reduceMul, Nat.reduceSub, Nat.reduceDiv, Nat.reduceMod, Nat.reducePow, Nat.reduceLT, Nat.reduceLeDiff, Nat.min_self, ge_iff_le, gt_iff_lt, Option.isNone_none, Option.isSome_none, Option.isNone_some, Option.isSome_some, Bool.and_true, Bool.true_and, Bool.and_false, Bool.false_and, not_true_eq_false, not_false_eq_true, or_true, true_or, false_or, or_false, hget0, hgetK, hset0, hsetK, splice_single, splice_whole, take_whole, List.getElem?_nil, List.length_append, List.append_assoc, Nat.add_assoc, hl, h31, f0]
      simp only [Int.natCast_zero] at h1
      simp only [h1, hm, envOf, evCode_skip, evCode_exit, evCode_seq, fs_blockS, fs_blockR, fs_blockC, fs_blockK, fs_blockB, evCode_ret, quiet, keep_nil, keep_cons, fs_cond, fs_region, fs_regionP, fs_nil, fs_guard, fs_move, fs_pick, fs_alloc, fs_box, fs_load, fs_store, fs_bin, fs_eqv, fs_isNil, fs_un, fs_conv, fs_convStr, fs_field, fs_index, fs_indexStr, fs_build, fs_buildSlice, fs_fieldAddr, fs_indexAddr, fs_indexSl, fs_sliceArr, fs_sliceSl, fs_sliceStr, fs_makeSlice, fs_extract, fs_mkIface, fs_mkFunc, fs_nilCheck, fs_s2ap, fs_len, fs_minmax, fs_s2b, fs_b2s, fs_append, fs_copy, fs_callV, fs_callR, fs_callv, opd_tmp, opd_const, opd_func, opds_nil, opds_cons, opdOpt_none, opdOpt_some, opdParts_nil, opdParts_cons, get_miss, vPick_t, vPick_f, vEq_agg, vEq_aggN, vEq_bool, vEq_boolN, vConv_int, vStr_s, vField_agg, vIndex_agg, vIndexStr_s, vFieldAddr_p, vIndexAddr_p, vIndexSl_s, vSliceArr_p, vSliceSl_s, vSliceSl_n, vSliceStr_s, vExtract_t, vNilCheck_p, vS2ap_s, vLen_s, vLen_str, vMin_i, vMax_i, vLoad_p, vStore_p, baseP_p, vB2s_s, vMake_i, vS2b_s, callee_f, liveAt_eq, storeAt_eq, partL_none, partL_some, natIn_none, natIn_int, bounds3_two, bin_add, bin_sub, bin_mul, bin_quo, bin_rem, bin_and, bin_or, bin_xor, bin_andNot, bin_eql, bin_neq, bin_lss, bin_leq, bin_gtr, bin_geq, bin_shl, bin_shr, bin_sadd, bin_seql, bin_sneq, un_not, un_neg, un_xor, after_some, put_some, put_none, res_nil, res_val, res_var, packed_one, packed_two, merge_nil, merge_ge, rf_tup2, rfIn_int, rfIn_bool, rfIn_u8s, rf_str, rfIn_str, ↓gate_true, gd_bool, gd_ut, gd_uf, ↓guardV_tt, ↓guardV_ff, ↓guardV_tf, ↓guardV_ft, ↓keepV_some, ↓qElse_some, ↓get_hit, ↓Option.bind_some, ↓if_true, ↓if_false, List.nil_append, List.cons_append, List.all_nil, List.all_cons, List.isEmpty_nil, reduceCtorEq, Bool.false_eq_true, Nat.reduceEqDiff, beq_self_eq_true, bne_self_eq_false, Bool.not_true, Bool.not_false, Int.natCast_nonneg, Nat.lt_irrefl, false_and, Int.reduceEq, rf_int, rf_bool, rf_tuple_ints, rf_u8s, arr_list, toList2, Bool.and_self, Nat.not_lt_zero, Nat.sub_zero, Nat.zero_le, Nat.le_add_right, cells_agg, cells_agg_size, cells_int, cells_int_size, okV_int, okV_bool, okV_str, okV_agg, okV_ptr, okV_slice, okV_func, okV_nilFunc, okV_iface, okV_nilIface, cells_bool, cells_bool_size, cells_ptr, cells_ptr_size, cells_slice, cells_slice_size, cells_str, cells_str_size, eq_self, wrapI64_small, Int.natCast_zero, Int.natCast_one, Int.cast_ofNat_Int, List.length_nil, List.length_cons, List.getElem?_cons_zero, List.getElem?_cons_succ, List.set_cons_zero, List.set_cons_succ, Nat.zero_add, Nat.add_zero, Nat.mul_one, Nat.zero_mul, Int.toNat_natCast, Int.toNat_zero, Int.lt_irrefl, Int.le_refl, Nat.le_refl, and_self, true_and, and_true, decide_true, decide_false, Int.reduceLE, Int.reduceLT, Int.reduceAdd, Int.reduceMul, Int.reduceSub, Int.reduceTDiv, Int.reduceTMod, Int.reduceNeg, Int.reduceToNat, Int.reduceGT, Int.reduceGE, Int.reducePow, Nat.reduceAdd, Nat.reduceMul, Nat.reduceSub, Nat.reduceDiv, Nat.reduceMod, Nat.reducePow, Nat.reduceLT, Nat.reduceLeDiff, Nat.min_self, ge_iff_le, gt_iff_lt, Option.isNone_none, Option.isSome_none, Option.isNone_some, Option.isSome_some, Bool.and_true, Bool.true_and, Bool.and_false, Bool.false_and, not_true_eq_false, not_false_eq_true, or_true, true_or, false_or, or_false])
    (fun st hs => by
      obtain ⟨s, Hc, rfl, hg, hL, hK⟩ := hs
      have hl := hg.len
      refine ⟨_, ?_, s, Hc, rfl, hg, hL, hK⟩
      have e16 : (ord16 ++ List.replicate 15 0).length = 31 := rfl
      rw [e16] at hl
      simp only [oI, a23_l0, envOf, evCode_skip, evCode_exit, evCode_seq, fs_blockS, fs_blockR, fs_blockC, fs_blockK, fs_blockB, evCode_ret, quiet, keep_nil, keep_cons, fs_cond, fs_region, fs_regionP, fs_nil, fs_guard, fs_move, fs_pick, fs_alloc, fs_box, fs_load, fs_store, fs_bin, fs_eqv, fs_isNil, fs_un, fs_conv, fs_convStr, fs_field, fs_index, fs_indexStr, fs_build, fs_buildSlice, fs_fieldAddr, fs_indexAddr, fs_indexSl, fs_sliceArr, fs_sliceSl, fs_sliceStr, fs_makeSlice, fs_extract, fs_mkIface, fs_mkFunc, fs_nilCheck, fs_s2ap, fs_len, fs_minmax, fs_s2b, fs_b2s, fs_append, fs_copy, fs_callV, fs_callR, fs_callv, opd_tmp, opd_const, opd_func, opds_nil, opds_cons, opdOpt_none, opdOpt_some, opdParts_nil, opdParts_cons, get_miss, vPick_t, vPick_f, vEq_agg, vEq_aggN, vEq_bool, vEq_boolN, vConv_int, vStr_s, vField_agg, vIndex_agg, vIndexStr_s, vFieldAddr_p, vIndexAddr_p, vIndexSl_s, vSliceArr_p, vSliceSl_s, vSliceSl_n, vSliceStr_s, vExtract_t, vNilCheck_p, vS2ap_s, vLen_s, vLen_str, vMin_i, vMax_i, vLoad_p, vStore_p, baseP_p, vB2s_s, vMake_i, vS2b_s, callee_f, liveAt_eq, storeAt_eq, partL_none, partL_some, natIn_none, natIn_int, bounds3_two, bin_add, bin_sub, bin_mul, bin_quo, bin_rem, bin_and, bin_or, bin_xor, bin_andNot, bin_eql, bin_neq, bin_lss, bin_leq, bin_gtr, bin_geq, bin_shl, bin_shr, bin_sadd, bin_seql, bin_sneq, un_not, un_neg, un_xor, after_some, put_some, put_none, res_nil, res_val, res_var, packed_one, packed_two, merge_nil, merge_ge, rf_tup2, rfIn_int, rfIn_bool, rfIn_u8s, rf_str, rfIn_str, ↓gate_true, gd_bool, gd_ut, gd_uf, ↓guardV_tt, ↓guardV_ff, ↓guardV_tf, ↓guardV_ft, ↓keepV_some, ↓qElse_some, ↓get_hit, ↓Option.bind_some, ↓if_true, ↓if_false, List.nil_append, List.cons_append, List.all_nil, List.all_cons, List.isEmpty_nil, reduceCtorEq, Bool.false_eq_true, Nat.reduceEqDiff, beq_self_eq_true, bne_self_eq_false, Bool.not_true, Bool.not_false, Int.natCast_nonneg, Nat.lt_irrefl, false_and, Int.reduceEq, rf_int, rf_bool, rf_tuple_ints, rf_u8s, arr_list, toList2, Bool.and_self, Nat.not_lt_zero, Nat.sub_zero, Nat.zero_le, Nat.le_add_right, cells_agg, cells_agg_size, cells_int, cells_int_size, okV_int, okV_bool, okV_str, okV_agg, okV_ptr, okV_slice, okV_func, okV_nilFunc, okV_iface, okV_nilIface, cells_bool, cells_bool_size, cells_ptr, cells_ptr_size, cells_slice, cells_slice_size, cells_str, cells_str_size, eq_self, wrapI64_small, Int.natCast_zero, Int.natCast_one, Int.cast_ofNat_Int, List.length_nil, List.length_cons, List.getElem?_cons_zero, List.getElem?_cons_succ, List.set_cons_zero, List.set_cons_succ, Nat.zero_add, Nat.add_zero, Nat.mul_one, Nat.zero_mul, Int.toNat_natCast, Int.toNat_zero, Int.lt_irrefl, Int.le_refl, Nat.le_refl, and_self, true_and, and_true, decide_true, decide_false, Int.reduceLE, Int.reduceLT, Int.reduceAdd, Int.reduceMul, Int.reduceSub, Int.reduceTDiv, Int.reduceTMod, Int.reduceNeg, Int.reduceToNat, Int.reduceGT, Int.reduceGE, Int.reducePow, Nat.reduceAdd, Nat.reduceMul, Nat.reduceSub, Nat.reduceDiv, Nat.reduceMod, Nat.reducePow, Nat.reduceLT, Nat.reduceLeDiff, Nat.min_self, ge_iff_le, gt_iff_lt, Option.isNone_none, Option.isSome_none, Option.isNone_some, Option.isSome_some, Bool.and_true, Bool.true_and, Bool.and_false, Bool.false_and, not_true_eq_false, not_false_eq_true, or_true, true_or, false_or, or_false, hget0, hgetK, hset0, hsetK, splice_single, splice_whole, take_whole, List.getElem?_nil, List.length_append, List.append_assoc, Nat.add_assoc, hl])
  obtain ⟨s', H', M, h1, h2, h3, h4, h5⟩ := grow_one (x := 16) (bytes := 8) hg hL (by decide) (by decide)
  have hm : inMerge H.length [] M = [] := inMerge_ge h3
  obtain ⟨l, rfl⟩ := ext_app h4 (fun i hi => by rw [h5 i hi, hK i hi])
  refine ⟨s', l, ?_, by rw [ordL_eq]; exact h2⟩
  rw [evFun_fn (fn := a23) rfl]
  simp only [oI, List.cons_append, List.nil_append] at hb
  simp only [Int.cast_ofNat_Int] at h1
  simp only [a23, envOf, evCode_skip, evCode_exit, evCode_seq, fs_blockS, fs_blockR, fs_blockC, fs_blockK, fs_blockB, evCode_ret, quiet, keep_nil, keep_cons, fs_cond, fs_region, fs_regionP, fs_nil, fs_guard, fs_move, fs_pick, fs_alloc, fs_box, fs_load, fs_store, fs_bin, fs_eqv, fs_isNil, fs_un, fs_conv, fs_convStr, fs_field, fs_index, fs_indexStr, fs_build, fs_buildSlice, fs_fieldAddr, fs_indexAddr, fs_indexSl, fs_sliceArr, fs_sliceSl, fs_sliceStr, fs_makeSlice, fs_extract, fs_mkIface, fs_mkFunc, fs_nilCheck, fs_s2ap, fs_len, fs_minmax, fs_s2b, fs_b2s, fs_append, fs_copy, fs_callV, fs_callR, fs_callv, opd_tmp, opd_const, opd_func, opds_nil, opds_cons, opdOpt_none, opdOpt_some, opdParts_nil, opdParts_cons, get_miss, vPick_t, vPick_f, vEq_agg, vEq_aggN, vEq_bool, vEq_boolN, vConv_int, vStr_s, vField_agg, vIndex_agg, vIndexStr_s, vFieldAddr_p, vIndexAddr_p, vIndexSl_s, vSliceArr_p, vSliceSl_s, vSliceSl_n, vSliceStr_s, vExtract_t, vNilCheck_p, vS2ap_s, vLen_s, vLen_str, vMin_i, vMax_i, vLoad_p, vStore_p, baseP_p, vB2s_s, vMake_i, vS2b_s, callee_f, liveAt_eq, storeAt_eq, partL_none, partL_some, natIn_none, natIn_int, bounds3_two, bin_add, bin_sub, bin_mul, bin_quo, bin_rem, bin_and, bin_or, bin_xor, bin_andNot, bin_eql, bin_neq, bin_lss, bin_leq, bin_gtr, bin_geq, bin_shl, bin_shr, bin_sadd, bin_seql, bin_sneq, un_not, un_neg, un_xor, after_some, put_some, put_none, res_nil, res_val, res_var, packed_one, packed_two, merge_nil, merge_ge, rf_tup2, rfIn_int, rfIn_bool, rfIn_u8s, rf_str, rfIn_str, ↓gate_true, gd_bool, gd_ut, gd_uf, ↓guardV_tt, ↓guardV_ff, ↓guardV_tf, ↓guardV_ft, ↓keepV_some, ↓qElse_some, ↓get_hit, ↓Option.bind_some, ↓if_true, ↓if_false, List.nil_append, List.cons_append, List.all_nil, List.all_cons, List.isEmpty_nil, reduceCtorEq, Bool.false_eq_true, Nat.reduceEqDiff, beq_self_eq_true, bne_self_eq_false, Bool.not_true, Bool.not_false, Int.natCast_nonneg, Nat.lt_irrefl, false_and, Int.reduceEq, rf_int, rf_bool, rf_tuple_ints, rf_u8s, arr_list, toList2, Bool.and_self, Nat.not_lt_zero, Nat.sub_zero, Nat.zero_le, Nat.le_add_right, cells_agg, cells_agg_size, cells_int, cells_int_size, okV_int, okV_bool, okV_str, okV_agg, okV_ptr, okV_slice, okV_func, okV_nilFunc, okV_iface, okV_nilIface, cells_bool, cells_bool_size, cells_ptr, cells_ptr_size, cells_slice, cells_slice_size, cells_str, cells_str_size, eq_self, wrapI64_small, Int.natCast_zero, Int.natCast_one, Int.cast_ofNat_Int, List.length_nil, List.length_cons, List.getElem?_cons_zero, List.getElem?_cons_succ, List.set_cons_zero, List.set_cons_succ, Nat.zero_add, Nat.add_zero, Nat.mul_one, Nat.zero_mul, Int.toNat_natCast, Int.toNat_zero, Int.lt_irrefl, Int.le_refl, Nat.le_refl, and_self, true_and, and_true, decide_true, decide_false, Int.reduceLE, Int.reduceLT, Int.reduceAdd, Int.reduceMul, Int.reduceSub, Int.reduceTDiv, Int.reduceTMod, Int.reduceNeg, Int.reduceToNat, Int.reduceGT, Int.reduceGE, Int.reducePow, Nat.reduceAdd, Nat.reduceMul, Nat.reduceSub, Nat.reduceDiv, Nat.reduceMod, Nat.reducePow, Nat.reduceLT, Nat.reduceLeDiff, Nat.min_self, ge_iff_le, gt_iff_lt, Option.isNone_none, Option.isSome_none, Option.isNone_some, Option.isSome_some, Bool.and_true, Bool.true_and, Bool.and_false, Bool.false_and, not_true_eq_false, not_false_eq_true, or_true, true_or, false_or, or_false, hget0, hgetK, hset0, hsetK, splice_single, splice_whole, take_whole, List.getElem?_nil, List.length_append, List.append_assoc, Nat.add_assoc, hf, hb, oI, f16, h1, hm]
end Go.Ev.Ytaceeoghjgggjaa
set_option linter.unusedSimpArgs false
set_option linter.unusedVariables false
namespace Go.Ev.Ytaceeoghjgggjaa
open Go Go.Ev
attribute [local congr] bind_congr2 ite_congr2 qElse_congr gate_congr guardV_congr
set_option maxRecDepth 100000
def ordP (i : Nat) : List Nat := ordL.take i ++ List.replicate (32 - i) 0
theorem ordP_len {i : Nat} (h : i ≤ 32) : (ordP i).length = 32 := by simp [ordP, ordL_len]; omega
theorem ordP_step : ∀ i, i < 32 → (ordP i).set i (ordL.getD i 0) = ordP (i + 1) := by decide +kernel
theorem u8_small {x : Nat} (h : x < 256) : IntKind.u8.wrap (x : Int) = x := wrap_small rfl h
end Go.Ev.Ytaceeoghjgggjaa

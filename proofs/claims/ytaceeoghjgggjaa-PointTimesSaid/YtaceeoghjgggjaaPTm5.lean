/- What the law leans on, part 5. -/
import Derived.Test.YtaceeoghjgggjaaPTm4
set_option linter.unusedSimpArgs false
set_option linter.unusedVariables false
set_option linter.unusedSimpArgs false
set_option linter.unusedVariables false
namespace Go.Ev.Ytaceeoghjgggjaa
open Go Go.Ev
attribute [local congr] bind_congr2 ite_congr2 qElse_congr gate_congr guardV_congr
set_option maxRecDepth 100000
theorem num_splitB {B : Nat} {a : List Nat} {m x : Nat} (h : a[m]? = some x) : num B a = num B (a.take m) + x * B ^ m + B ^ (m + 1) * num B (a.drop (m + 1)) := by
  have hm : m < a.length := (List.getElem?_eq_some_iff.1 h).1
  conv => lhs; rw [← List.take_append_drop (m + 1) a, num_append, num_take h]
  rw [List.length_take, Nat.min_eq_left (by omega)]
theorem num_take_ltB {B : Nat} {a : List Nat} {m : Nat} (ha : ∀ x ∈ a, x < B) (hm : m ≤ a.length) : num B (a.take m) < B ^ m := by
  have := num_lt (B := B) (l := a.take m) fun x hx => ha x (List.mem_of_mem_take hx)
  rwa [List.length_take, Nat.min_eq_left hm] at this
theorem less_atB {B : Nat} {a b : List Nat} {m x y : Nat} (hl : a.length = b.length) (ha : ∀ x ∈ a, x < B) (hb : ∀ x ∈ b, x < B) (hx : a[m]? = some x) (hy : b[m]? = some y) (hne : x ≠ y) (hd : a.drop (m + 1) = b.drop (m + 1)) : (num B a < num B b) ↔ x < y := by
  have hm : m < a.length := (List.getElem?_eq_some_iff.1 hx).1
  rw [num_splitB hx, num_splitB hy, hd]
  have h1 := num_take_ltB (m := m) ha (by omega)
  have h2 := num_take_ltB (m := m) hb (by omega)
  rcases Nat.lt_or_ge x y with h | h
  · have : (x + 1) * B ^ m ≤ y * B ^ m := Nat.mul_le_mul_right _ h
    rw [Nat.add_mul, Nat.one_mul] at this
    constructor <;> intro <;> omega
  · have : (y + 1) * B ^ m ≤ x * B ^ m := Nat.mul_le_mul_right _ (by omega)
    rw [Nat.add_mul, Nat.one_mul] at this
    constructor <;> intro <;> omega
def rlsI (a b : List Nat) (i : Int) (ex : Env) : St := ⟨[(2, .pointer (some ⟨0, 0, none⟩)), (3, .pointer (some ⟨1, 0, none⟩)), (5, .int .i64 i)] ++ ex, [⟨ns .u64 a, true, true, true, 1⟩, ⟨ns .u64 b, true, true, true, 1⟩], []⟩
theorem rless_loop {a b : List Nat} (ha : Nm a) (hb : Nm b) :
    ∀ m, m ≤ 16 → a.drop m = b.drop m → evCode T 0 (.loop a93_l0) (rlsI a b ((m : Int) - 1) []) =
      if a = b then some (.exit 0, rlsI a b (-1) [(7, .bool false)]) else some (.ret, ⟨[(4, .bool (decide (num 65536 a < num 65536 b)))], [⟨ns .u64 a, true, true, true, 1⟩, ⟨ns .u64 b, true, true, true, 1⟩], []⟩)
  | 0, _, hd => by
    rw [List.drop_zero, List.drop_zero] at hd
    rw [if_pos hd, evCode_loop]
    have e : ((0 : Int) ≤ -1) = False := by decide
    simp only [rlsI, a93_l0, envOf, evCode_skip, evCode_exit, evCode_seq, fs_blockS, fs_blockR, fs_blockC, fs_blockK, fs_blockB, evCode_ret, quiet, keep_nil, keep_cons, fs_cond, fs_region, fs_regionQ, quiet2_eq, lastOf_nil, lastOf_cons, List.take_succ_cons, List.take_zero, List.drop_succ_cons, List.drop_zero, Int.reduceBEq, Int.reduceBNe,  fs_nil, fs_guard, fs_move, fs_pick, fs_alloc, fs_box, fs_load, fs_store, fs_bin, fs_eqv, fs_isNil, fs_un, fs_conv, fs_convStr, fs_field, fs_index, fs_indexStr, fs_build, fs_buildSlice, fs_fieldAddr, fs_indexAddr, fs_indexSl, fs_sliceArr, fs_sliceSl, fs_sliceStr, fs_makeSlice, fs_extract, fs_mkIface, fs_mkFunc, fs_nilCheck, fs_s2ap, fs_len, fs_minmax, fs_s2b, fs_b2s, fs_append, fs_copy, fs_callW, fs_callR, fs_callv, opd_tmp, opd_const, opd_func, opds_nil, opds_cons, opdOpt_none, opdOpt_some, opdParts_nil, opdParts_cons, get_miss, vPick_t, vPick_f, vEq_agg, vEq_aggN, vEq_bool, vEq_boolN, vConv_int, vStr_s, vField_agg, vIndex_agg, vIndexStr_s, vFieldAddr_p, vIndexAddr_p, vIndexSl_s, vSliceArr_p, vSliceSl_s, vSliceSl_n, vSliceStr_s, vExtract_t, vNilCheck_p, vS2ap_s, vLen_s, vLen_str, vMin_i, vMax_i, vLoad_p, vStore_p, baseP_p, vB2s_s, vMake_i, vS2b_s, callee_f, liveAt_eq, storeAt_eq, partL_none, partL_some, natIn_none, natIn_int, bounds3_two, bin_add, bin_sub, bin_mul, bin_quo, bin_rem, bin_and, bin_or, bin_xor, bin_andNot, bin_eql, bin_neq, bin_lss, bin_leq, bin_gtr, bin_geq, bin_shl, bin_shr, bin_sadd, bin_seql, bin_sneq, un_not, un_neg, un_xor, after_some, put_some, put_none, res_nil, res_val, res_var, packed_one, packed_two, merge_nil, merge_ge, rf_tup2, rfIn_int, rfIn_bool, rfIn_u8s, rf_str, rfIn_str, ↓gate_true, gd_bool, gd_ut, gd_uf, ↓guardV_tt, ↓guardV_ff, ↓guardV_tf, ↓guardV_ft, ↓keepV_some, ↓qElse_some, ↓get_hit, ↓Option.bind_some, ↓if_true, ↓if_false, List.nil_append, List.cons_append, List.all_nil, List.all_cons, List.isEmpty_nil, reduceCtorEq, Bool.false_eq_true, Nat.reduceEqDiff, beq_self_eq_true, bne_self_eq_false, Bool.not_true, Bool.not_false, Int.natCast_nonneg, Nat.lt_irrefl, false_and, Int.reduceEq, rf_int, rf_bool, rf_tuple_ints, rf_u8s, arr_list, toList2, Bool.and_self, Nat.not_lt_zero, Nat.sub_zero, Nat.zero_le, Nat.le_add_right, cells_agg, cells_agg_size, cells_int, cells_int_size, okV_int, okV_bool, okV_str, okV_agg, okV_ptr, okV_slice, okV_func, okV_nilFunc, okV_iface, okV_nilIface, cells_bool, cells_bool_size, cells_ptr, cells_ptr_size, cells_slice, cells_slice_size, cells_str, cells_str_size, eq_self, wrapI64_small, Int.natCast_zero, Int.natCast_one, Int.cast_ofNat_Int, List.length_nil, List.length_cons, List.getElem?_cons_zero, List.getElem?_cons_succ, List.set_cons_zero, List.set_cons_succ, Nat.zero_add, Nat.add_zero, Nat.mul_one, Nat.zero_mul, Int.toNat_natCast, Int.toNat_zero, Int.lt_irrefl, Int.le_refl, Nat.le_refl, and_self, true_and, and_true, decide_true, decide_false, Int.reduceLE, Int.reduceLT, Int.reduceAdd, Int.reduceMul, Int.reduceSub, Int.reduceTDiv, Int.reduceTMod, Int.reduceNeg, Int.reduceToNat, Int.reduceGT, Int.reduceGE, Int.reducePow, Nat.reduceAdd, Nat.reduceMul, Nat.reduceSub, Nat.reduceDiv, Nat.reduceMod, Nat.reducePow, Nat.reduceLT, Nat.reduceLeDiff, Nat.min_self, ge_iff_le, gt_iff_lt, Option.isNone_none, Option.isSome_none, Option.isNone_some, Option.isSome_some, Bool.and_true, Bool.true_and, Bool.and_false, Bool.false_and, not_true_eq_false, not_false_eq_true, or_true, true_or, false_or, or_false, Int.zero_sub, e]
  | m + 1, hm, hd => by
    obtain ⟨x, hx⟩ : ∃ x, a[m]? = some x := ⟨_, List.getElem?_eq_getElem (by rw [ha.len]; omega)⟩
    obtain ⟨y, hy⟩ : ∃ y, b[m]? = some y := ⟨_, List.getElem?_eq_getElem (by rw [hb.len]; omega)⟩
    have c1 := ns_get (k := .u64) hx
    have c2 := ns_get (k := .u64) hy
    have l1 := ha.len
    have l2 := hb.len
    have e0 : (((m + 1 : Nat) : Int) - 1) = (m : Int) := by omega
    have e1 : ((0 : Int) ≤ (m : Int)) = True := eq_true (by omega)
    have e2 : ((m : Int) < 16) = True := eq_true (by omega)
    have e3 : IntKind.i64.wrap ((m : Int) - 1) = (m : Int) - 1 := wrapI64_small (by omega) (by omega)
    rw [e0, evCode_loop]
    by_cases hxy : x = y
    · subst hxy
      have hd' : a.drop m = b.drop m := by
        rw [List.drop_eq_getElem?_toList_append, hx, hd, ← hy, ← List.drop_eq_getElem?_toList_append]
      have ih := rless_loop ha hb m (by omega) hd'
      rw [← ih]
      simp only [rlsI, a93_l0, envOf, evCode_skip, evCode_exit, evCode_seq, fs_blockS, fs_blockR, fs_blockC, fs_blockK, fs_blockB, evCode_ret, quiet, keep_nil, keep_cons, fs_cond, fs_region, fs_regionQ, quiet2_eq, lastOf_nil, lastOf_cons, List.take_succ_cons, List.take_zero, List.drop_succ_cons, List.drop_zero, Int.reduceBEq, Int.reduceBNe,  fs_nil, fs_guard, fs_move, fs_pick, fs_alloc, fs_box, fs_load, fs_store, fs_bin, fs_eqv, fs_isNil, fs_un, fs_conv, fs_convStr, fs_field, fs_index, fs_indexStr, fs_build, fs_buildSlice, fs_fieldAddr, fs_indexAddr, fs_indexSl, fs_sliceArr, fs_sliceSl, fs_sliceStr, fs_makeSlice, fs_extract, fs_mkIface, fs_mkFunc, fs_nilCheck, fs_s2ap, fs_len, fs_minmax, fs_s2b, fs_b2s, fs_append, fs_copy, fs_callW, fs_callR, fs_callv, opd_tmp, opd_const, opd_func, opds_nil, opds_cons, opdOpt_none, opdOpt_some, opdParts_nil, opdParts_cons, get_miss, vPick_t, vPick_f, vEq_agg, vEq_aggN, vEq_bool, vEq_boolN, vConv_int, vStr_s, vField_agg, vIndex_agg, vIndexStr_s, vFieldAddr_p, vIndexAddr_p, vIndexSl_s, vSliceArr_p, vSliceSl_s, vSliceSl_n, vSliceStr_s, vExtract_t, vNilCheck_p, vS2ap_s, vLen_s, vLen_str, vMin_i, vMax_i, vLoad_p, vStore_p, baseP_p, vB2s_s, vMake_i, vS2b_s, callee_f, liveAt_eq, storeAt_eq, partL_none, partL_some, natIn_none, natIn_int, bounds3_two, bin_add, bin_sub, bin_mul, bin_quo, bin_rem, bin_and, bin_or, bin_xor, bin_andNot, bin_eql, bin_neq, bin_lss, bin_leq, bin_gtr, bin_geq, bin_shl, bin_shr, bin_sadd, bin_seql, bin_sneq, un_not, un_neg, un_xor, after_some, put_some, put_none, res_nil, res_val, res_var, packed_one, packed_two, merge_nil, merge_ge, rf_tup2, rfIn_int, rfIn_bool, rfIn_u8s, rf_str, rfIn_str, ↓gate_true, gd_bool, gd_ut, gd_uf, ↓guardV_tt, ↓guardV_ff, ↓guardV_tf, ↓guardV_ft, ↓keepV_some, ↓qElse_some, ↓get_hit, ↓Option.bind_some, ↓if_true, ↓if_false, List.nil_append, List.cons_append, List.all_nil, List.all_cons, List.isEmpty_nil, reduceCtorEq, Bool.false_eq_true, Nat.reduceEqDiff, beq_self_eq_true, bne_self_eq_false, Bool.not_true, Bool.not_false, Int.natCast_nonneg, Nat.lt_irrefl, false_and, Int.reduceEq, rf_int, rf_bool, rf_tuple_ints, rf_u8s, arr_list, toList2, Bool.and_self, Nat.not_lt_zero, Nat.sub_zero, Nat.zero_le, Nat.le_add_right, cells_agg, cells_agg_size, cells_int, cells_int_size, okV_int, okV_bool, okV_str, okV_agg, okV_ptr, okV_slice, okV_func, okV_nilFunc, okV_iface, okV_nilIface, cells_bool, cells_bool_size, cells_ptr, cells_ptr_size, cells_slice, cells_slice_size, cells_str, cells_str_size, eq_self, wrapI64_small, Int.natCast_zero, Int.natCast_one, Int.cast_ofNat_Int, List.length_nil, List.length_cons, List.getElem?_cons_zero, List.getElem?_cons_succ, List.set_cons_zero, List.set_cons_succ, Nat.zero_add, Nat.add_zero, Nat.mul_one, Nat.zero_mul, Int.toNat_natCast, Int.toNat_zero, Int.lt_irrefl, Int.le_refl, Nat.le_refl, and_self, true_and, and_true, decide_true, decide_false, Int.reduceLE, Int.reduceLT, Int.reduceAdd, Int.reduceMul, Int.reduceSub, Int.reduceTDiv, Int.reduceTMod, Int.reduceNeg, Int.reduceToNat, Int.reduceGT, Int.reduceGE, Int.reducePow, Nat.reduceAdd, Nat.reduceMul, Nat.reduceSub, Nat.reduceDiv, Nat.reduceMod, Nat.reducePow, Nat.reduceLT, Nat.reduceLeDiff, Nat.min_self, ge_iff_le, gt_iff_lt, Option.isNone_none, Option.isSome_none, Option.isNone_some, Option.isSome_some, Bool.and_true, Bool.true_and, Bool.and_false, Bool.false_and, not_true_eq_false, not_false_eq_true, or_true, true_or, false_or, or_false, e1, e2, e3, c1, c2, l1, l2, ns_len]
    · have hab : ¬ a = b := fun h => by subst h; rw [hx] at hy; cases hy; exact hxy rfl
      rw [if_neg hab]
      have hne : ((x : Int) != (y : Int)) = true := by simp; omega
      have hlt := less_atB (by rw [l1, l2]) ha.lt hb.lt hx hy hxy hd
      have hdec : decide ((x : Int) < (y : Int)) = decide (num 65536 a < num 65536 b) := by
        by_cases h : x < y
        · rw [decide_eq_true (hlt.2 h), decide_eq_true (by omega)]
        · rw [decide_eq_false (fun k => h (hlt.1 k)), decide_eq_false (by omega)]
      simp only [rlsI, a93_l0, envOf, evCode_skip, evCode_exit, evCode_seq, fs_blockS, fs_blockR, fs_blockC, fs_blockK, fs_blockB, evCode_ret, quiet, keep_nil, keep_cons, fs_cond, fs_region, fs_regionQ, quiet2_eq, lastOf_nil, lastOf_cons, List.take_succ_cons, List.take_zero, List.drop_succ_cons, List.drop_zero, Int.reduceBEq, Int.reduceBNe,  fs_nil, fs_guard, fs_move, fs_pick, fs_alloc, fs_box, fs_load, fs_store, fs_bin, fs_eqv, fs_isNil, fs_un, fs_conv, fs_convStr, fs_field, fs_index, fs_indexStr, fs_build, fs_buildSlice, fs_fieldAddr, fs_indexAddr, fs_indexSl, fs_sliceArr, fs_sliceSl, fs_sliceStr, fs_makeSlice, fs_extract, fs_mkIface, fs_mkFunc, fs_nilCheck, fs_s2ap, fs_len, fs_minmax, fs_s2b, fs_b2s, fs_append, fs_copy, fs_callW, fs_callR, fs_callv, opd_tmp, opd_const, opd_func, opds_nil, opds_cons, opdOpt_none, opdOpt_some, opdParts_nil, opdParts_cons, get_miss, vPick_t, vPick_f, vEq_agg, vEq_aggN, vEq_bool, vEq_boolN, vConv_int, vStr_s, vField_agg, vIndex_agg, vIndexStr_s, vFieldAddr_p, vIndexAddr_p, vIndexSl_s, vSliceArr_p, vSliceSl_s, vSliceSl_n, vSliceStr_s, vExtract_t, vNilCheck_p, vS2ap_s, vLen_s, vLen_str, vMin_i, vMax_i, vLoad_p, vStore_p, baseP_p, vB2s_s, vMake_i, vS2b_s, callee_f, liveAt_eq, storeAt_eq, partL_none, partL_some, natIn_none, natIn_int, bounds3_two, bin_add, bin_sub, bin_mul, bin_quo, bin_rem, bin_and, bin_or, bin_xor, bin_andNot, bin_eql, bin_neq, bin_lss, bin_leq, bin_gtr, bin_geq, bin_shl, bin_shr, bin_sadd, bin_seql, bin_sneq, un_not, un_neg, un_xor, after_some, put_some, put_none, res_nil, res_val, res_var, packed_one, packed_two, merge_nil, merge_ge, rf_tup2, rfIn_int, rfIn_bool, rfIn_u8s, rf_str, rfIn_str, ↓gate_true, gd_bool, gd_ut, gd_uf, ↓guardV_tt, ↓guardV_ff, ↓guardV_tf, ↓guardV_ft, ↓keepV_some, ↓qElse_some, ↓get_hit, ↓Option.bind_some, ↓if_true, ↓if_false, List.nil_append, List.cons_append, List.all_nil, List.all_cons, List.isEmpty_nil, reduceCtorEq, Bool.false_eq_true, Nat.reduceEqDiff, beq_self_eq_true, bne_self_eq_false, Bool.not_true, Bool.not_false, Int.natCast_nonneg, Nat.lt_irrefl, false_and, Int.reduceEq, rf_int, rf_bool, rf_tuple_ints, rf_u8s, arr_list, toList2, Bool.and_self, Nat.not_lt_zero, Nat.sub_zero, Nat.zero_le, Nat.le_add_right, cells_agg, cells_agg_size, cells_int, cells_int_size, okV_int, okV_bool, okV_str, okV_agg, okV_ptr, okV_slice, okV_func, okV_nilFunc, okV_iface, okV_nilIface, cells_bool, cells_bool_size, cells_ptr, cells_ptr_size, cells_slice, cells_slice_size, cells_str, cells_str_size, eq_self, wrapI64_small, Int.natCast_zero, Int.natCast_one, Int.cast_ofNat_Int, List.length_nil, List.length_cons, List.getElem?_cons_zero, List.getElem?_cons_succ, List.set_cons_zero, List.set_cons_succ, Nat.zero_add, Nat.add_zero, Nat.mul_one, Nat.zero_mul, Int.toNat_natCast, Int.toNat_zero, Int.lt_irrefl, Int.le_refl, Nat.le_refl, and_self, true_and, and_true, decide_true, decide_false, Int.reduceLE, Int.reduceLT, Int.reduceAdd, Int.reduceMul, Int.reduceSub, Int.reduceTDiv, Int.reduceTMod, Int.reduceNeg, Int.reduceToNat, Int.reduceGT, Int.reduceGE, Int.reducePow, Nat.reduceAdd, Nat.reduceMul, Nat.reduceSub, Nat.reduceDiv, Nat.reduceMod, Nat.reducePow, Nat.reduceLT, Nat.reduceLeDiff, Nat.min_self, ge_iff_le, gt_iff_lt, Option.isNone_none, Option.isSome_none, Option.isNone_some, Option.isSome_some, Bool.and_true, Bool.true_and, Bool.and_false, Bool.false_and, not_true_eq_false, not_false_eq_true, or_true, true_or, false_or, or_false, e1, e2, e3, c1, c2, hne, hdec, l1, l2, ns_len]
theorem rless_v {a b : List Nat} (ha : Nm a) (hb : Nm b) : evVal T 93 [eV a, eV b] = some (.bool (decide (num 65536 a < num 65536 b))) := by
  have hl := rless_loop ha hb 16 (Nat.le_refl _) (by rw [List.drop_of_length_le (by rw [ha.len]; omega), List.drop_of_length_le (by rw [hb.len]; omega)])
  have l1 := ha.len
  have l2 := hb.len
  have e0 : (((16 : Nat) : Int) - 1) = 15 := by decide
  rw [e0] at hl
  simp only [rlsI, List.cons_append, List.nil_append] at hl
  by_cases hab : a = b
  · rw [if_pos hab] at hl
    subst hab
    apply evVal_ex
    apply Exists.intro
    rw [evFun_fn (fn := a93) rfl]
    have hd : decide (num 65536 a < num 65536 a) = false := by simp
    simp only [a93, ↓steps_chunk, envOf, evCode_skip, evCode_exit, evCode_seq, fs_blockS, fs_blockR, fs_blockC, fs_blockK, fs_blockB, evCode_ret, quiet, keep_nil, keep_cons, fs_cond, fs_region, fs_regionQ, quiet2_eq, lastOf_nil, lastOf_cons, List.take_succ_cons, List.take_zero, List.drop_succ_cons, List.drop_zero, Int.reduceBEq, Int.reduceBNe,  fs_nil, fs_guard, fs_move, fs_pick, fs_alloc, fs_box, fs_load, fs_store, fs_bin, fs_eqv, fs_isNil, fs_un, fs_conv, fs_convStr, fs_field, fs_index, fs_indexStr, fs_build, fs_buildSlice, fs_fieldAddr, fs_indexAddr, fs_indexSl, fs_sliceArr, fs_sliceSl, fs_sliceStr, fs_makeSlice, fs_extract, fs_mkIface, fs_mkFunc, fs_nilCheck, fs_s2ap, fs_len, fs_minmax, fs_s2b, fs_b2s, fs_append, fs_copy, fs_callW, fs_callR, fs_callv, opd_tmp, opd_const, opd_func, opds_nil, opds_cons, opdOpt_none, opdOpt_some, opdParts_nil, opdParts_cons, get_miss, vPick_t, vPick_f, vEq_agg, vEq_aggN, vEq_bool, vEq_boolN, vConv_int, vStr_s, vField_agg, vIndex_agg, vIndexStr_s, vFieldAddr_p, vIndexAddr_p, vIndexSl_s, vSliceArr_p, vSliceSl_s, vSliceSl_n, vSliceStr_s, vExtract_t, vNilCheck_p, vS2ap_s, vLen_s, vLen_str, vMin_i, vMax_i, vLoad_p, vStore_p, baseP_p, vB2s_s, vMake_i, vS2b_s, callee_f, liveAt_eq, storeAt_eq, partL_none, partL_some, natIn_none, natIn_int, bounds3_two, bin_add, bin_sub, bin_mul, bin_quo, bin_rem, bin_and, bin_or, bin_xor, bin_andNot, bin_eql, bin_neq, bin_lss, bin_leq, bin_gtr, bin_geq, bin_shl, bin_shr, bin_sadd, bin_seql, bin_sneq, un_not, un_neg, un_xor, after_some, put_some, put_none, res_nil, res_val, res_var, packed_one, packed_two, merge_nil, merge_ge, rf_tup2, rfIn_int, rfIn_bool, rfIn_u8s, rf_str, rfIn_str, ↓gate_true, gd_bool, gd_ut, gd_uf, ↓guardW_tt, ↓guardW_ff, ↓guardW_tf, ↓guardW_ft, ↓keepW_some, ↓qElseW_some, ↓get_hit, ↓Option.bind_some, ↓if_true, ↓if_false, List.nil_append, List.cons_append, List.all_nil, List.all_cons, List.isEmpty_nil, reduceCtorEq, Bool.false_eq_true, Nat.reduceEqDiff, beq_self_eq_true, bne_self_eq_false, Bool.not_true, Bool.not_false, Int.natCast_nonneg, Nat.lt_irrefl, false_and, Int.reduceEq, rf_int, rf_bool, rf_tuple_ints, rf_u8s, arr_list, toList2, Bool.and_self, Nat.not_lt_zero, Nat.sub_zero, Nat.zero_le, Nat.le_add_right, cells_agg, cells_agg_size, cells_int, cells_int_size, okV_int, okV_bool, okV_str, okV_agg, okV_ptr, okV_slice, okV_func, okV_nilFunc, okV_iface, okV_nilIface, cells_bool, cells_bool_size, cells_ptr, cells_ptr_size, cells_slice, cells_slice_size, cells_str, cells_str_size, eq_self, wrapI64_small, Int.natCast_zero, Int.natCast_one, Int.cast_ofNat_Int, List.length_nil, List.length_cons, List.getElem?_cons_zero, List.getElem?_cons_succ, List.set_cons_zero, List.set_cons_succ, Nat.zero_add, Nat.add_zero, Nat.mul_one, Nat.zero_mul, Int.toNat_natCast, Int.toNat_zero, Int.lt_irrefl, Int.le_refl, Nat.le_refl, and_self, true_and, and_true, decide_true, decide_false, Int.reduceLE, Int.reduceLT, Int.reduceAdd, Int.reduceMul, Int.reduceSub, Int.reduceTDiv, Int.reduceTMod, Int.reduceNeg, Int.reduceToNat, Int.reduceGT, Int.reduceGE, Int.reducePow, Nat.reduceAdd, Nat.reduceMul, Nat.reduceSub, Nat.reduceDiv, Nat.reduceMod, Nat.reducePow, Nat.reduceLT, Nat.reduceLeDiff, Nat.min_self, ge_iff_le, gt_iff_lt, Option.isNone_none, Option.isSome_none, Option.isNone_some, Option.isSome_some, Bool.and_true, Bool.true_and, Bool.and_false, Bool.false_and, not_true_eq_false, not_false_eq_true, or_true, true_or, false_or, or_false, hget0, hgetK, hset0, hsetK, splice_single, splice_whole, take_whole, List.getElem?_nil, List.length_append, List.append_assoc, evCode_block, hl, hd, List.length_replicate, take_all, eV_cells, eV_size, eV_ok, eV_fold, ns_len, l1, l2, rf_eV]
    rfl
  · rw [if_neg hab] at hl
    apply evVal_ex
    apply Exists.intro
    rw [evFun_fn (fn := a93) rfl]
    simp only [a93, ↓steps_chunk, envOf, evCode_skip, evCode_exit, evCode_seq, fs_blockS, fs_blockR, fs_blockC, fs_blockK, fs_blockB, evCode_ret, quiet, keep_nil, keep_cons, fs_cond, fs_region, fs_regionQ, quiet2_eq, lastOf_nil, lastOf_cons, List.take_succ_cons, List.take_zero, List.drop_succ_cons, List.drop_zero, Int.reduceBEq, Int.reduceBNe,  fs_nil, fs_guard, fs_move, fs_pick, fs_alloc, fs_box, fs_load, fs_store, fs_bin, fs_eqv, fs_isNil, fs_un, fs_conv, fs_convStr, fs_field, fs_index, fs_indexStr, fs_build, fs_buildSlice, fs_fieldAddr, fs_indexAddr, fs_indexSl, fs_sliceArr, fs_sliceSl, fs_sliceStr, fs_makeSlice, fs_extract, fs_mkIface, fs_mkFunc, fs_nilCheck, fs_s2ap, fs_len, fs_minmax, fs_s2b, fs_b2s, fs_append, fs_copy, fs_callW, fs_callR, fs_callv, opd_tmp, opd_const, opd_func, opds_nil, opds_cons, opdOpt_none, opdOpt_some, opdParts_nil, opdParts_cons, get_miss, vPick_t, vPick_f, vEq_agg, vEq_aggN, vEq_bool, vEq_boolN, vConv_int, vStr_s, vField_agg, vIndex_agg, vIndexStr_s, vFieldAddr_p, vIndexAddr_p, vIndexSl_s, vSliceArr_p, vSliceSl_s, vSliceSl_n, vSliceStr_s, vExtract_t, vNilCheck_p, vS2ap_s, vLen_s, vLen_str, vMin_i, vMax_i, vLoad_p, vStore_p, baseP_p, vB2s_s, vMake_i, vS2b_s, callee_f, liveAt_eq, storeAt_eq, partL_none, partL_some, natIn_none, natIn_int, bounds3_two, bin_add, bin_sub, bin_mul, bin_quo, bin_rem, bin_and, bin_or, bin_xor, bin_andNot, bin_eql, bin_neq, bin_lss, bin_leq, bin_gtr, bin_geq, bin_shl, bin_shr, bin_sadd, bin_seql, bin_sneq, un_not, un_neg, un_xor, after_some, put_some, put_none, res_nil, res_val, res_var, packed_one, packed_two, merge_nil, merge_ge, rf_tup2, rfIn_int, rfIn_bool, rfIn_u8s, rf_str, rfIn_str, ↓gate_true, gd_bool, gd_ut, gd_uf, ↓guardW_tt, ↓guardW_ff, ↓guardW_tf, ↓guardW_ft, ↓keepW_some, ↓qElseW_some, ↓get_hit, ↓Option.bind_some, ↓if_true, ↓if_false, List.nil_append, List.cons_append, List.all_nil, List.all_cons, List.isEmpty_nil, reduceCtorEq, Bool.false_eq_true, Nat.reduceEqDiff, beq_self_eq_true, bne_self_eq_false, Bool.not_true, Bool.not_false, Int.natCast_nonneg, Nat.lt_irrefl, false_and, Int.reduceEq, rf_int, rf_bool, rf_tuple_ints, rf_u8s, arr_list, toList2, Bool.and_self, Nat.not_lt_zero, Nat.sub_zero, Nat.zero_le, Nat.le_add_right, cells_agg, cells_agg_size, cells_int, cells_int_size, okV_int, okV_bool, okV_str, okV_agg, okV_ptr, okV_slice, okV_func, okV_nilFunc, okV_iface, okV_nilIface, cells_bool, cells_bool_size, cells_ptr, cells_ptr_size, cells_slice, cells_slice_size, cells_str, cells_str_size, eq_self, wrapI64_small, Int.natCast_zero, Int.natCast_one, Int.cast_ofNat_Int, List.length_nil, List.length_cons, List.getElem?_cons_zero, List.getElem?_cons_succ, List.set_cons_zero, List.set_cons_succ, Nat.zero_add, Nat.add_zero, Nat.mul_one, Nat.zero_mul, Int.toNat_natCast, Int.toNat_zero, Int.lt_irrefl, Int.le_refl, Nat.le_refl, and_self, true_and, and_true, decide_true, decide_false, Int.reduceLE, Int.reduceLT, Int.reduceAdd, Int.reduceMul, Int.reduceSub, Int.reduceTDiv, Int.reduceTMod, Int.reduceNeg, Int.reduceToNat, Int.reduceGT, Int.reduceGE, Int.reducePow, Nat.reduceAdd, Nat.reduceMul, Nat.reduceSub, Nat.reduceDiv, Nat.reduceMod, Nat.reducePow, Nat.reduceLT, Nat.reduceLeDiff, Nat.min_self, ge_iff_le, gt_iff_lt, Option.isNone_none, Option.isSome_none, Option.isNone_some, Option.isSome_some, Bool.and_true, Bool.true_and, Bool.and_false, Bool.false_and, not_true_eq_false, not_false_eq_true, or_true, true_or, false_or, or_false, hget0, hgetK, hset0, hsetK, splice_single, splice_whole, take_whole, List.getElem?_nil, List.length_append, List.append_assoc, evCode_block, hl, List.length_replicate, take_all, eV_cells, eV_size, eV_ok, eV_fold, ns_len, l1, l2, rf_eV]
    rfl
def rcaI (a : List Nat) (ex : Env) : St := ⟨[(1, .pointer (some ⟨0, 0, none⟩)), (2, .pointer (some ⟨1, 0, none⟩))] ++ ex, [⟨ns .u64 a, true, true, true, 1⟩, ⟨ns .u64 zero16, true, true, true, 1⟩], []⟩
theorem rcanon_v {a : List Nat} (ha : Nm a) : evVal T 85 [eV a] = some (eV (dig 65536 16 (num 65536 a % Go.Fp.P))) := by
  have hp := rprime_v
  have hP := primeL_nm
  have hPn := primeL_num
  have hlt := ha.num_lt
  obtain ⟨V, hV⟩ : ∃ V, V = num 65536 a := ⟨_, rfl⟩
  rw [← hV] at hlt ⊢
  have haV : a = dig 65536 16 V := by rw [hV]; exact ha.eq
  have hdm := Nat.div_add_mod V Go.Fp.P
  have lP := hP.len
  obtain ⟨st, hl, rfl⟩ := block_inv (T := T) (base := 0) (id := 0) (body := a85_l0)
    (fun i st => st = rcaI (dig 65536 16 (V - i * Go.Fp.P)) [])
    (Q := fun st => st = rcaI (dig 65536 16 (V % Go.Fp.P)) [(6, .bool false)])
    (V / Go.Fp.P) (s := rcaI a []) (by rw [Nat.zero_mul, Nat.sub_zero, ← haV])
    (fun i st hi hs => by
      subst hs
      have h1 : (i + 1) * Go.Fp.P ≤ V := Nat.le_trans (Nat.mul_le_mul_right _ hi) (Nat.div_mul_le_self V Go.Fp.P)
      rw [Nat.add_mul, Nat.one_mul] at h1
      have hN := Nm.dig (V - i * Go.Fp.P)
      have hn := nm_dig (v := V - i * Go.Fp.P) (by omega)
      have g1 := rless_v hN hP
      have g2 := rminus_v hN hP (by rw [hn, hPn]; omega)
      rw [hn, hPn, decide_eq_false (by omega)] at g1
      rw [hn, hPn, show V - i * Go.Fp.P - Go.Fp.P = V - (i + 1) * Go.Fp.P by rw [Nat.add_mul, Nat.one_mul]; omega] at g2
      have l1 := hN.len
      have l2 := dig_len 65536 16 (V - (i + 1) * Go.Fp.P)
      generalize dig 65536 16 (V - i * Go.Fp.P) = A at *
      generalize dig 65536 16 (V - (i + 1) * Go.Fp.P) = A' at *
      generalize primeL = PL at *
      refine ⟨_, ?_, rfl⟩
      simp only [rcaI, a85_l0, envOf, evCode_skip, evCode_exit, evCode_seq, fs_blockS, fs_blockR, fs_blockC, fs_blockK, fs_blockB, evCode_ret, quiet, keep_nil, keep_cons, fs_cond, fs_region, fs_regionQ, quiet2_eq, lastOf_nil, lastOf_cons, List.take_succ_cons, List.take_zero, List.drop_succ_cons, List.drop_zero, Int.reduceBEq, Int.reduceBNe,  fs_nil, fs_guard, fs_move, fs_pick, fs_alloc, fs_box, fs_load, fs_store, fs_bin, fs_eqv, fs_isNil, fs_un, fs_conv, fs_convStr, fs_field, fs_index, fs_indexStr, fs_build, fs_buildSlice, fs_fieldAddr, fs_indexAddr, fs_indexSl, fs_sliceArr, fs_sliceSl, fs_sliceStr, fs_makeSlice, fs_extract, fs_mkIface, fs_mkFunc, fs_nilCheck, fs_s2ap, fs_len, fs_minmax, fs_s2b, fs_b2s, fs_append, fs_copy, fs_callW, fs_callR, fs_callv, opd_tmp, opd_const, opd_func, opds_nil, opds_cons, opdOpt_none, opdOpt_some, opdParts_nil, opdParts_cons, get_miss, vPick_t, vPick_f, vEq_agg, vEq_aggN, vEq_bool, vEq_boolN, vConv_int, vStr_s, vField_agg, vIndex_agg, vIndexStr_s, vFieldAddr_p, vIndexAddr_p, vIndexSl_s, vSliceArr_p, vSliceSl_s, vSliceSl_n, vSliceStr_s, vExtract_t, vNilCheck_p, vS2ap_s, vLen_s, vLen_str, vMin_i, vMax_i, vLoad_p, vStore_p, baseP_p, vB2s_s, vMake_i, vS2b_s, callee_f, liveAt_eq, storeAt_eq, partL_none, partL_some, natIn_none, natIn_int, bounds3_two, bin_add, bin_sub, bin_mul, bin_quo, bin_rem, bin_and, bin_or, bin_xor, bin_andNot, bin_eql, bin_neq, bin_lss, bin_leq, bin_gtr, bin_geq, bin_shl, bin_shr, bin_sadd, bin_seql, bin_sneq, un_not, un_neg, un_xor, after_some, put_some, put_none, res_nil, res_val, res_var, packed_one, packed_two, merge_nil, merge_ge, rf_tup2, rfIn_int, rfIn_bool, rfIn_u8s, rf_str, rfIn_str, ↓gate_true, gd_bool, gd_ut, gd_uf, ↓guardV_tt, ↓guardV_ff, ↓guardV_tf, ↓guardV_ft, ↓keepV_some, ↓qElse_some, ↓get_hit, ↓Option.bind_some, ↓if_true, ↓if_false, List.nil_append, List.cons_append, List.all_nil, List.all_cons, List.isEmpty_nil, reduceCtorEq, Bool.false_eq_true, Nat.reduceEqDiff, beq_self_eq_true, bne_self_eq_false, Bool.not_true, Bool.not_false, Int.natCast_nonneg, Nat.lt_irrefl, false_and, Int.reduceEq, rf_int, rf_bool, rf_tuple_ints, rf_u8s, arr_list, toList2, Bool.and_self, Nat.not_lt_zero, Nat.sub_zero, Nat.zero_le, Nat.le_add_right, cells_agg, cells_agg_size, cells_int, cells_int_size, okV_int, okV_bool, okV_str, okV_agg, okV_ptr, okV_slice, okV_func, okV_nilFunc, okV_iface, okV_nilIface, cells_bool, cells_bool_size, cells_ptr, cells_ptr_size, cells_slice, cells_slice_size, cells_str, cells_str_size, eq_self, wrapI64_small, Int.natCast_zero, Int.natCast_one, Int.cast_ofNat_Int, List.length_nil, List.length_cons, List.getElem?_cons_zero, List.getElem?_cons_succ, List.set_cons_zero, List.set_cons_succ, Nat.zero_add, Nat.add_zero, Nat.mul_one, Nat.zero_mul, Int.toNat_natCast, Int.toNat_zero, Int.lt_irrefl, Int.le_refl, Nat.le_refl, and_self, true_and, and_true, decide_true, decide_false, Int.reduceLE, Int.reduceLT, Int.reduceAdd, Int.reduceMul, Int.reduceSub, Int.reduceTDiv, Int.reduceTMod, Int.reduceNeg, Int.reduceToNat, Int.reduceGT, Int.reduceGE, Int.reducePow, Nat.reduceAdd, Nat.reduceMul, Nat.reduceSub, Nat.reduceDiv, Nat.reduceMod, Nat.reducePow, Nat.reduceLT, Nat.reduceLeDiff, Nat.min_self, ge_iff_le, gt_iff_lt, Option.isNone_none, Option.isSome_none, Option.isNone_some, Option.isSome_some, Bool.and_true, Bool.true_and, Bool.and_false, Bool.false_and, not_true_eq_false, not_false_eq_true, or_true, true_or, false_or, or_false, hget0, hgetK, hset0, hsetK, splice_single, splice_whole, take_whole, List.getElem?_nil, List.length_append, List.append_assoc, hp, g1, g2, eV_cells, eV_size, eV_ok, eV_fold, ns_len, l1, l2, lP, take_all, rf_eV])
    (fun st hs => by
      subst hs
      have e : V - V / Go.Fp.P * Go.Fp.P = V % Go.Fp.P := by rw [Nat.mul_comm]; omega
      rw [e]
      have hm := Nat.mod_lt V (by decide : 0 < Go.Fp.P)
      have hN := Nm.dig (V % Go.Fp.P)
      have hn := nm_dig (v := V % Go.Fp.P) (Nat.lt_of_lt_of_le hm (by decide))
      have g1 := rless_v hN hP
      rw [hn, hPn, decide_eq_true hm] at g1
      have l1 := hN.len
      generalize dig 65536 16 (V % Go.Fp.P) = A at *
      generalize primeL = PL at *
      refine ⟨_, ?_, rfl⟩
      simp only [rcaI, a85_l0, envOf, evCode_skip, evCode_exit, evCode_seq, fs_blockS, fs_blockR, fs_blockC, fs_blockK, fs_blockB, evCode_ret, quiet, keep_nil, keep_cons, fs_cond, fs_region, fs_regionQ, quiet2_eq, lastOf_nil, lastOf_cons, List.take_succ_cons, List.take_zero, List.drop_succ_cons, List.drop_zero, Int.reduceBEq, Int.reduceBNe,  fs_nil, fs_guard, fs_move, fs_pick, fs_alloc, fs_box, fs_load, fs_store, fs_bin, fs_eqv, fs_isNil, fs_un, fs_conv, fs_convStr, fs_field, fs_index, fs_indexStr, fs_build, fs_buildSlice, fs_fieldAddr, fs_indexAddr, fs_indexSl, fs_sliceArr, fs_sliceSl, fs_sliceStr, fs_makeSlice, fs_extract, fs_mkIface, fs_mkFunc, fs_nilCheck, fs_s2ap, fs_len, fs_minmax, fs_s2b, fs_b2s, fs_append, fs_copy, fs_callW, fs_callR, fs_callv, opd_tmp, opd_const, opd_func, opds_nil, opds_cons, opdOpt_none, opdOpt_some, opdParts_nil, opdParts_cons, get_miss, vPick_t, vPick_f, vEq_agg, vEq_aggN, vEq_bool, vEq_boolN, vConv_int, vStr_s, vField_agg, vIndex_agg, vIndexStr_s, vFieldAddr_p, vIndexAddr_p, vIndexSl_s, vSliceArr_p, vSliceSl_s, vSliceSl_n, vSliceStr_s, vExtract_t, vNilCheck_p, vS2ap_s, vLen_s, vLen_str, vMin_i, vMax_i, vLoad_p, vStore_p, baseP_p, vB2s_s, vMake_i, vS2b_s, callee_f, liveAt_eq, storeAt_eq, partL_none, partL_some, natIn_none, natIn_int, bounds3_two, bin_add, bin_sub, bin_mul, bin_quo, bin_rem, bin_and, bin_or, bin_xor, bin_andNot, bin_eql, bin_neq, bin_lss, bin_leq, bin_gtr, bin_geq, bin_shl, bin_shr, bin_sadd, bin_seql, bin_sneq, un_not, un_neg, un_xor, after_some, put_some, put_none, res_nil, res_val, res_var, packed_one, packed_two, merge_nil, merge_ge, rf_tup2, rfIn_int, rfIn_bool, rfIn_u8s, rf_str, rfIn_str, ↓gate_true, gd_bool, gd_ut, gd_uf, ↓guardV_tt, ↓guardV_ff, ↓guardV_tf, ↓guardV_ft, ↓keepV_some, ↓qElse_some, ↓get_hit, ↓Option.bind_some, ↓if_true, ↓if_false, List.nil_append, List.cons_append, List.all_nil, List.all_cons, List.isEmpty_nil, reduceCtorEq, Bool.false_eq_true, Nat.reduceEqDiff, beq_self_eq_true, bne_self_eq_false, Bool.not_true, Bool.not_false, Int.natCast_nonneg, Nat.lt_irrefl, false_and, Int.reduceEq, rf_int, rf_bool, rf_tuple_ints, rf_u8s, arr_list, toList2, Bool.and_self, Nat.not_lt_zero, Nat.sub_zero, Nat.zero_le, Nat.le_add_right, cells_agg, cells_agg_size, cells_int, cells_int_size, okV_int, okV_bool, okV_str, okV_agg, okV_ptr, okV_slice, okV_func, okV_nilFunc, okV_iface, okV_nilIface, cells_bool, cells_bool_size, cells_ptr, cells_ptr_size, cells_slice, cells_slice_size, cells_str, cells_str_size, eq_self, wrapI64_small, Int.natCast_zero, Int.natCast_one, Int.cast_ofNat_Int, List.length_nil, List.length_cons, List.getElem?_cons_zero, List.getElem?_cons_succ, List.set_cons_zero, List.set_cons_succ, Nat.zero_add, Nat.add_zero, Nat.mul_one, Nat.zero_mul, Int.toNat_natCast, Int.toNat_zero, Int.lt_irrefl, Int.le_refl, Nat.le_refl, and_self, true_and, and_true, decide_true, decide_false, Int.reduceLE, Int.reduceLT, Int.reduceAdd, Int.reduceMul, Int.reduceSub, Int.reduceTDiv, Int.reduceTMod, Int.reduceNeg, Int.reduceToNat, Int.reduceGT, Int.reduceGE, Int.reducePow, Nat.reduceAdd, Nat.reduceMul, Nat.reduceSub, Nat.reduceDiv, Nat.reduceMod, Nat.reducePow, Nat.reduceLT, Nat.reduceLeDiff, Nat.min_self, ge_iff_le, gt_iff_lt, Option.isNone_none, Option.isSome_none, Option.isNone_some, Option.isSome_some, Bool.and_true, Bool.true_and, Bool.and_false, Bool.false_and, not_true_eq_false, not_false_eq_true, or_true, true_or, false_or, or_false, hget0, hgetK, hset0, hsetK, splice_single, splice_whole, take_whole, List.getElem?_nil, List.length_append, List.append_assoc, hp, g1, eV_cells, eV_size, eV_ok, eV_fold, ns_len, l1, lP, take_all, rf_eV])
  have hz := z16_eq
  have lz := z16_len
  have l1 := ha.len
  have l2 := dig_len 65536 16 (V % Go.Fp.P)
  simp only [rcaI, List.cons_append, List.nil_append] at hl
  generalize zero16 = Z at *
  generalize dig 65536 16 (V % Go.Fp.P) = R at *
  apply evVal_ex
  apply Exists.intro
  rw [evFun_fn (fn := a85) rfl]
  simp only [a85, ↓steps_chunk, envOf, evCode_skip, evCode_exit, evCode_seq, fs_blockS, fs_blockR, fs_blockC, fs_blockK, fs_blockB, evCode_ret, quiet, keep_nil, keep_cons, fs_cond, fs_region, fs_regionQ, quiet2_eq, lastOf_nil, lastOf_cons, List.take_succ_cons, List.take_zero, List.drop_succ_cons, List.drop_zero, Int.reduceBEq, Int.reduceBNe,  fs_nil, fs_guard, fs_move, fs_pick, fs_alloc, fs_box, fs_load, fs_store, fs_bin, fs_eqv, fs_isNil, fs_un, fs_conv, fs_convStr, fs_field, fs_index, fs_indexStr, fs_build, fs_buildSlice, fs_fieldAddr, fs_indexAddr, fs_indexSl, fs_sliceArr, fs_sliceSl, fs_sliceStr, fs_makeSlice, fs_extract, fs_mkIface, fs_mkFunc, fs_nilCheck, fs_s2ap, fs_len, fs_minmax, fs_s2b, fs_b2s, fs_append, fs_copy, fs_callW, fs_callR, fs_callv, opd_tmp, opd_const, opd_func, opds_nil, opds_cons, opdOpt_none, opdOpt_some, opdParts_nil, opdParts_cons, get_miss, vPick_t, vPick_f, vEq_agg, vEq_aggN, vEq_bool, vEq_boolN, vConv_int, vStr_s, vField_agg, vIndex_agg, vIndexStr_s, vFieldAddr_p, vIndexAddr_p, vIndexSl_s, vSliceArr_p, vSliceSl_s, vSliceSl_n, vSliceStr_s, vExtract_t, vNilCheck_p, vS2ap_s, vLen_s, vLen_str, vMin_i, vMax_i, vLoad_p, vStore_p, baseP_p, vB2s_s, vMake_i, vS2b_s, callee_f, liveAt_eq, storeAt_eq, partL_none, partL_some, natIn_none, natIn_int, bounds3_two, bin_add, bin_sub, bin_mul, bin_quo, bin_rem, bin_and, bin_or, bin_xor, bin_andNot, bin_eql, bin_neq, bin_lss, bin_leq, bin_gtr, bin_geq, bin_shl, bin_shr, bin_sadd, bin_seql, bin_sneq, un_not, un_neg, un_xor, after_some, put_some, put_none, res_nil, res_val, res_var, packed_one, packed_two, merge_nil, merge_ge, rf_tup2, rfIn_int, rfIn_bool, rfIn_u8s, rf_str, rfIn_str, ↓gate_true, gd_bool, gd_ut, gd_uf, ↓guardW_tt, ↓guardW_ff, ↓guardW_tf, ↓guardW_ft, ↓keepW_some, ↓qElseW_some, ↓get_hit, ↓Option.bind_some, ↓if_true, ↓if_false, List.nil_append, List.cons_append, List.all_nil, List.all_cons, List.isEmpty_nil, reduceCtorEq, Bool.false_eq_true, Nat.reduceEqDiff, beq_self_eq_true, bne_self_eq_false, Bool.not_true, Bool.not_false, Int.natCast_nonneg, Nat.lt_irrefl, false_and, Int.reduceEq, rf_int, rf_bool, rf_tuple_ints, rf_u8s, arr_list, toList2, Bool.and_self, Nat.not_lt_zero, Nat.sub_zero, Nat.zero_le, Nat.le_add_right, cells_agg, cells_agg_size, cells_int, cells_int_size, okV_int, okV_bool, okV_str, okV_agg, okV_ptr, okV_slice, okV_func, okV_nilFunc, okV_iface, okV_nilIface, cells_bool, cells_bool_size, cells_ptr, cells_ptr_size, cells_slice, cells_slice_size, cells_str, cells_str_size, eq_self, wrapI64_small, Int.natCast_zero, Int.natCast_one, Int.cast_ofNat_Int, List.length_nil, List.length_cons, List.getElem?_cons_zero, List.getElem?_cons_succ, List.set_cons_zero, List.set_cons_succ, Nat.zero_add, Nat.add_zero, Nat.mul_one, Nat.zero_mul, Int.toNat_natCast, Int.toNat_zero, Int.lt_irrefl, Int.le_refl, Nat.le_refl, and_self, true_and, and_true, decide_true, decide_false, Int.reduceLE, Int.reduceLT, Int.reduceAdd, Int.reduceMul, Int.reduceSub, Int.reduceTDiv, Int.reduceTMod, Int.reduceNeg, Int.reduceToNat, Int.reduceGT, Int.reduceGE, Int.reducePow, Nat.reduceAdd, Nat.reduceMul, Nat.reduceSub, Nat.reduceDiv, Nat.reduceMod, Nat.reducePow, Nat.reduceLT, Nat.reduceLeDiff, Nat.min_self, ge_iff_le, gt_iff_lt, Option.isNone_none, Option.isSome_none, Option.isNone_some, Option.isSome_some, Bool.and_true, Bool.true_and, Bool.and_false, Bool.false_and, not_true_eq_false, not_false_eq_true, or_true, true_or, false_or, or_false, hget0, hgetK, hset0, hsetK, splice_single, splice_whole, take_whole, List.getElem?_nil, List.length_append, List.append_assoc, hz, hl, List.length_replicate, take_all, eV_cells, eV_size, eV_ok, eV_fold, ns_len, l1, l2, lz, rf_eV]
  rfl
end Go.Ev.Ytaceeoghjgggjaa
set_option linter.unusedSimpArgs false
set_option linter.unusedVariables false
namespace Go.Ev.Ytaceeoghjgggjaa
open Go Go.Ev
attribute [local congr] bind_congr2 ite_congr2 qElse_congr gate_congr guardV_congr
set_option maxRecDepth 100000
theorem z32_eq : List.replicate 32 (Value.int .u8 0) = u8s (dig 256 32 0) := rfl
theorem z32_fill : fillL (u8s (dig 256 32 0)) [] = some (u8s (dig 256 32 0)) := rfl
theorem w8n {n : Nat} (h : n < 256) : IntKind.u8.wrap (n : Int) = n := by rw [n_w8, Nat.mod_eq_of_lt h]
def rbyI (c o : List Nat) (i : Int) (ex : Env) : St := ⟨[(1, .pointer (some ⟨0, 0, none⟩)), (2, .pointer (some ⟨1, 0, none⟩)), (3, .pointer (some ⟨2, 0, none⟩)), (4, .int .i64 i)] ++ ex, [⟨ns .u64 c, true, true, true, 1⟩, ⟨u8s (dig 256 32 0), true, true, true, 1⟩, ⟨u8s o, true, true, true, 1⟩], []⟩
theorem rby_body {V i : Nat} (hi : i < 16) :
    evCode T 0 a66_l0 (rbyI (dig 65536 16 V) (pf 32 (dig 256 32 V) (2 * i)) i []) = some (.normal, rbyI (dig 65536 16 V) (pf 32 (dig 256 32 V) (2 * (i + 1))) ((i + 1 : Nat) : Int) []) := by
  obtain ⟨x, hx0⟩ : ∃ x, x = V / 65536 ^ i % 65536 := ⟨_, rfl⟩
  have hx : (dig 65536 16 V)[i]? = some x := by rw [dig_get hi, hx0]
  have hx' : x < 65536 := by rw [hx0]; exact Nat.mod_lt _ (by decide)
  have e : (65536 : Nat) ^ i = 256 ^ (2 * i) := by rw [show (65536 : Nat) = 256 ^ 2 from rfl, ← Nat.pow_mul]
  rw [e] at hx0
  have hd1 : (dig 256 32 V)[2 * i]? = some (x % 256) := by rw [dig_get (by omega), hx0]; congr 1; omega
  have hd2 : (dig 256 32 V)[2 * i + 1]? = some (x / 256) := by
    rw [dig_get (by omega), hx0, Nat.pow_succ, ← Nat.div_div_eq_div_mul]
    congr 1; omega
  have hs1 := pf_step (dig_len 256 32 V) (by omega : 2 * i < 32) hd1
  have hs2 := pf_step (dig_len 256 32 V) (by omega : 2 * i + 1 < 32) hd2
  have hl1 := pf_len (dig_len 256 32 V) (by omega : 2 * i ≤ 32)
  have hl2 := pf_len (dig_len 256 32 V) (by omega : 2 * i + 1 ≤ 32)
  have hset1 := u8s_set (pf 32 (dig 256 32 V) (2 * i)) (2 * i) (x % 256)
  have hset2 := u8s_set (pf 32 (dig 256 32 V) (2 * i + 1)) (2 * i + 1) (x / 256)
  rw [hs1] at hset1
  rw [hs2] at hset2
  rw [show 2 * (i + 1) = 2 * i + 1 + 1 by omega]
  have hxc := ns_get (k := .u64) hx
  have w1 : IntKind.i64.wrap ((i : Int) + 1) = ((i + 1 : Nat) : Int) := wi_add (b := 1) (by omega)
  have w2 : IntKind.i64.wrap (2 * (i : Int)) = ((2 * i : Nat) : Int) := wi_mul (a := 2) (by omega)
  have w3 : IntKind.i64.wrap (((2 * i : Nat) : Int) + 1) = ((2 * i + 1 : Nat) : Int) := wi_add (b := 1) (by omega)
  have w4 : (x : Int).tmod 256 = ((x % 256 : Nat) : Int) := rfl
  have w5 : IntKind.u8.wrap ((x % 256 : Nat) : Int) = ((x % 256 : Nat) : Int) := w8n (by omega)
  have w6 : IntKind.u64.wrap ((x : Int).tdiv 256) = ((x / 256 : Nat) : Int) := w64n (n := x / 256) (by omega)
  have w7 : IntKind.u8.wrap ((x / 256 : Nat) : Int) = ((x / 256 : Nat) : Int) := w8n (by omega)
  have e1 : ((i : Int) < 16) = True := eq_true (by omega)
  have e2 : (((2 * i : Nat) : Int) < 32) = True := eq_true (by omega)
  have e3 : (((2 * i + 1 : Nat) : Int) < 32) = True := eq_true (by omega)
  have e5 : (2 * i ≤ 31) = True := eq_true (by omega)
  have e6 : (2 * i + 1 ≤ 31) = True := eq_true (by omega)
  have l1 := dig_len 65536 16 V
  generalize dig 65536 16 V = C at *
  generalize pf 32 (dig 256 32 V) (2 * i) = o1 at *
  generalize pf 32 (dig 256 32 V) (2 * i + 1) = o2 at *
  generalize pf 32 (dig 256 32 V) (2 * i + 1 + 1) = o3 at *
  generalize hj1 : 2 * i + 1 = j1 at *
  generalize hj : 2 * i = j at *
  simp only [rbyI, a66_l0, envOf, evCode_skip, evCode_exit, evCode_seq, fs_blockS, fs_blockR, fs_blockC, fs_blockK, fs_blockB, evCode_ret, quiet, keep_nil, keep_cons, fs_cond, fs_region, fs_regionQ, quiet2_eq, lastOf_nil, lastOf_cons, List.take_succ_cons, List.take_zero, List.drop_succ_cons, List.drop_zero, Int.reduceBEq, Int.reduceBNe,  fs_nil, fs_guard, fs_move, fs_pick, fs_alloc, fs_box, fs_load, fs_store, fs_bin, fs_eqv, fs_isNil, fs_un, fs_conv, fs_convStr, fs_field, fs_index, fs_indexStr, fs_build, fs_buildSlice, fs_fieldAddr, fs_indexAddr, fs_indexSl, fs_sliceArr, fs_sliceSl, fs_sliceStr, fs_makeSlice, fs_extract, fs_mkIface, fs_mkFunc, fs_nilCheck, fs_s2ap, fs_len, fs_minmax, fs_s2b, fs_b2s, fs_append, fs_copy, fs_callW, fs_callR, fs_callv, opd_tmp, opd_const, opd_func, opds_nil, opds_cons, opdOpt_none, opdOpt_some, opdParts_nil, opdParts_cons, get_miss, vPick_t, vPick_f, vEq_agg, vEq_aggN, vEq_bool, vEq_boolN, vConv_int, vStr_s, vField_agg, vIndex_agg, vIndexStr_s, vFieldAddr_p, vIndexAddr_p, vIndexSl_s, vSliceArr_p, vSliceSl_s, vSliceSl_n, vSliceStr_s, vExtract_t, vNilCheck_p, vS2ap_s, vLen_s, vLen_str, vMin_i, vMax_i, vLoad_p, vStore_p, baseP_p, vB2s_s, vMake_i, vS2b_s, callee_f, liveAt_eq, storeAt_eq, partL_none, partL_some, natIn_none, natIn_int, bounds3_two, bin_add, bin_sub, bin_mul, bin_quo, bin_rem, bin_and, bin_or, bin_xor, bin_andNot, bin_eql, bin_neq, bin_lss, bin_leq, bin_gtr, bin_geq, bin_shl, bin_shr, bin_sadd, bin_seql, bin_sneq, un_not, un_neg, un_xor, after_some, put_some, put_none, res_nil, res_val, res_var, packed_one, packed_two, merge_nil, merge_ge, rf_tup2, rfIn_int, rfIn_bool, rfIn_u8s, rf_str, rfIn_str, ↓gate_true, gd_bool, gd_ut, gd_uf, ↓guardV_tt, ↓guardV_ff, ↓guardV_tf, ↓guardV_ft, ↓keepV_some, ↓qElse_some, ↓get_hit, ↓Option.bind_some, ↓if_true, ↓if_false, List.nil_append, List.cons_append, List.all_nil, List.all_cons, List.isEmpty_nil, reduceCtorEq, Bool.false_eq_true, Nat.reduceEqDiff, beq_self_eq_true, bne_self_eq_false, Bool.not_true, Bool.not_false, Int.natCast_nonneg, Nat.lt_irrefl, false_and, Int.reduceEq, rf_int, rf_bool, rf_tuple_ints, rf_u8s, arr_list, toList2, Bool.and_self, Nat.not_lt_zero, Nat.sub_zero, Nat.zero_le, Nat.le_add_right, cells_agg, cells_agg_size, cells_int, cells_int_size, okV_int, okV_bool, okV_str, okV_agg, okV_ptr, okV_slice, okV_func, okV_nilFunc, okV_iface, okV_nilIface, cells_bool, cells_bool_size, cells_ptr, cells_ptr_size, cells_slice, cells_slice_size, cells_str, cells_str_size, eq_self, wrapI64_small, Int.natCast_zero, Int.natCast_one, Int.cast_ofNat_Int, List.length_nil, List.length_cons, List.getElem?_cons_zero, List.getElem?_cons_succ, List.set_cons_zero, List.set_cons_succ, Nat.zero_add, Nat.add_zero, Nat.mul_one, Nat.zero_mul, Int.toNat_natCast, Int.toNat_zero, Int.lt_irrefl, Int.le_refl, Nat.le_refl, and_self, true_and, and_true, decide_true, decide_false, Int.reduceLE, Int.reduceLT, Int.reduceAdd, Int.reduceMul, Int.reduceSub, Int.reduceTDiv, Int.reduceTMod, Int.reduceNeg, Int.reduceToNat, Int.reduceGT, Int.reduceGE, Int.reducePow, Nat.reduceAdd, Nat.reduceMul, Nat.reduceSub, Nat.reduceDiv, Nat.reduceMod, Nat.reducePow, Nat.reduceLT, Nat.reduceLeDiff, Nat.min_self, ge_iff_le, gt_iff_lt, Option.isNone_none, Option.isSome_none, Option.isNone_some, Option.isSome_some, Bool.and_true, Bool.true_and, Bool.and_false, Bool.false_and, not_true_eq_false, not_false_eq_true, or_true, true_or, false_or, or_false, hget0, hgetK, hset0, hsetK, splice_single, splice_whole, take_whole, List.getElem?_nil, List.length_append, List.append_assoc, hxc, w1, w2, w3, w4, w5, w6, w7, e1, e2, e3, e5, e6, hset1, hset2, ns_len, u8s_len, hl1, hl2, l1]
theorem rbytes_v {a : List Nat} (ha : Nm a) : evVal T 66 [eV a] = some (.agg (u8s (dig 256 32 (nf a).val)).toArray) := by
  have hc := rcanon_v ha
  have hv : (nf a).val = num 65536 a % Go.Fp.P := rfl
  rw [hv]
  generalize num 65536 a % Go.Fp.P = V at *
  have hb := block_loop (T := T) (base := 0) (id := 0) (body := a66_l0) (fun i => rbyI (dig 65536 16 V) (pf 32 (dig 256 32 V) (2 * i)) i []) (s' := rbyI (dig 65536 16 V) (dig 256 32 V) 16 [(9, .bool false)]) 16
    (fun i hi => rby_body hi) (by
      rw [show 2 * 16 = 32 from rfl, pf_full (dig_len _ _ _)]
      simp only [rbyI, a66_l0, envOf, evCode_skip, evCode_exit, evCode_seq, fs_blockS, fs_blockR, fs_blockC, fs_blockK, fs_blockB, evCode_ret, quiet, keep_nil, keep_cons, fs_cond, fs_region, fs_regionQ, quiet2_eq, lastOf_nil, lastOf_cons, List.take_succ_cons, List.take_zero, List.drop_succ_cons, List.drop_zero, Int.reduceBEq, Int.reduceBNe,  fs_nil, fs_guard, fs_move, fs_pick, fs_alloc, fs_box, fs_load, fs_store, fs_bin, fs_eqv, fs_isNil, fs_un, fs_conv, fs_convStr, fs_field, fs_index, fs_indexStr, fs_build, fs_buildSlice, fs_fieldAddr, fs_indexAddr, fs_indexSl, fs_sliceArr, fs_sliceSl, fs_sliceStr, fs_makeSlice, fs_extract, fs_mkIface, fs_mkFunc, fs_nilCheck, fs_s2ap, fs_len, fs_minmax, fs_s2b, fs_b2s, fs_append, fs_copy, fs_callW, fs_callR, fs_callv, opd_tmp, opd_const, opd_func, opds_nil, opds_cons, opdOpt_none, opdOpt_some, opdParts_nil, opdParts_cons, get_miss, vPick_t, vPick_f, vEq_agg, vEq_aggN, vEq_bool, vEq_boolN, vConv_int, vStr_s, vField_agg, vIndex_agg, vIndexStr_s, vFieldAddr_p, vIndexAddr_p, vIndexSl_s, vSliceArr_p, vSliceSl_s, vSliceSl_n, vSliceStr_s, vExtract_t, vNilCheck_p, vS2ap_s, vLen_s, vLen_str, vMin_i, vMax_i, vLoad_p, vStore_p, baseP_p, vB2s_s, vMake_i, vS2b_s, callee_f, liveAt_eq, storeAt_eq, partL_none, partL_some, natIn_none, natIn_int, bounds3_two, bin_add, bin_sub, bin_mul, bin_quo, bin_rem, bin_and, bin_or, bin_xor, bin_andNot, bin_eql, bin_neq, bin_lss, bin_leq, bin_gtr, bin_geq, bin_shl, bin_shr, bin_sadd, bin_seql, bin_sneq, un_not, un_neg, un_xor, after_some, put_some, put_none, res_nil, res_val, res_var, packed_one, packed_two, merge_nil, merge_ge, rf_tup2, rfIn_int, rfIn_bool, rfIn_u8s, rf_str, rfIn_str, ↓gate_true, gd_bool, gd_ut, gd_uf, ↓guardV_tt, ↓guardV_ff, ↓guardV_tf, ↓guardV_ft, ↓keepV_some, ↓qElse_some, ↓get_hit, ↓Option.bind_some, ↓if_true, ↓if_false, List.nil_append, List.cons_append, List.all_nil, List.all_cons, List.isEmpty_nil, reduceCtorEq, Bool.false_eq_true, Nat.reduceEqDiff, beq_self_eq_true, bne_self_eq_false, Bool.not_true, Bool.not_false, Int.natCast_nonneg, Nat.lt_irrefl, false_and, Int.reduceEq, rf_int, rf_bool, rf_tuple_ints, rf_u8s, arr_list, toList2, Bool.and_self, Nat.not_lt_zero, Nat.sub_zero, Nat.zero_le, Nat.le_add_right, cells_agg, cells_agg_size, cells_int, cells_int_size, okV_int, okV_bool, okV_str, okV_agg, okV_ptr, okV_slice, okV_func, okV_nilFunc, okV_iface, okV_nilIface, cells_bool, cells_bool_size, cells_ptr, cells_ptr_size, cells_slice, cells_slice_size, cells_str, cells_str_size, eq_self, wrapI64_small, Int.natCast_zero, Int.natCast_one, Int.cast_ofNat_Int, List.length_nil, List.length_cons, List.getElem?_cons_zero, List.getElem?_cons_succ, List.set_cons_zero, List.set_cons_succ, Nat.zero_add, Nat.add_zero, Nat.mul_one, Nat.zero_mul, Int.toNat_natCast, Int.toNat_zero, Int.lt_irrefl, Int.le_refl, Nat.le_refl, and_self, true_and, and_true, decide_true, decide_false, Int.reduceLE, Int.reduceLT, Int.reduceAdd, Int.reduceMul, Int.reduceSub, Int.reduceTDiv, Int.reduceTMod, Int.reduceNeg, Int.reduceToNat, Int.reduceGT, Int.reduceGE, Int.reducePow, Nat.reduceAdd, Nat.reduceMul, Nat.reduceSub, Nat.reduceDiv, Nat.reduceMod, Nat.reducePow, Nat.reduceLT, Nat.reduceLeDiff, Nat.min_self, ge_iff_le, gt_iff_lt, Option.isNone_none, Option.isSome_none, Option.isNone_some, Option.isSome_some, Bool.and_true, Bool.true_and, Bool.and_false, Bool.false_and, not_true_eq_false, not_false_eq_true, or_true, true_or, false_or, or_false])
  rw [Nat.mul_zero, pf_zero, show List.replicate 32 0 = dig 256 32 0 from rfl] at hb
  simp only [rbyI, List.cons_append, List.nil_append, Int.natCast_zero] at hb
  have hz := z32_eq
  have hf := z32_fill
  have lz := dig_len 256 32 0
  have l1 := ha.len
  have l2 := dig_len 65536 16 V
  have l3 := dig_len 256 32 V
  generalize dig 65536 16 V = C at *
  generalize dig 256 32 V = R at *
  generalize dig 256 32 0 = Z at *
  apply evVal_ex
  apply Exists.intro
  rw [evFun_fn (fn := a66) rfl]
  simp only [a66, ↓steps_chunk, envOf, evCode_skip, evCode_exit, evCode_seq, fs_blockS, fs_blockR, fs_blockC, fs_blockK, fs_blockB, evCode_ret, quiet, keep_nil, keep_cons, fs_cond, fs_region, fs_regionQ, quiet2_eq, lastOf_nil, lastOf_cons, List.take_succ_cons, List.take_zero, List.drop_succ_cons, List.drop_zero, Int.reduceBEq, Int.reduceBNe,  fs_nil, fs_guard, fs_move, fs_pick, fs_alloc, fs_box, fs_load, fs_store, fs_bin, fs_eqv, fs_isNil, fs_un, fs_conv, fs_convStr, fs_field, fs_index, fs_indexStr, fs_build, fs_buildSlice, fs_fieldAddr, fs_indexAddr, fs_indexSl, fs_sliceArr, fs_sliceSl, fs_sliceStr, fs_makeSlice, fs_extract, fs_mkIface, fs_mkFunc, fs_nilCheck, fs_s2ap, fs_len, fs_minmax, fs_s2b, fs_b2s, fs_append, fs_copy, fs_callW, fs_callR, fs_callv, opd_tmp, opd_const, opd_func, opds_nil, opds_cons, opdOpt_none, opdOpt_some, opdParts_nil, opdParts_cons, get_miss, vPick_t, vPick_f, vEq_agg, vEq_aggN, vEq_bool, vEq_boolN, vConv_int, vStr_s, vField_agg, vIndex_agg, vIndexStr_s, vFieldAddr_p, vIndexAddr_p, vIndexSl_s, vSliceArr_p, vSliceSl_s, vSliceSl_n, vSliceStr_s, vExtract_t, vNilCheck_p, vS2ap_s, vLen_s, vLen_str, vMin_i, vMax_i, vLoad_p, vStore_p, baseP_p, vB2s_s, vMake_i, vS2b_s, callee_f, liveAt_eq, storeAt_eq, partL_none, partL_some, natIn_none, natIn_int, bounds3_two, bin_add, bin_sub, bin_mul, bin_quo, bin_rem, bin_and, bin_or, bin_xor, bin_andNot, bin_eql, bin_neq, bin_lss, bin_leq, bin_gtr, bin_geq, bin_shl, bin_shr, bin_sadd, bin_seql, bin_sneq, un_not, un_neg, un_xor, after_some, put_some, put_none, res_nil, res_val, res_var, packed_one, packed_two, merge_nil, merge_ge, rf_tup2, rfIn_int, rfIn_bool, rfIn_u8s, rf_str, rfIn_str, ↓gate_true, gd_bool, gd_ut, gd_uf, ↓guardW_tt, ↓guardW_ff, ↓guardW_tf, ↓guardW_ft, ↓keepW_some, ↓qElseW_some, ↓get_hit, ↓Option.bind_some, ↓if_true, ↓if_false, List.nil_append, List.cons_append, List.all_nil, List.all_cons, List.isEmpty_nil, reduceCtorEq, Bool.false_eq_true, Nat.reduceEqDiff, beq_self_eq_true, bne_self_eq_false, Bool.not_true, Bool.not_false, Int.natCast_nonneg, Nat.lt_irrefl, false_and, Int.reduceEq, rf_int, rf_bool, rf_tuple_ints, rf_u8s, arr_list, toList2, Bool.and_self, Nat.not_lt_zero, Nat.sub_zero, Nat.zero_le, Nat.le_add_right, cells_agg, cells_agg_size, cells_int, cells_int_size, okV_int, okV_bool, okV_str, okV_agg, okV_ptr, okV_slice, okV_func, okV_nilFunc, okV_iface, okV_nilIface, cells_bool, cells_bool_size, cells_ptr, cells_ptr_size, cells_slice, cells_slice_size, cells_str, cells_str_size, eq_self, wrapI64_small, Int.natCast_zero, Int.natCast_one, Int.cast_ofNat_Int, List.length_nil, List.length_cons, List.getElem?_cons_zero, List.getElem?_cons_succ, List.set_cons_zero, List.set_cons_succ, Nat.zero_add, Nat.add_zero, Nat.mul_one, Nat.zero_mul, Int.toNat_natCast, Int.toNat_zero, Int.lt_irrefl, Int.le_refl, Nat.le_refl, and_self, true_and, and_true, decide_true, decide_false, Int.reduceLE, Int.reduceLT, Int.reduceAdd, Int.reduceMul, Int.reduceSub, Int.reduceTDiv, Int.reduceTMod, Int.reduceNeg, Int.reduceToNat, Int.reduceGT, Int.reduceGE, Int.reducePow, Nat.reduceAdd, Nat.reduceMul, Nat.reduceSub, Nat.reduceDiv, Nat.reduceMod, Nat.reducePow, Nat.reduceLT, Nat.reduceLeDiff, Nat.min_self, ge_iff_le, gt_iff_lt, Option.isNone_none, Option.isSome_none, Option.isNone_some, Option.isSome_some, Bool.and_true, Bool.true_and, Bool.and_false, Bool.false_and, not_true_eq_false, not_false_eq_true, or_true, true_or, false_or, or_false, hget0, hgetK, hset0, hsetK, splice_single, splice_whole, take_whole, List.getElem?_nil, List.length_append, List.append_assoc, hz, hf, hc, hb, List.length_replicate, take_all, eV_cells, eV_size, eV_ok, eV_fold, ns_len, u8s_len, l1, l2, l3, lz, rf_eV]
  rfl
def fH (d : List Nat) (l : List Ob) : List Ob := ⟨ns .u64 d, true, true, true, 1⟩ :: ⟨ns .u64 zero16, true, true, true, 1⟩ :: l
def f2I (d : List Nat) (l : List Ob) (c : Nat) (i : Int) (ex : Env) : St := ⟨[(1, .pointer (some ⟨0, 0, none⟩)), (2, .pointer (some ⟨1, 0, none⟩)), (3, .int .u64 c), (4, .int .i64 i)] ++ ex, fH d l, []⟩
theorem f2_block {d : List Nat} {l : List Ob} (hd : d.length = 32) (hM : ∀ x ∈ d, x < 2 ^ 44) (hN : num 65536 d < 65536 ^ 32) :
    ∃ o c, evCode T 0 (.block 2 (.loop a86_l2)) (f2I d l 0 0 []) = some (.normal, f2I o l c 32 [(11, .bool false)]) ∧ o.length = 32 ∧ (∀ x ∈ o, x < 65536) ∧ num 65536 o = num 65536 d := by
  obtain ⟨st, hl, o, c, rfl, h1, h2, h3⟩ := block_inv (T := T) (base := 0) (id := 2) (body := a86_l2)
    (fun i st => ∃ (o : List Nat) (c : Nat), st = f2I (o ++ d.drop i) l c i [] ∧ o.length = i ∧ (∀ x ∈ o, x < 65536) ∧ c < 2 ^ 30 ∧ num 65536 (d.take i) = num 65536 o + 65536 ^ i * c)
    (Q := fun st => ∃ (o : List Nat) (c : Nat), st = f2I o l c 32 [(11, .bool false)] ∧ o.length = 32 ∧ (∀ x ∈ o, x < 65536) ∧ num 65536 d = num 65536 o + 65536 ^ 32 * c)
    32 (s := f2I d l 0 0 []) ⟨[], 0, by rw [List.drop_zero]; rfl, rfl, by simp, by omega, by simp [num]⟩
    (fun i st hi hs => by
      obtain ⟨o, c, rfl, h1, h2, h3, h4⟩ := hs
      obtain ⟨x, hx⟩ : ∃ x, d[i]? = some x := ⟨_, List.getElem?_eq_getElem (by omega)⟩
      have hx' := hM x (List.mem_of_getElem? hx)
      have hxo : (o ++ d.drop i)[i]? = some x := by
        rw [List.getElem?_append_right (by omega), h1, Nat.sub_self, List.getElem?_drop]; exact hx
      have hstep : (o ++ d.drop i).set i ((x + c) % 65536) = (o ++ [(x + c) % 65536]) ++ d.drop (i + 1) := by
        rw [List.set_append_right _ _ (by omega), h1, Nat.sub_self, List.drop_eq_getElem?_toList_append (i := i), hx]
        simp
      have hset := ns_set .u64 (o ++ d.drop i) i ((x + c) % 65536)
      rw [hstep] at hset
      have hlen : (o ++ d.drop i).length = 32 := by simp; omega
      have hxc := ns_get (k := .u64) hxo
      have w1 : IntKind.i64.wrap ((i : Int) + 1) = ((i + 1 : Nat) : Int) := wi_add (b := 1) (by omega)
      have w2 : IntKind.u64.wrap ((x : Int) + (c : Int)) = ((x + c : Nat) : Int) := w64_add (by omega)
      have w3 : ((x + c : Nat) : Int).tmod 65536 = (((x + c) % 65536 : Nat) : Int) := rfl
      have w4 : IntKind.u64.wrap (((x + c : Nat) : Int).tdiv 65536) = (((x + c) / 65536 : Nat) : Int) := w64n (n := (x + c) / 65536) (by omega)
      have e1 : ((i : Int) < 32) = True := eq_true (by omega)
      have e4 : (i ≤ 31) = True := eq_true (by omega)
      refine ⟨f2I ((o ++ [(x + c) % 65536]) ++ d.drop (i + 1)) l ((x + c) / 65536) ((i + 1 : Nat) : Int) [], ?_, o ++ [(x + c) % 65536], (x + c) / 65536, rfl, by simp [h1], ?_, by omega, ?_⟩
      · generalize (o ++ [(x + c) % 65536]) ++ d.drop (i + 1) = O' at *
        generalize o ++ d.drop i = O at *
        generalize (x + c) / 65536 = q at *
        generalize (x + c) % 65536 = m at *
        generalize x + c = v at *
        generalize i + 1 = i1 at *
        simp only [f2I, fH, a86_l2, envOf, evCode_skip, evCode_exit, evCode_seq, fs_blockS, fs_blockR, fs_blockC, fs_blockK, fs_blockB, evCode_ret, quiet, keep_nil, keep_cons, fs_cond, fs_region, fs_regionQ, quiet2_eq, lastOf_nil, lastOf_cons, List.take_succ_cons, List.take_zero, List.drop_succ_cons, List.drop_zero, Int.reduceBEq, Int.reduceBNe,  fs_nil, fs_guard, fs_move, fs_pick, fs_alloc, fs_box, fs_load, fs_store, fs_bin, fs_eqv, fs_isNil, fs_un, fs_conv, fs_convStr, fs_field, fs_index, fs_indexStr, fs_build, fs_buildSlice, fs_fieldAddr, fs_indexAddr, fs_indexSl, fs_sliceArr, fs_sliceSl, fs_sliceStr, fs_makeSlice, fs_extract, fs_mkIface, fs_mkFunc, fs_nilCheck, fs_s2ap, fs_len, fs_minmax, fs_s2b, fs_b2s, fs_append, fs_copy, fs_callW, fs_callR, fs_callv, opd_tmp, opd_const, opd_func, opds_nil, opds_cons, opdOpt_none, opdOpt_some, opdParts_nil, opdParts_cons, get_miss, vPick_t, vPick_f, vEq_agg, vEq_aggN, vEq_bool, vEq_boolN, vConv_int, vStr_s, vField_agg, vIndex_agg, vIndexStr_s, vFieldAddr_p, vIndexAddr_p, vIndexSl_s, vSliceArr_p, vSliceSl_s, vSliceSl_n, vSliceStr_s, vExtract_t, vNilCheck_p, vS2ap_s, vLen_s, vLen_str, vMin_i, vMax_i, vLoad_p, vStore_p, baseP_p, vB2s_s, vMake_i, vS2b_s, callee_f, liveAt_eq, storeAt_eq, partL_none, partL_some, natIn_none, natIn_int, bounds3_two, bin_add, bin_sub, bin_mul, bin_quo, bin_rem, bin_and, bin_or, bin_xor, bin_andNot, bin_eql, bin_neq, bin_lss, bin_leq, bin_gtr, bin_geq, bin_shl, bin_shr, bin_sadd, bin_seql, bin_sneq, un_not, un_neg, un_xor, after_some, put_some, put_none, res_nil, res_val, res_var, packed_one, packed_two, merge_nil, merge_ge, rf_tup2, rfIn_int, rfIn_bool, rfIn_u8s, rf_str, rfIn_str, ↓gate_true, gd_bool, gd_ut, gd_uf, ↓guardV_tt, ↓guardV_ff, ↓guardV_tf, ↓guardV_ft, ↓keepV_some, ↓qElse_some, ↓get_hit, ↓Option.bind_some, ↓if_true, ↓if_false, List.nil_append, List.cons_append, List.all_nil, List.all_cons, List.isEmpty_nil, reduceCtorEq, Bool.false_eq_true, Nat.reduceEqDiff, beq_self_eq_true, bne_self_eq_false, Bool.not_true, Bool.not_false, Int.natCast_nonneg, Nat.lt_irrefl, false_and, Int.reduceEq, rf_int, rf_bool, rf_tuple_ints, rf_u8s, arr_list, toList2, Bool.and_self, Nat.not_lt_zero, Nat.sub_zero, Nat.zero_le, Nat.le_add_right, cells_agg, cells_agg_size, cells_int, cells_int_size, okV_int, okV_bool, okV_str, okV_agg, okV_ptr, okV_slice, okV_func, okV_nilFunc, okV_iface, okV_nilIface, cells_bool, cells_bool_size, cells_ptr, cells_ptr_size, cells_slice, cells_slice_size, cells_str, cells_str_size, eq_self, wrapI64_small, Int.natCast_zero, Int.natCast_one, Int.cast_ofNat_Int, List.length_nil, List.length_cons, List.getElem?_cons_zero, List.getElem?_cons_succ, List.set_cons_zero, List.set_cons_succ, Nat.zero_add, Nat.add_zero, Nat.mul_one, Nat.zero_mul, Int.toNat_natCast, Int.toNat_zero, Int.lt_irrefl, Int.le_refl, Nat.le_refl, and_self, true_and, and_true, decide_true, decide_false, Int.reduceLE, Int.reduceLT, Int.reduceAdd, Int.reduceMul, Int.reduceSub, Int.reduceTDiv, Int.reduceTMod, Int.reduceNeg, Int.reduceToNat, Int.reduceGT, Int.reduceGE, Int.reducePow, Nat.reduceAdd, Nat.reduceMul, Nat.reduceSub, Nat.reduceDiv, Nat.reduceMod, Nat.reducePow, Nat.reduceLT, Nat.reduceLeDiff, Nat.min_self, ge_iff_le, gt_iff_lt, Option.isNone_none, Option.isSome_none, Option.isNone_some, Option.isSome_some, Bool.and_true, Bool.true_and, Bool.and_false, Bool.false_and, not_true_eq_false, not_false_eq_true, or_true, true_or, false_or, or_false, hget0, hgetK, hset0, hsetK, splice_single, splice_whole, take_whole, List.getElem?_nil, List.length_append, List.append_assoc, hxc, w1, w2, w3, w4, e1, e4, hset, ns_len, hlen]
      · intro y hy
        rcases List.mem_append.1 hy with hy | hy
        · exact h2 y hy
        · rw [List.mem_singleton.1 hy]; exact Nat.mod_lt _ (by decide)
      · rw [num_take hx, num_snoc, h1, h4, Nat.pow_succ]
        have h5 : x + c = 65536 * ((x + c) / 65536) + (x + c) % 65536 := (Nat.div_add_mod _ _).symm
        generalize (x + c) / 65536 = q at *
        generalize (x + c) % 65536 = m at *
        generalize (65536 : Nat) ^ i = p at *
        have h6 := congrArg (fun t => t * p) h5
        simp only [Nat.add_mul] at h6
        rw [Nat.mul_assoc p, Nat.mul_comm p c, Nat.mul_comm p m, Nat.mul_comm p (65536 * q)]
        omega)
    (fun st hs => by
      obtain ⟨o, c, rfl, h1, h2, h3, h4⟩ := hs
      rw [List.take_of_length_le (by omega)] at h4
      refine ⟨_, ?_, o, c, rfl, h1, h2, h4⟩
      rw [List.drop_of_length_le (by omega), List.append_nil]
      simp only [f2I, fH, a86_l2, envOf, evCode_skip, evCode_exit, evCode_seq, fs_blockS, fs_blockR, fs_blockC, fs_blockK, fs_blockB, evCode_ret, quiet, keep_nil, keep_cons, fs_cond, fs_region, fs_regionQ, quiet2_eq, lastOf_nil, lastOf_cons, List.take_succ_cons, List.take_zero, List.drop_succ_cons, List.drop_zero, Int.reduceBEq, Int.reduceBNe,  fs_nil, fs_guard, fs_move, fs_pick, fs_alloc, fs_box, fs_load, fs_store, fs_bin, fs_eqv, fs_isNil, fs_un, fs_conv, fs_convStr, fs_field, fs_index, fs_indexStr, fs_build, fs_buildSlice, fs_fieldAddr, fs_indexAddr, fs_indexSl, fs_sliceArr, fs_sliceSl, fs_sliceStr, fs_makeSlice, fs_extract, fs_mkIface, fs_mkFunc, fs_nilCheck, fs_s2ap, fs_len, fs_minmax, fs_s2b, fs_b2s, fs_append, fs_copy, fs_callW, fs_callR, fs_callv, opd_tmp, opd_const, opd_func, opds_nil, opds_cons, opdOpt_none, opdOpt_some, opdParts_nil, opdParts_cons, get_miss, vPick_t, vPick_f, vEq_agg, vEq_aggN, vEq_bool, vEq_boolN, vConv_int, vStr_s, vField_agg, vIndex_agg, vIndexStr_s, vFieldAddr_p, vIndexAddr_p, vIndexSl_s, vSliceArr_p, vSliceSl_s, vSliceSl_n, vSliceStr_s, vExtract_t, vNilCheck_p, vS2ap_s, vLen_s, vLen_str, vMin_i, vMax_i, vLoad_p, vStore_p, baseP_p, vB2s_s, vMake_i, vS2b_s, callee_f, liveAt_eq, storeAt_eq, partL_none, partL_some, natIn_none, natIn_int, bounds3_two, bin_add, bin_sub, bin_mul, bin_quo, bin_rem, bin_and, bin_or, bin_xor, bin_andNot, bin_eql, bin_neq, bin_lss, bin_leq, bin_gtr, bin_geq, bin_shl, bin_shr, bin_sadd, bin_seql, bin_sneq, un_not, un_neg, un_xor, after_some, put_some, put_none, res_nil, res_val, res_var, packed_one, packed_two, merge_nil, merge_ge, rf_tup2, rfIn_int, rfIn_bool, rfIn_u8s, rf_str, rfIn_str, ↓gate_true, gd_bool, gd_ut, gd_uf, ↓guardV_tt, ↓guardV_ff, ↓guardV_tf, ↓guardV_ft, ↓keepV_some, ↓qElse_some, ↓get_hit, ↓Option.bind_some, ↓if_true, ↓if_false, List.nil_append, List.cons_append, List.all_nil, List.all_cons, List.isEmpty_nil, reduceCtorEq, Bool.false_eq_true, Nat.reduceEqDiff, beq_self_eq_true, bne_self_eq_false, Bool.not_true, Bool.not_false, Int.natCast_nonneg, Nat.lt_irrefl, false_and, Int.reduceEq, rf_int, rf_bool, rf_tuple_ints, rf_u8s, arr_list, toList2, Bool.and_self, Nat.not_lt_zero, Nat.sub_zero, Nat.zero_le, Nat.le_add_right, cells_agg, cells_agg_size, cells_int, cells_int_size, okV_int, okV_bool, okV_str, okV_agg, okV_ptr, okV_slice, okV_func, okV_nilFunc, okV_iface, okV_nilIface, cells_bool, cells_bool_size, cells_ptr, cells_ptr_size, cells_slice, cells_slice_size, cells_str, cells_str_size, eq_self, wrapI64_small, Int.natCast_zero, Int.natCast_one, Int.cast_ofNat_Int, List.length_nil, List.length_cons, List.getElem?_cons_zero, List.getElem?_cons_succ, List.set_cons_zero, List.set_cons_succ, Nat.zero_add, Nat.add_zero, Nat.mul_one, Nat.zero_mul, Int.toNat_natCast, Int.toNat_zero, Int.lt_irrefl, Int.le_refl, Nat.le_refl, and_self, true_and, and_true, decide_true, decide_false, Int.reduceLE, Int.reduceLT, Int.reduceAdd, Int.reduceMul, Int.reduceSub, Int.reduceTDiv, Int.reduceTMod, Int.reduceNeg, Int.reduceToNat, Int.reduceGT, Int.reduceGE, Int.reducePow, Nat.reduceAdd, Nat.reduceMul, Nat.reduceSub, Nat.reduceDiv, Nat.reduceMod, Nat.reducePow, Nat.reduceLT, Nat.reduceLeDiff, Nat.min_self, ge_iff_le, gt_iff_lt, Option.isNone_none, Option.isSome_none, Option.isNone_some, Option.isSome_some, Bool.and_true, Bool.true_and, Bool.and_false, Bool.false_and, not_true_eq_false, not_false_eq_true, or_true, true_or, false_or, or_false])
  refine ⟨o, c, hl, h1, h2, ?_⟩
  rcases Nat.eq_zero_or_pos c with h | h
  · rw [h3, h]; omega
  · exfalso
    have := Nat.mul_le_mul_left (65536 ^ 32) h
    generalize (65536 : Nat) ^ 32 = M at *
    omega
end Go.Ev.Ytaceeoghjgggjaa
set_option linter.unusedSimpArgs false
set_option linter.unusedVariables false
namespace Go.Ev.Ytaceeoghjgggjaa
open Go Go.Ev
attribute [local congr] bind_congr2 ite_congr2 qElse_congr gate_congr guardV_congr
set_option maxRecDepth 100000
def anyNZ (l : List Nat) : Bool := !(l.all (· == 0))
theorem anyNZ_snoc (l : List Nat) (x : Nat) : anyNZ (l ++ [x]) = (anyNZ l || !(x == 0)) := by simp [anyNZ]
def f1I (d o : List Nat) (l : List Ob) (b : Bool) (i : Int) (ex : Env) : St := ⟨[(1, .pointer (some ⟨0, 0, none⟩)), (2, .pointer (some ⟨1, 0, none⟩)), (6, .pointer (some ⟨l.length + 1 + 1, 0, none⟩)), (7, .bool b), (8, .int .i64 i)] ++ ex, fH d (l ++ [⟨ns .u64 o, true, true, true, 1⟩]), []⟩
theorem f1_body {d : List Nat} {l : List Ob} {i : Nat} {b : Bool} (hd : d.length = 32) (hi : i < 16) (hb : b = anyNZ ((d.drop 16).take i)) :
    evCode T 0 a86_l1 (f1I d (pf 16 (d.take 16) i) l b i []) = some (.normal, f1I d (pf 16 (d.take 16) (i + 1)) l (anyNZ ((d.drop 16).take (i + 1))) ((i + 1 : Nat) : Int) []) := by
  obtain ⟨x, hx⟩ : ∃ x, d[i]? = some x := ⟨_, List.getElem?_eq_getElem (by omega)⟩
  obtain ⟨y, hy⟩ : ∃ y, d[i + 16]? = some y := ⟨_, List.getElem?_eq_getElem (by omega)⟩
  have hx2 : (d.take 16)[i]? = some x := by rw [List.getElem?_take, if_pos hi]; exact hx
  have hy2 : (d.drop 16)[i]? = some y := by rw [List.getElem?_drop, Nat.add_comm]; exact hy
  have hL : (d.take 16).length = 16 := by simp; omega
  have hstep := pf_step hL hi hx2
  have hlen := pf_len hL (Nat.le_of_lt hi)
  have hset := ns_set .u64 (pf 16 (d.take 16) i) i x
  rw [hstep] at hset
  have hxc := ns_get (k := .u64) hx
  have hyc := ns_get (k := .u64) hy
  have hnz : anyNZ ((d.drop 16).take (i + 1)) = (b || !(y == 0)) := by
    rw [List.take_add_one, hy2, hb]; exact anyNZ_snoc _ _
  rw [hnz]
  have w1 : IntKind.i64.wrap ((i : Int) + 1) = ((i + 1 : Nat) : Int) := wi_add (b := 1) (by omega)
  have w2 : IntKind.i64.wrap ((i : Int) + 16) = ((i + 16 : Nat) : Int) := wi_add (b := 16) (by omega)
  have e1 : ((i : Int) < 16) = True := eq_true (by omega)
  have e2 : ((i : Int) < 32) = True := eq_true (by omega)
  have e3 : (((i + 16 : Nat) : Int) < 32) = True := eq_true (by omega)
  have e4 : (i ≤ 15) = True := eq_true (by omega)
  have e5 : ((y : Int) != 0) = !(y == 0) := by
    by_cases h : y = 0
    · subst h; rfl
    · have h' : ¬ (y : Int) = 0 := by omega
      rw [beq_eq_false_iff_ne.2 h, bne_iff_ne.2 h']; rfl
  generalize pf 16 (d.take 16) i = o1 at *
  generalize pf 16 (d.take 16) (i + 1) = o2 at *
  generalize i + 16 = j at *
  generalize (!(y == 0)) = nz at *
  clear hb hnz
  cases b with
  | false => simp only [f1I, fH, a86_l1, envOf, evCode_skip, evCode_exit, evCode_seq, fs_blockS, fs_blockR, fs_blockC, fs_blockK, fs_blockB, evCode_ret, quiet, keep_nil, keep_cons, fs_cond, fs_region, fs_regionQ, quiet2_eq, lastOf_nil, lastOf_cons, List.take_succ_cons, List.take_zero, List.drop_succ_cons, List.drop_zero, Int.reduceBEq, Int.reduceBNe,  fs_nil, fs_guard, fs_move, fs_pick, fs_alloc, fs_box, fs_load, fs_store, fs_bin, fs_eqv, fs_isNil, fs_un, fs_conv, fs_convStr, fs_field, fs_index, fs_indexStr, fs_build, fs_buildSlice, fs_fieldAddr, fs_indexAddr, fs_indexSl, fs_sliceArr, fs_sliceSl, fs_sliceStr, fs_makeSlice, fs_extract, fs_mkIface, fs_mkFunc, fs_nilCheck, fs_s2ap, fs_len, fs_minmax, fs_s2b, fs_b2s, fs_append, fs_copy, fs_callW, fs_callR, fs_callv, opd_tmp, opd_const, opd_func, opds_nil, opds_cons, opdOpt_none, opdOpt_some, opdParts_nil, opdParts_cons, get_miss, vPick_t, vPick_f, vEq_agg, vEq_aggN, vEq_bool, vEq_boolN, vConv_int, vStr_s, vField_agg, vIndex_agg, vIndexStr_s, vFieldAddr_p, vIndexAddr_p, vIndexSl_s, vSliceArr_p, vSliceSl_s, vSliceSl_n, vSliceStr_s, vExtract_t, vNilCheck_p, vS2ap_s, vLen_s, vLen_str, vMin_i, vMax_i, vLoad_p, vStore_p, baseP_p, vB2s_s, vMake_i, vS2b_s, callee_f, liveAt_eq, storeAt_eq, partL_none, partL_some, natIn_none, natIn_int, bounds3_two, bin_add, bin_sub, bin_mul, bin_quo, bin_rem, bin_and, bin_or, bin_xor, bin_andNot, bin_eql, bin_neq, bin_lss, bin_leq, bin_gtr, bin_geq, bin_shl, bin_shr, bin_sadd, bin_seql, bin_sneq, un_not, un_neg, un_xor, after_some, put_some, put_none, res_nil, res_val, res_var, packed_one, packed_two, merge_nil, merge_ge, rf_tup2, rfIn_int, rfIn_bool, rfIn_u8s, rf_str, rfIn_str, ↓gate_true, gd_bool, gd_ut, gd_uf, ↓guardW_tt, ↓guardW_ff, ↓guardW_tf, ↓guardW_ft, ↓keepW_some, ↓qElseW_some, ↓get_hit, ↓Option.bind_some, ↓if_true, ↓if_false, List.nil_append, List.cons_append, List.all_nil, List.all_cons, List.isEmpty_nil, reduceCtorEq, Bool.false_eq_true, Nat.reduceEqDiff, beq_self_eq_true, bne_self_eq_false, Bool.not_true, Bool.not_false, Int.natCast_nonneg, Nat.lt_irrefl, false_and, Int.reduceEq, rf_int, rf_bool, rf_tuple_ints, rf_u8s, arr_list, toList2, Bool.and_self, Nat.not_lt_zero, Nat.sub_zero, Nat.zero_le, Nat.le_add_right, cells_agg, cells_agg_size, cells_int, cells_int_size, okV_int, okV_bool, okV_str, okV_agg, okV_ptr, okV_slice, okV_func, okV_nilFunc, okV_iface, okV_nilIface, cells_bool, cells_bool_size, cells_ptr, cells_ptr_size, cells_slice, cells_slice_size, cells_str, cells_str_size, eq_self, wrapI64_small, Int.natCast_zero, Int.natCast_one, Int.cast_ofNat_Int, List.length_nil, List.length_cons, List.getElem?_cons_zero, List.getElem?_cons_succ, List.set_cons_zero, List.set_cons_succ, Nat.zero_add, Nat.add_zero, Nat.mul_one, Nat.zero_mul, Int.toNat_natCast, Int.toNat_zero, Int.lt_irrefl, Int.le_refl, Nat.le_refl, and_self, true_and, and_true, decide_true, decide_false, Int.reduceLE, Int.reduceLT, Int.reduceAdd, Int.reduceMul, Int.reduceSub, Int.reduceTDiv, Int.reduceTMod, Int.reduceNeg, Int.reduceToNat, Int.reduceGT, Int.reduceGE, Int.reducePow, Nat.reduceAdd, Nat.reduceMul, Nat.reduceSub, Nat.reduceDiv, Nat.reduceMod, Nat.reducePow, Nat.reduceLT, Nat.reduceLeDiff, Nat.min_self, ge_iff_le, gt_iff_lt, Option.isNone_none, Option.isSome_none, Option.isNone_some, Option.isSome_some, Bool.and_true, Bool.true_and, Bool.and_false, Bool.false_and, not_true_eq_false, not_false_eq_true, or_true, true_or, false_or, or_false, hget0, hgetK, hset0, hsetK, splice_single, splice_whole, take_whole, List.getElem?_nil, List.length_append, List.append_assoc, hxc, hyc, w1, w2, e1, e2, e3, e4, e5, hset, ns_len, hlen, hd, Bool.false_or]
  | true => simp only [f1I, fH, a86_l1, envOf, evCode_skip, evCode_exit, evCode_seq, fs_blockS, fs_blockR, fs_blockC, fs_blockK, fs_blockB, evCode_ret, quiet, keep_nil, keep_cons, fs_cond, fs_region, fs_regionQ, quiet2_eq, lastOf_nil, lastOf_cons, List.take_succ_cons, List.take_zero, List.drop_succ_cons, List.drop_zero, Int.reduceBEq, Int.reduceBNe,  fs_nil, fs_guard, fs_move, fs_pick, fs_alloc, fs_box, fs_load, fs_store, fs_bin, fs_eqv, fs_isNil, fs_un, fs_conv, fs_convStr, fs_field, fs_index, fs_indexStr, fs_build, fs_buildSlice, fs_fieldAddr, fs_indexAddr, fs_indexSl, fs_sliceArr, fs_sliceSl, fs_sliceStr, fs_makeSlice, fs_extract, fs_mkIface, fs_mkFunc, fs_nilCheck, fs_s2ap, fs_len, fs_minmax, fs_s2b, fs_b2s, fs_append, fs_copy, fs_callW, fs_callR, fs_callv, opd_tmp, opd_const, opd_func, opds_nil, opds_cons, opdOpt_none, opdOpt_some, opdParts_nil, opdParts_cons, get_miss, vPick_t, vPick_f, vEq_agg, vEq_aggN, vEq_bool, vEq_boolN, vConv_int, vStr_s, vField_agg, vIndex_agg, vIndexStr_s, vFieldAddr_p, vIndexAddr_p, vIndexSl_s, vSliceArr_p, vSliceSl_s, vSliceSl_n, vSliceStr_s, vExtract_t, vNilCheck_p, vS2ap_s, vLen_s, vLen_str, vMin_i, vMax_i, vLoad_p, vStore_p, baseP_p, vB2s_s, vMake_i, vS2b_s, callee_f, liveAt_eq, storeAt_eq, partL_none, partL_some, natIn_none, natIn_int, bounds3_two, bin_add, bin_sub, bin_mul, bin_quo, bin_rem, bin_and, bin_or, bin_xor, bin_andNot, bin_eql, bin_neq, bin_lss, bin_leq, bin_gtr, bin_geq, bin_shl, bin_shr, bin_sadd, bin_seql, bin_sneq, un_not, un_neg, un_xor, after_some, put_some, put_none, res_nil, res_val, res_var, packed_one, packed_two, merge_nil, merge_ge, rf_tup2, rfIn_int, rfIn_bool, rfIn_u8s, rf_str, rfIn_str, ↓gate_true, gd_bool, gd_ut, gd_uf, ↓guardW_tt, ↓guardW_ff, ↓guardW_tf, ↓guardW_ft, ↓keepW_some, ↓qElseW_some, ↓get_hit, ↓Option.bind_some, ↓if_true, ↓if_false, List.nil_append, List.cons_append, List.all_nil, List.all_cons, List.isEmpty_nil, reduceCtorEq, Bool.false_eq_true, Nat.reduceEqDiff, beq_self_eq_true, bne_self_eq_false, Bool.not_true, Bool.not_false, Int.natCast_nonneg, Nat.lt_irrefl, false_and, Int.reduceEq, rf_int, rf_bool, rf_tuple_ints, rf_u8s, arr_list, toList2, Bool.and_self, Nat.not_lt_zero, Nat.sub_zero, Nat.zero_le, Nat.le_add_right, cells_agg, cells_agg_size, cells_int, cells_int_size, okV_int, okV_bool, okV_str, okV_agg, okV_ptr, okV_slice, okV_func, okV_nilFunc, okV_iface, okV_nilIface, cells_bool, cells_bool_size, cells_ptr, cells_ptr_size, cells_slice, cells_slice_size, cells_str, cells_str_size, eq_self, wrapI64_small, Int.natCast_zero, Int.natCast_one, Int.cast_ofNat_Int, List.length_nil, List.length_cons, List.getElem?_cons_zero, List.getElem?_cons_succ, List.set_cons_zero, List.set_cons_succ, Nat.zero_add, Nat.add_zero, Nat.mul_one, Nat.zero_mul, Int.toNat_natCast, Int.toNat_zero, Int.lt_irrefl, Int.le_refl, Nat.le_refl, and_self, true_and, and_true, decide_true, decide_false, Int.reduceLE, Int.reduceLT, Int.reduceAdd, Int.reduceMul, Int.reduceSub, Int.reduceTDiv, Int.reduceTMod, Int.reduceNeg, Int.reduceToNat, Int.reduceGT, Int.reduceGE, Int.reducePow, Nat.reduceAdd, Nat.reduceMul, Nat.reduceSub, Nat.reduceDiv, Nat.reduceMod, Nat.reducePow, Nat.reduceLT, Nat.reduceLeDiff, Nat.min_self, ge_iff_le, gt_iff_lt, Option.isNone_none, Option.isSome_none, Option.isNone_some, Option.isSome_some, Bool.and_true, Bool.true_and, Bool.and_false, Bool.false_and, not_true_eq_false, not_false_eq_true, or_true, true_or, false_or, or_false, hget0, hgetK, hset0, hsetK, splice_single, splice_whole, take_whole, List.getElem?_nil, List.length_append, List.append_assoc, hxc, hyc, w1, w2, e1, e2, e3, e4, e5, hset, ns_len, hlen, hd, Bool.true_or]
theorem f1_block {d : List Nat} {l : List Ob} (hd : d.length = 32) :
    evCode T 0 (.block 4 (.loop a86_l1)) (f1I d zero16 l false 0 []) = some (.normal, f1I d (d.take 16) l (anyNZ (d.drop 16)) 16 [(27, .bool false)]) := by
  have hL : (d.take 16).length = 16 := by simp; omega
  have hb := block_loop (T := T) (base := 0) (id := 4) (body := a86_l1) (fun i => f1I d (pf 16 (d.take 16) i) l (anyNZ ((d.drop 16).take i)) i []) (s' := f1I d (d.take 16) l (anyNZ (d.drop 16)) 16 [(27, .bool false)]) 16
    (fun i hi => f1_body hd hi rfl) (by
      rw [pf_full hL, List.take_of_length_le (l := d.drop 16) (by simp; omega)]
      simp only [f1I, a86_l1, envOf, evCode_skip, evCode_exit, evCode_seq, fs_blockS, fs_blockR, fs_blockC, fs_blockK, fs_blockB, evCode_ret, quiet, keep_nil, keep_cons, fs_cond, fs_region, fs_regionQ, quiet2_eq, lastOf_nil, lastOf_cons, List.take_succ_cons, List.take_zero, List.drop_succ_cons, List.drop_zero, Int.reduceBEq, Int.reduceBNe,  fs_nil, fs_guard, fs_move, fs_pick, fs_alloc, fs_box, fs_load, fs_store, fs_bin, fs_eqv, fs_isNil, fs_un, fs_conv, fs_convStr, fs_field, fs_index, fs_indexStr, fs_build, fs_buildSlice, fs_fieldAddr, fs_indexAddr, fs_indexSl, fs_sliceArr, fs_sliceSl, fs_sliceStr, fs_makeSlice, fs_extract, fs_mkIface, fs_mkFunc, fs_nilCheck, fs_s2ap, fs_len, fs_minmax, fs_s2b, fs_b2s, fs_append, fs_copy, fs_callW, fs_callR, fs_callv, opd_tmp, opd_const, opd_func, opds_nil, opds_cons, opdOpt_none, opdOpt_some, opdParts_nil, opdParts_cons, get_miss, vPick_t, vPick_f, vEq_agg, vEq_aggN, vEq_bool, vEq_boolN, vConv_int, vStr_s, vField_agg, vIndex_agg, vIndexStr_s, vFieldAddr_p, vIndexAddr_p, vIndexSl_s, vSliceArr_p, vSliceSl_s, vSliceSl_n, vSliceStr_s, vExtract_t, vNilCheck_p, vS2ap_s, vLen_s, vLen_str, vMin_i, vMax_i, vLoad_p, vStore_p, baseP_p, vB2s_s, vMake_i, vS2b_s, callee_f, liveAt_eq, storeAt_eq, partL_none, partL_some, natIn_none, natIn_int, bounds3_two, bin_add, bin_sub, bin_mul, bin_quo, bin_rem, bin_and, bin_or, bin_xor, bin_andNot, bin_eql, bin_neq, bin_lss, bin_leq, bin_gtr, bin_geq, bin_shl, bin_shr, bin_sadd, bin_seql, bin_sneq, un_not, un_neg, un_xor, after_some, put_some, put_none, res_nil, res_val, res_var, packed_one, packed_two, merge_nil, merge_ge, rf_tup2, rfIn_int, rfIn_bool, rfIn_u8s, rf_str, rfIn_str, ↓gate_true, gd_bool, gd_ut, gd_uf, ↓guardV_tt, ↓guardV_ff, ↓guardV_tf, ↓guardV_ft, ↓keepV_some, ↓qElse_some, ↓get_hit, ↓Option.bind_some, ↓if_true, ↓if_false, List.nil_append, List.cons_append, List.all_nil, List.all_cons, List.isEmpty_nil, reduceCtorEq, Bool.false_eq_true, Nat.reduceEqDiff, beq_self_eq_true, bne_self_eq_false, Bool.not_true, Bool.not_false, Int.natCast_nonneg, Nat.lt_irrefl, false_and, Int.reduceEq, rf_int, rf_bool, rf_tuple_ints, rf_u8s, arr_list, toList2, Bool.and_self, Nat.not_lt_zero, Nat.sub_zero, Nat.zero_le, Nat.le_add_right, cells_agg, cells_agg_size, cells_int, cells_int_size, okV_int, okV_bool, okV_str, okV_agg, okV_ptr, okV_slice, okV_func, okV_nilFunc, okV_iface, okV_nilIface, cells_bool, cells_bool_size, cells_ptr, cells_ptr_size, cells_slice, cells_slice_size, cells_str, cells_str_size, eq_self, wrapI64_small, Int.natCast_zero, Int.natCast_one, Int.cast_ofNat_Int, List.length_nil, List.length_cons, List.getElem?_cons_zero, List.getElem?_cons_succ, List.set_cons_zero, List.set_cons_succ, Nat.zero_add, Nat.add_zero, Nat.mul_one, Nat.zero_mul, Int.toNat_natCast, Int.toNat_zero, Int.lt_irrefl, Int.le_refl, Nat.le_refl, and_self, true_and, and_true, decide_true, decide_false, Int.reduceLE, Int.reduceLT, Int.reduceAdd, Int.reduceMul, Int.reduceSub, Int.reduceTDiv, Int.reduceTMod, Int.reduceNeg, Int.reduceToNat, Int.reduceGT, Int.reduceGE, Int.reducePow, Nat.reduceAdd, Nat.reduceMul, Nat.reduceSub, Nat.reduceDiv, Nat.reduceMod, Nat.reducePow, Nat.reduceLT, Nat.reduceLeDiff, Nat.min_self, ge_iff_le, gt_iff_lt, Option.isNone_none, Option.isSome_none, Option.isNone_some, Option.isSome_some, Bool.and_true, Bool.true_and, Bool.and_false, Bool.false_and, not_true_eq_false, not_false_eq_true, or_true, true_or, false_or, or_false])
  rw [pf_zero] at hb
  exact hb
def f0I (d : List Nat) (l : List Ob) (i : Int) (ex : Env) : St := ⟨[(1, .pointer (some ⟨0, 0, none⟩)), (2, .pointer (some ⟨1, 0, none⟩)), (9, .int .i64 i)] ++ ex, fH d l, []⟩
theorem f0_block {d : List Nat} {l : List Ob} (hd : d.length = 32) (hM : ∀ x ∈ d, x < 65536) :
    ∃ o, evCode T 0 (.block 6 (.loop a86_l0)) (f0I d l 0 []) = some (.normal, f0I o l 16 [(47, .bool false)]) ∧ o.length = 32 ∧ (∀ x ∈ o, x < 2 ^ 44) ∧ num 65536 o + 65536 ^ 16 * num 65536 (d.drop 16) = num 65536 d + 38 * num 65536 (d.drop 16) := by
  obtain ⟨st, hl, o, rfl, h1, h2, h3⟩ := block_inv (T := T) (base := 0) (id := 6) (body := a86_l0)
    (fun i st => ∃ o : List Nat, st = f0I o l i [] ∧ o.length = 32 ∧ (∀ x ∈ o, x < 2 ^ 44) ∧ (∀ j, i ≤ j → j < 16 → o[j]? = d[j]? ∧ o[j + 16]? = d[j + 16]?) ∧ num 65536 o + 65536 ^ 16 * num 65536 ((d.drop 16).take i) = num 65536 d + 38 * num 65536 ((d.drop 16).take i))
    (Q := fun st => ∃ o : List Nat, st = f0I o l 16 [(47, .bool false)] ∧ o.length = 32 ∧ (∀ x ∈ o, x < 2 ^ 44) ∧ num 65536 o + 65536 ^ 16 * num 65536 (d.drop 16) = num 65536 d + 38 * num 65536 (d.drop 16))
    16 (s := f0I d l 0 []) ⟨d, rfl, hd, fun x hx => Nat.lt_trans (hM x hx) (by decide), fun _ _ _ => ⟨rfl, rfl⟩, by simp [num]⟩
    (fun i st hi hs => by
      obtain ⟨o, rfl, h1, h2, h3, h4⟩ := hs
      obtain ⟨x, hx⟩ : ∃ x, d[i]? = some x := ⟨_, List.getElem?_eq_getElem (by omega)⟩
      obtain ⟨y, hy⟩ : ∃ y, d[i + 16]? = some y := ⟨_, List.getElem?_eq_getElem (by omega)⟩
      have hx' := hM x (List.mem_of_getElem? hx)
      have hy' := hM y (List.mem_of_getElem? hy)
      obtain ⟨ox, oy⟩ := h3 i (Nat.le_refl _) hi
      rw [hx] at ox
      rw [hy] at oy
      have oy' : (o.set i (x + 38 * y))[i + 16]? = some y := by rw [List.getElem?_set_ne (by omega)]; exact oy
      have n1 := num_set (B := 65536) (x + 38 * y) ox
      have n2 := num_set (B := 65536) 0 oy'
      have s1 := ns_set .u64 o i (x + 38 * y)
      have s2 : (ns .u64 (o.set i (x + 38 * y))).set (i + 16) (.int .u64 0) = ns .u64 ((o.set i (x + 38 * y)).set (i + 16) 0) := ns_set .u64 (o.set i (x + 38 * y)) (i + 16) 0
      have l2 : (o.set i (x + 38 * y)).length = 32 := by rw [List.length_set]; exact h1
      have hxc := ns_get (k := .u64) ox
      have hyc := ns_get (k := .u64) oy
      have hy2 : (d.drop 16)[i]? = some y := by rw [List.getElem?_drop, Nat.add_comm]; exact hy
      have w1 : IntKind.i64.wrap ((i : Int) + 1) = ((i + 1 : Nat) : Int) := wi_add (b := 1) (by omega)
      have w2 : IntKind.i64.wrap ((i : Int) + 16) = ((i + 16 : Nat) : Int) := wi_add (b := 16) (by omega)
      have w3 : IntKind.u64.wrap (38 * (y : Int)) = ((38 * y : Nat) : Int) := w64_mul (a := 38) (by omega)
      have w4 : IntKind.u64.wrap ((x : Int) + ((38 * y : Nat) : Int)) = ((x + 38 * y : Nat) : Int) := w64_add (by omega)
      have e1 : ((i : Int) < 16) = True := eq_true (by omega)
      have e2 : ((i : Int) < 32) = True := eq_true (by omega)
      have e3 : (((i + 16 : Nat) : Int) < 32) = True := eq_true (by omega)
      have e4 : (i ≤ 31) = True := eq_true (by omega)
      have e5 : (i + 16 ≤ 31) = True := eq_true (by omega)
      refine ⟨f0I ((o.set i (x + 38 * y)).set (i + 16) 0) l ((i + 1 : Nat) : Int) [], ?_, _, rfl, by rw [List.length_set]; exact l2, ?_, ?_, ?_⟩
      · generalize (o.set i (x + 38 * y)).set (i + 16) 0 = O2 at *
        generalize o.set i (x + 38 * y) = O1 at *
        generalize hj : i + 16 = j at *
        generalize x + 38 * y = v at *
        generalize 38 * y = u at *
        generalize i + 1 = i1 at *
        simp only [f0I, fH, a86_l0, envOf, evCode_skip, evCode_exit, evCode_seq, fs_blockS, fs_blockR, fs_blockC, fs_blockK, fs_blockB, evCode_ret, quiet, keep_nil, keep_cons, fs_cond, fs_region, fs_regionQ, quiet2_eq, lastOf_nil, lastOf_cons, List.take_succ_cons, List.take_zero, List.drop_succ_cons, List.drop_zero, Int.reduceBEq, Int.reduceBNe,  fs_nil, fs_guard, fs_move, fs_pick, fs_alloc, fs_box, fs_load, fs_store, fs_bin, fs_eqv, fs_isNil, fs_un, fs_conv, fs_convStr, fs_field, fs_index, fs_indexStr, fs_build, fs_buildSlice, fs_fieldAddr, fs_indexAddr, fs_indexSl, fs_sliceArr, fs_sliceSl, fs_sliceStr, fs_makeSlice, fs_extract, fs_mkIface, fs_mkFunc, fs_nilCheck, fs_s2ap, fs_len, fs_minmax, fs_s2b, fs_b2s, fs_append, fs_copy, fs_callW, fs_callR, fs_callv, opd_tmp, opd_const, opd_func, opds_nil, opds_cons, opdOpt_none, opdOpt_some, opdParts_nil, opdParts_cons, get_miss, vPick_t, vPick_f, vEq_agg, vEq_aggN, vEq_bool, vEq_boolN, vConv_int, vStr_s, vField_agg, vIndex_agg, vIndexStr_s, vFieldAddr_p, vIndexAddr_p, vIndexSl_s, vSliceArr_p, vSliceSl_s, vSliceSl_n, vSliceStr_s, vExtract_t, vNilCheck_p, vS2ap_s, vLen_s, vLen_str, vMin_i, vMax_i, vLoad_p, vStore_p, baseP_p, vB2s_s, vMake_i, vS2b_s, callee_f, liveAt_eq, storeAt_eq, partL_none, partL_some, natIn_none, natIn_int, bounds3_two, bin_add, bin_sub, bin_mul, bin_quo, bin_rem, bin_and, bin_or, bin_xor, bin_andNot, bin_eql, bin_neq, bin_lss, bin_leq, bin_gtr, bin_geq, bin_shl, bin_shr, bin_sadd, bin_seql, bin_sneq, un_not, un_neg, un_xor, after_some, put_some, put_none, res_nil, res_val, res_var, packed_one, packed_two, merge_nil, merge_ge, rf_tup2, rfIn_int, rfIn_bool, rfIn_u8s, rf_str, rfIn_str, ↓gate_true, gd_bool, gd_ut, gd_uf, ↓guardV_tt, ↓guardV_ff, ↓guardV_tf, ↓guardV_ft, ↓keepV_some, ↓qElse_some, ↓get_hit, ↓Option.bind_some, ↓if_true, ↓if_false, List.nil_append, List.cons_append, List.all_nil, List.all_cons, List.isEmpty_nil, reduceCtorEq, Bool.false_eq_true, Nat.reduceEqDiff, beq_self_eq_true, bne_self_eq_false, Bool.not_true, Bool.not_false, Int.natCast_nonneg, Nat.lt_irrefl, false_and, Int.reduceEq, rf_int, rf_bool, rf_tuple_ints, rf_u8s, arr_list, toList2, Bool.and_self, Nat.not_lt_zero, Nat.sub_zero, Nat.zero_le, Nat.le_add_right, cells_agg, cells_agg_size, cells_int, cells_int_size, okV_int, okV_bool, okV_str, okV_agg, okV_ptr, okV_slice, okV_func, okV_nilFunc, okV_iface, okV_nilIface, cells_bool, cells_bool_size, cells_ptr, cells_ptr_size, cells_slice, cells_slice_size, cells_str, cells_str_size, eq_self, wrapI64_small, Int.natCast_zero, Int.natCast_one, Int.cast_ofNat_Int, List.length_nil, List.length_cons, List.getElem?_cons_zero, List.getElem?_cons_succ, List.set_cons_zero, List.set_cons_succ, Nat.zero_add, Nat.add_zero, Nat.mul_one, Nat.zero_mul, Int.toNat_natCast, Int.toNat_zero, Int.lt_irrefl, Int.le_refl, Nat.le_refl, and_self, true_and, and_true, decide_true, decide_false, Int.reduceLE, Int.reduceLT, Int.reduceAdd, Int.reduceMul, Int.reduceSub, Int.reduceTDiv, Int.reduceTMod, Int.reduceNeg, Int.reduceToNat, Int.reduceGT, Int.reduceGE, Int.reducePow, Nat.reduceAdd, Nat.reduceMul, Nat.reduceSub, Nat.reduceDiv, Nat.reduceMod, Nat.reducePow, Nat.reduceLT, Nat.reduceLeDiff, Nat.min_self, ge_iff_le, gt_iff_lt, Option.isNone_none, Option.isSome_none, Option.isNone_some, Option.isSome_some, Bool.and_true, Bool.true_and, Bool.and_false, Bool.false_and, not_true_eq_false, not_false_eq_true, or_true, true_or, false_or, or_false, hget0, hgetK, hset0, hsetK, splice_single, splice_whole, take_whole, List.getElem?_nil, List.length_append, List.append_assoc, hxc, hyc, w1, w2, w3, w4, e1, e2, e3, e4, e5, s1, s2, ns_len, h1, l2]
      · exact set_lt (set_lt h2 (by omega)) (by decide)
      · intro j hj hj'
        obtain ⟨g1, g2⟩ := h3 j (by omega) hj'
        rw [List.getElem?_set_ne (by omega), List.getElem?_set_ne (by omega), List.getElem?_set_ne (by omega), List.getElem?_set_ne (by omega)]
        exact ⟨g1, g2⟩
      · rw [num_take hy2]
        rw [Nat.pow_add] at n2
        generalize num 65536 ((o.set i (x + 38 * y)).set (i + 16) 0) = N2 at *
        generalize num 65536 (o.set i (x + 38 * y)) = N1 at *
        generalize num 65536 (List.take i (List.drop 16 d)) = S at *
        generalize (65536 : Nat) ^ i = p at *
        have e16 : (65536 : Nat) ^ 16 = 115792089237316195423570985008687907853269984665640564039457584007913129639936 := by decide
        rw [e16] at *
        rw [Nat.add_mul, Nat.mul_assoc] at n1
        rw [← Nat.mul_assoc] at n2
        rw [Nat.mul_add, Nat.mul_add]
        generalize y * p = yp at *
        omega)
    (fun st hs => by
      obtain ⟨o, rfl, h1, h2, h3, h4⟩ := hs
      rw [List.take_of_length_le (by simp; omega)] at h4
      refine ⟨_, ?_, o, rfl, h1, h2, h4⟩
      simp only [f0I, fH, a86_l0, envOf, evCode_skip, evCode_exit, evCode_seq, fs_blockS, fs_blockR, fs_blockC, fs_blockK, fs_blockB, evCode_ret, quiet, keep_nil, keep_cons, fs_cond, fs_region, fs_regionQ, quiet2_eq, lastOf_nil, lastOf_cons, List.take_succ_cons, List.take_zero, List.drop_succ_cons, List.drop_zero, Int.reduceBEq, Int.reduceBNe,  fs_nil, fs_guard, fs_move, fs_pick, fs_alloc, fs_box, fs_load, fs_store, fs_bin, fs_eqv, fs_isNil, fs_un, fs_conv, fs_convStr, fs_field, fs_index, fs_indexStr, fs_build, fs_buildSlice, fs_fieldAddr, fs_indexAddr, fs_indexSl, fs_sliceArr, fs_sliceSl, fs_sliceStr, fs_makeSlice, fs_extract, fs_mkIface, fs_mkFunc, fs_nilCheck, fs_s2ap, fs_len, fs_minmax, fs_s2b, fs_b2s, fs_append, fs_copy, fs_callW, fs_callR, fs_callv, opd_tmp, opd_const, opd_func, opds_nil, opds_cons, opdOpt_none, opdOpt_some, opdParts_nil, opdParts_cons, get_miss, vPick_t, vPick_f, vEq_agg, vEq_aggN, vEq_bool, vEq_boolN, vConv_int, vStr_s, vField_agg, vIndex_agg, vIndexStr_s, vFieldAddr_p, vIndexAddr_p, vIndexSl_s, vSliceArr_p, vSliceSl_s, vSliceSl_n, vSliceStr_s, vExtract_t, vNilCheck_p, vS2ap_s, vLen_s, vLen_str, vMin_i, vMax_i, vLoad_p, vStore_p, baseP_p, vB2s_s, vMake_i, vS2b_s, callee_f, liveAt_eq, storeAt_eq, partL_none, partL_some, natIn_none, natIn_int, bounds3_two, bin_add, bin_sub, bin_mul, bin_quo, bin_rem, bin_and, bin_or, bin_xor, bin_andNot, bin_eql, bin_neq, bin_lss, bin_leq, bin_gtr, bin_geq, bin_shl, bin_shr, bin_sadd, bin_seql, bin_sneq, un_not, un_neg, un_xor, after_some, put_some, put_none, res_nil, res_val, res_var, packed_one, packed_two, merge_nil, merge_ge, rf_tup2, rfIn_int, rfIn_bool, rfIn_u8s, rf_str, rfIn_str, ↓gate_true, gd_bool, gd_ut, gd_uf, ↓guardV_tt, ↓guardV_ff, ↓guardV_tf, ↓guardV_ft, ↓keepV_some, ↓qElse_some, ↓get_hit, ↓Option.bind_some, ↓if_true, ↓if_false, List.nil_append, List.cons_append, List.all_nil, List.all_cons, List.isEmpty_nil, reduceCtorEq, Bool.false_eq_true, Nat.reduceEqDiff, beq_self_eq_true, bne_self_eq_false, Bool.not_true, Bool.not_false, Int.natCast_nonneg, Nat.lt_irrefl, false_and, Int.reduceEq, rf_int, rf_bool, rf_tuple_ints, rf_u8s, arr_list, toList2, Bool.and_self, Nat.not_lt_zero, Nat.sub_zero, Nat.zero_le, Nat.le_add_right, cells_agg, cells_agg_size, cells_int, cells_int_size, okV_int, okV_bool, okV_str, okV_agg, okV_ptr, okV_slice, okV_func, okV_nilFunc, okV_iface, okV_nilIface, cells_bool, cells_bool_size, cells_ptr, cells_ptr_size, cells_slice, cells_slice_size, cells_str, cells_str_size, eq_self, wrapI64_small, Int.natCast_zero, Int.natCast_one, Int.cast_ofNat_Int, List.length_nil, List.length_cons, List.getElem?_cons_zero, List.getElem?_cons_succ, List.set_cons_zero, List.set_cons_succ, Nat.zero_add, Nat.add_zero, Nat.mul_one, Nat.zero_mul, Int.toNat_natCast, Int.toNat_zero, Int.lt_irrefl, Int.le_refl, Nat.le_refl, and_self, true_and, and_true, decide_true, decide_false, Int.reduceLE, Int.reduceLT, Int.reduceAdd, Int.reduceMul, Int.reduceSub, Int.reduceTDiv, Int.reduceTMod, Int.reduceNeg, Int.reduceToNat, Int.reduceGT, Int.reduceGE, Int.reducePow, Nat.reduceAdd, Nat.reduceMul, Nat.reduceSub, Nat.reduceDiv, Nat.reduceMod, Nat.reducePow, Nat.reduceLT, Nat.reduceLeDiff, Nat.min_self, ge_iff_le, gt_iff_lt, Option.isNone_none, Option.isSome_none, Option.isNone_some, Option.isSome_some, Bool.and_true, Bool.true_and, Bool.and_false, Bool.false_and, not_true_eq_false, not_false_eq_true, or_true, true_or, false_or, or_false])
  exact ⟨o, hl, h1, h2, h3⟩
end Go.Ev.Ytaceeoghjgggjaa
set_option linter.unusedSimpArgs false
set_option linter.unusedVariables false
namespace Go.Ev.Ytaceeoghjgggjaa
open Go Go.Ev
attribute [local congr] bind_congr2 ite_congr2 qElse_congr gate_congr guardV_congr
set_option maxRecDepth 100000
def f3I (d : List Nat) (l : List Ob) (ex : Env) : St := ⟨[(1, .pointer (some ⟨0, 0, none⟩)), (2, .pointer (some ⟨1, 0, none⟩))] ++ ex, fH d l, []⟩
theorem all_zero_num : ∀ {l : List Nat}, anyNZ l = false → num 65536 l = 0
  | [], _ => rfl
  | x :: l, h => by
    have h' : ((x :: l).all (· == 0)) = true := by simpa [anyNZ] using h
    rw [List.all_cons, Bool.and_eq_true] at h'
    have hx : x = 0 := by simpa using h'.1
    have ih := all_zero_num (l := l) (by unfold anyNZ; rw [h'.2]; rfl)
    rw [num, ih, hx]
theorem nz_num : ∀ {l : List Nat}, anyNZ l = true → 0 < num 65536 l
  | [], h => by cases h
  | x :: l, h => by
    rw [num]
    by_cases hx : x = 0
    · have := nz_num (l := l) (by
        subst hx
        simpa [anyNZ] using h)
      omega
    · omega
theorem fold_mod {V W H : Nat} (h : W + 65536 ^ 16 * H = V + 38 * H) : Go.Fp.fp W = Go.Fp.fp V := by
  have h1 := congrArg Go.Fp.fp h
  rw [Go.Fp.fp_add, Go.Fp.fp_add, Go.Fp.fp_mul, Go.Fp.fp_mul] at h1
  have h2 : Go.Fp.fp (65536 ^ 16) = Go.Fp.fp 38 := by decide +kernel
  rw [h2] at h1
  generalize Go.Fp.fp W = a at *
  generalize Go.Fp.fp V = b at *
  generalize Go.Fp.fp 38 * Go.Fp.fp H = c at *
  clear h h2
  grobner
theorem rfold_loop : ∀ (v : Nat) (d : List Nat) (l : List Ob) (ex : Env), num 65536 d = v → d.length = 32 → (∀ x ∈ d, x < 2 ^ 44) → v < 65536 ^ 32 →
    ∃ r d' l', evCode T 0 (.loop a86_l3) (f3I d l ex) = some (.ret, ⟨[(2, .pointer (some ⟨1, 0, none⟩))], ⟨ns .u64 d', true, true, true, 1⟩ :: ⟨ns .u64 r, true, true, true, 1⟩ :: l', []⟩) ∧ Nm r ∧ nf r = Go.Fp.fp v := by
  intro v
  induction v using Nat.strongRecOn with
  | ind v ih =>
    intro d l ex hv hd hM hN
    obtain ⟨o, c, h2, lo, xo, no⟩ := f2_block (l := l) hd hM (by rw [hv]; exact hN)
    have h1 := f1_block (d := o) (l := l) lo
    simp only [f2I, f1I, fH, List.cons_append, List.nil_append, Int.natCast_zero] at h2 h1
    have hz := z16_eq
    have lz := z16_len
    have hf := z16_fill
    by_cases hnz : anyNZ (o.drop 16) = true
    · rw [hnz] at h1
      obtain ⟨o2, h0, lo2, xo2, no2⟩ := f0_block (l := l ++ [⟨ns .u64 (o.take 16), true, true, true, 1⟩]) lo xo
      simp only [f0I, fH, List.cons_append, List.nil_append, Int.natCast_zero] at h0
      have hpos := nz_num hnz
      rw [no, hv] at no2
      have hlt : num 65536 o2 < v := by
        have e16 : (65536 : Nat) ^ 16 = 115792089237316195423570985008687907853269984665640564039457584007913129639936 := by decide
        rw [e16] at no2
        omega
      obtain ⟨r, d', l', hr, hr1, hr2⟩   := ih _ hlt o2 (l ++ [⟨ns .u64 (o.take 16), true, true, true, 1⟩]) [(9, .int .i64 16), (47, .bool false)] rfl lo2 xo2 (Nat.lt_trans hlt hN)
      refine ⟨r, d', l', ?_, hr1, by rw [hr2]; exact fold_mod no2⟩
      rw [← hr, evCode_loop]
      simp only [f3I, fH, List.cons_append, List.nil_append]
      generalize zero16 = Z at *
      simp only [f3I, fH, a86_l3, envOf, evCode_skip, evCode_exit, evCode_seq, fs_blockS, fs_blockR, fs_blockC, fs_blockK, fs_blockB, evCode_ret, quiet, keep_nil, keep_cons, fs_cond, fs_region, fs_regionQ, quiet2_eq, lastOf_nil, lastOf_cons, List.take_succ_cons, List.take_zero, List.drop_succ_cons, List.drop_zero, Int.reduceBEq, Int.reduceBNe,  fs_nil, fs_guard, fs_move, fs_pick, fs_alloc, fs_box, fs_load, fs_store, fs_bin, fs_eqv, fs_isNil, fs_un, fs_conv, fs_convStr, fs_field, fs_index, fs_indexStr, fs_build, fs_buildSlice, fs_fieldAddr, fs_indexAddr, fs_indexSl, fs_sliceArr, fs_sliceSl, fs_sliceStr, fs_makeSlice, fs_extract, fs_mkIface, fs_mkFunc, fs_nilCheck, fs_s2ap, fs_len, fs_minmax, fs_s2b, fs_b2s, fs_append, fs_copy, fs_callW, fs_callR, fs_callv, opd_tmp, opd_const, opd_func, opds_nil, opds_cons, opdOpt_none, opdOpt_some, opdParts_nil, opdParts_cons, get_miss, vPick_t, vPick_f, vEq_agg, vEq_aggN, vEq_bool, vEq_boolN, vConv_int, vStr_s, vField_agg, vIndex_agg, vIndexStr_s, vFieldAddr_p, vIndexAddr_p, vIndexSl_s, vSliceArr_p, vSliceSl_s, vSliceSl_n, vSliceStr_s, vExtract_t, vNilCheck_p, vS2ap_s, vLen_s, vLen_str, vMin_i, vMax_i, vLoad_p, vStore_p, baseP_p, vB2s_s, vMake_i, vS2b_s, callee_f, liveAt_eq, storeAt_eq, partL_none, partL_some, natIn_none, natIn_int, bounds3_two, bin_add, bin_sub, bin_mul, bin_quo, bin_rem, bin_and, bin_or, bin_xor, bin_andNot, bin_eql, bin_neq, bin_lss, bin_leq, bin_gtr, bin_geq, bin_shl, bin_shr, bin_sadd, bin_seql, bin_sneq, un_not, un_neg, un_xor, after_some, put_some, put_none, res_nil, res_val, res_var, packed_one, packed_two, merge_nil, merge_ge, rf_tup2, rfIn_int, rfIn_bool, rfIn_u8s, rf_str, rfIn_str, ↓gate_true, gd_bool, gd_ut, gd_uf, ↓guardW_tt, ↓guardW_ff, ↓guardW_tf, ↓guardW_ft, ↓keepW_some, ↓qElseW_some, ↓get_hit, ↓Option.bind_some, ↓if_true, ↓if_false, List.nil_append, List.cons_append, List.all_nil, List.all_cons, List.isEmpty_nil, reduceCtorEq, Bool.false_eq_true, Nat.reduceEqDiff, beq_self_eq_true, bne_self_eq_false, Bool.not_true, Bool.not_false, Int.natCast_nonneg, Nat.lt_irrefl, false_and, Int.reduceEq, rf_int, rf_bool, rf_tuple_ints, rf_u8s, arr_list, toList2, Bool.and_self, Nat.not_lt_zero, Nat.sub_zero, Nat.zero_le, Nat.le_add_right, cells_agg, cells_agg_size, cells_int, cells_int_size, okV_int, okV_bool, okV_str, okV_agg, okV_ptr, okV_slice, okV_func, okV_nilFunc, okV_iface, okV_nilIface, cells_bool, cells_bool_size, cells_ptr, cells_ptr_size, cells_slice, cells_slice_size, cells_str, cells_str_size, eq_self, wrapI64_small, Int.natCast_zero, Int.natCast_one, Int.cast_ofNat_Int, List.length_nil, List.length_cons, List.getElem?_cons_zero, List.getElem?_cons_succ, List.set_cons_zero, List.set_cons_succ, Nat.zero_add, Nat.add_zero, Nat.mul_one, Nat.zero_mul, Int.toNat_natCast, Int.toNat_zero, Int.lt_irrefl, Int.le_refl, Nat.le_refl, and_self, true_and, and_true, decide_true, decide_false, Int.reduceLE, Int.reduceLT, Int.reduceAdd, Int.reduceMul, Int.reduceSub, Int.reduceTDiv, Int.reduceTMod, Int.reduceNeg, Int.reduceToNat, Int.reduceGT, Int.reduceGE, Int.reducePow, Nat.reduceAdd, Nat.reduceMul, Nat.reduceSub, Nat.reduceDiv, Nat.reduceMod, Nat.reducePow, Nat.reduceLT, Nat.reduceLeDiff, Nat.min_self, ge_iff_le, gt_iff_lt, Option.isNone_none, Option.isSome_none, Option.isNone_some, Option.isSome_some, Bool.and_true, Bool.true_and, Bool.and_false, Bool.false_and, not_true_eq_false, not_false_eq_true, or_true, true_or, false_or, or_false, hget0, hgetK, hset0, hsetK, splice_single, splice_whole, take_whole, List.getElem?_nil, List.length_append, List.append_assoc, hz, hf, h2, h1, h0, List.length_replicate, ns_len, lz, take_all, eV_cells, eV_size, eV_ok, eV_fold, rf_eV]
    · have hnz' : anyNZ (o.drop 16) = false := by simpa using hnz
      rw [hnz'] at h1
      have hn0 := all_zero_num hnz'
      have hnum : num 65536 (o.take 16) = v := by
        have := num_append 65536 (o.take 16) (o.drop 16)
        rw [List.take_append_drop, hn0, no, hv] at this
        omega
      have lt : (o.take 16).length = 16 := by simp; omega
      refine ⟨o.take 16, o, l ++ [⟨ns .u64 (o.take 16), true, true, true, 1⟩], ?_, ⟨lt, fun x hx => xo x (List.mem_of_mem_take hx)⟩, by unfold nf; rw [hnum]⟩
      rw [evCode_loop]
      simp only [f3I, fH, List.cons_append, List.nil_append]
      generalize List.take 16 o = R at *
      generalize zero16 = Z at *
      simp only [f3I, fH, a86_l3, envOf, evCode_skip, evCode_exit, evCode_seq, fs_blockS, fs_blockR, fs_blockC, fs_blockK, fs_blockB, evCode_ret, quiet, keep_nil, keep_cons, fs_cond, fs_region, fs_regionQ, quiet2_eq, lastOf_nil, lastOf_cons, List.take_succ_cons, List.take_zero, List.drop_succ_cons, List.drop_zero, Int.reduceBEq, Int.reduceBNe,  fs_nil, fs_guard, fs_move, fs_pick, fs_alloc, fs_box, fs_load, fs_store, fs_bin, fs_eqv, fs_isNil, fs_un, fs_conv, fs_convStr, fs_field, fs_index, fs_indexStr, fs_build, fs_buildSlice, fs_fieldAddr, fs_indexAddr, fs_indexSl, fs_sliceArr, fs_sliceSl, fs_sliceStr, fs_makeSlice, fs_extract, fs_mkIface, fs_mkFunc, fs_nilCheck, fs_s2ap, fs_len, fs_minmax, fs_s2b, fs_b2s, fs_append, fs_copy, fs_callW, fs_callR, fs_callv, opd_tmp, opd_const, opd_func, opds_nil, opds_cons, opdOpt_none, opdOpt_some, opdParts_nil, opdParts_cons, get_miss, vPick_t, vPick_f, vEq_agg, vEq_aggN, vEq_bool, vEq_boolN, vConv_int, vStr_s, vField_agg, vIndex_agg, vIndexStr_s, vFieldAddr_p, vIndexAddr_p, vIndexSl_s, vSliceArr_p, vSliceSl_s, vSliceSl_n, vSliceStr_s, vExtract_t, vNilCheck_p, vS2ap_s, vLen_s, vLen_str, vMin_i, vMax_i, vLoad_p, vStore_p, baseP_p, vB2s_s, vMake_i, vS2b_s, callee_f, liveAt_eq, storeAt_eq, partL_none, partL_some, natIn_none, natIn_int, bounds3_two, bin_add, bin_sub, bin_mul, bin_quo, bin_rem, bin_and, bin_or, bin_xor, bin_andNot, bin_eql, bin_neq, bin_lss, bin_leq, bin_gtr, bin_geq, bin_shl, bin_shr, bin_sadd, bin_seql, bin_sneq, un_not, un_neg, un_xor, after_some, put_some, put_none, res_nil, res_val, res_var, packed_one, packed_two, merge_nil, merge_ge, rf_tup2, rfIn_int, rfIn_bool, rfIn_u8s, rf_str, rfIn_str, ↓gate_true, gd_bool, gd_ut, gd_uf, ↓guardW_tt, ↓guardW_ff, ↓guardW_tf, ↓guardW_ft, ↓keepW_some, ↓qElseW_some, ↓get_hit, ↓Option.bind_some, ↓if_true, ↓if_false, List.nil_append, List.cons_append, List.all_nil, List.all_cons, List.isEmpty_nil, reduceCtorEq, Bool.false_eq_true, Nat.reduceEqDiff, beq_self_eq_true, bne_self_eq_false, Bool.not_true, Bool.not_false, Int.natCast_nonneg, Nat.lt_irrefl, false_and, Int.reduceEq, rf_int, rf_bool, rf_tuple_ints, rf_u8s, arr_list, toList2, Bool.and_self, Nat.not_lt_zero, Nat.sub_zero, Nat.zero_le, Nat.le_add_right, cells_agg, cells_agg_size, cells_int, cells_int_size, okV_int, okV_bool, okV_str, okV_agg, okV_ptr, okV_slice, okV_func, okV_nilFunc, okV_iface, okV_nilIface, cells_bool, cells_bool_size, cells_ptr, cells_ptr_size, cells_slice, cells_slice_size, cells_str, cells_str_size, eq_self, wrapI64_small, Int.natCast_zero, Int.natCast_one, Int.cast_ofNat_Int, List.length_nil, List.length_cons, List.getElem?_cons_zero, List.getElem?_cons_succ, List.set_cons_zero, List.set_cons_succ, Nat.zero_add, Nat.add_zero, Nat.mul_one, Nat.zero_mul, Int.toNat_natCast, Int.toNat_zero, Int.lt_irrefl, Int.le_refl, Nat.le_refl, and_self, true_and, and_true, decide_true, decide_false, Int.reduceLE, Int.reduceLT, Int.reduceAdd, Int.reduceMul, Int.reduceSub, Int.reduceTDiv, Int.reduceTMod, Int.reduceNeg, Int.reduceToNat, Int.reduceGT, Int.reduceGE, Int.reducePow, Nat.reduceAdd, Nat.reduceMul, Nat.reduceSub, Nat.reduceDiv, Nat.reduceMod, Nat.reducePow, Nat.reduceLT, Nat.reduceLeDiff, Nat.min_self, ge_iff_le, gt_iff_lt, Option.isNone_none, Option.isSome_none, Option.isNone_some, Option.isSome_some, Bool.and_true, Bool.true_and, Bool.and_false, Bool.false_and, not_true_eq_false, not_false_eq_true, or_true, true_or, false_or, or_false, hget0, hgetK, hset0, hsetK, splice_single, splice_whole, take_whole, List.getElem?_nil, List.length_append, List.append_assoc, hz, hf, h2, h1, List.length_replicate, ns_len, lz, lt, take_all, eV_cells, eV_size, eV_ok, eV_fold, rf_eV]
theorem rfold_v {d : List Nat} (hd : d.length = 32) (hM : ∀ x ∈ d, x < 2 ^ 44) (hN : num 65536 d < 65536 ^ 32) : ∃ r, evVal T 86 [eV d] = some (eV r) ∧ Nm r ∧ nf r = Go.Fp.fp (num 65536 d) := by
  obtain ⟨r, d', l', hr, h1, h2⟩ := rfold_loop _ d [] [] rfl hd hM hN
  refine ⟨r, ?_, h1, h2⟩
  simp only [f3I, fH, List.cons_append, List.nil_append] at hr
  have hz := z16_eq
  have lz := z16_len
  have l1 := h1.len
  generalize zero16 = Z at *
  apply evVal_ex
  apply Exists.intro
  rw [evFun_fn (fn := a86) rfl]
  simp only [a86, ↓steps_chunk, envOf, evCode_skip, evCode_exit, evCode_seq, fs_blockS, fs_blockR, fs_blockC, fs_blockK, fs_blockB, evCode_ret, quiet, keep_nil, keep_cons, fs_cond, fs_region, fs_regionQ, quiet2_eq, lastOf_nil, lastOf_cons, List.take_succ_cons, List.take_zero, List.drop_succ_cons, List.drop_zero, Int.reduceBEq, Int.reduceBNe,  fs_nil, fs_guard, fs_move, fs_pick, fs_alloc, fs_box, fs_load, fs_store, fs_bin, fs_eqv, fs_isNil, fs_un, fs_conv, fs_convStr, fs_field, fs_index, fs_indexStr, fs_build, fs_buildSlice, fs_fieldAddr, fs_indexAddr, fs_indexSl, fs_sliceArr, fs_sliceSl, fs_sliceStr, fs_makeSlice, fs_extract, fs_mkIface, fs_mkFunc, fs_nilCheck, fs_s2ap, fs_len, fs_minmax, fs_s2b, fs_b2s, fs_append, fs_copy, fs_callW, fs_callR, fs_callv, opd_tmp, opd_const, opd_func, opds_nil, opds_cons, opdOpt_none, opdOpt_some, opdParts_nil, opdParts_cons, get_miss, vPick_t, vPick_f, vEq_agg, vEq_aggN, vEq_bool, vEq_boolN, vConv_int, vStr_s, vField_agg, vIndex_agg, vIndexStr_s, vFieldAddr_p, vIndexAddr_p, vIndexSl_s, vSliceArr_p, vSliceSl_s, vSliceSl_n, vSliceStr_s, vExtract_t, vNilCheck_p, vS2ap_s, vLen_s, vLen_str, vMin_i, vMax_i, vLoad_p, vStore_p, baseP_p, vB2s_s, vMake_i, vS2b_s, callee_f, liveAt_eq, storeAt_eq, partL_none, partL_some, natIn_none, natIn_int, bounds3_two, bin_add, bin_sub, bin_mul, bin_quo, bin_rem, bin_and, bin_or, bin_xor, bin_andNot, bin_eql, bin_neq, bin_lss, bin_leq, bin_gtr, bin_geq, bin_shl, bin_shr, bin_sadd, bin_seql, bin_sneq, un_not, un_neg, un_xor, after_some, put_some, put_none, res_nil, res_val, res_var, packed_one, packed_two, merge_nil, merge_ge, rf_tup2, rfIn_int, rfIn_bool, rfIn_u8s, rf_str, rfIn_str, ↓gate_true, gd_bool, gd_ut, gd_uf, ↓guardW_tt, ↓guardW_ff, ↓guardW_tf, ↓guardW_ft, ↓keepW_some, ↓qElseW_some, ↓get_hit, ↓Option.bind_some, ↓if_true, ↓if_false, List.nil_append, List.cons_append, List.all_nil, List.all_cons, List.isEmpty_nil, reduceCtorEq, Bool.false_eq_true, Nat.reduceEqDiff, beq_self_eq_true, bne_self_eq_false, Bool.not_true, Bool.not_false, Int.natCast_nonneg, Nat.lt_irrefl, false_and, Int.reduceEq, rf_int, rf_bool, rf_tuple_ints, rf_u8s, arr_list, toList2, Bool.and_self, Nat.not_lt_zero, Nat.sub_zero, Nat.zero_le, Nat.le_add_right, cells_agg, cells_agg_size, cells_int, cells_int_size, okV_int, okV_bool, okV_str, okV_agg, okV_ptr, okV_slice, okV_func, okV_nilFunc, okV_iface, okV_nilIface, cells_bool, cells_bool_size, cells_ptr, cells_ptr_size, cells_slice, cells_slice_size, cells_str, cells_str_size, eq_self, wrapI64_small, Int.natCast_zero, Int.natCast_one, Int.cast_ofNat_Int, List.length_nil, List.length_cons, List.getElem?_cons_zero, List.getElem?_cons_succ, List.set_cons_zero, List.set_cons_succ, Nat.zero_add, Nat.add_zero, Nat.mul_one, Nat.zero_mul, Int.toNat_natCast, Int.toNat_zero, Int.lt_irrefl, Int.le_refl, Nat.le_refl, and_self, true_and, and_true, decide_true, decide_false, Int.reduceLE, Int.reduceLT, Int.reduceAdd, Int.reduceMul, Int.reduceSub, Int.reduceTDiv, Int.reduceTMod, Int.reduceNeg, Int.reduceToNat, Int.reduceGT, Int.reduceGE, Int.reducePow, Nat.reduceAdd, Nat.reduceMul, Nat.reduceSub, Nat.reduceDiv, Nat.reduceMod, Nat.reducePow, Nat.reduceLT, Nat.reduceLeDiff, Nat.min_self, ge_iff_le, gt_iff_lt, Option.isNone_none, Option.isSome_none, Option.isNone_some, Option.isSome_some, Bool.and_true, Bool.true_and, Bool.and_false, Bool.false_and, not_true_eq_false, not_false_eq_true, or_true, true_or, false_or, or_false, hget0, hgetK, hset0, hsetK, splice_single, splice_whole, take_whole, List.getElem?_nil, List.length_append, List.append_assoc, evCode_block, hz, hr, List.length_replicate, take_all, eV_cells, eV_size, eV_ok, eV_fold, ns_len, hd, l1, lz, rf_eV]
  rfl
end Go.Ev.Ytaceeoghjgggjaa
set_option linter.unusedSimpArgs false
set_option linter.unusedVariables false
namespace Go.Ev.Ytaceeoghjgggjaa
open Go Go.Ev
attribute [local congr] bind_congr2 ite_congr2 qElse_congr gate_congr guardV_congr
set_option maxRecDepth 100000
theorem vEq_eV {n : Nat} {p q : List Nat} (hp : p.length = n) (hq : q.length = n) : vEq (some (List.replicate n true)) false (eV p) (eV q) = some (.bool (p == q)) := by
  unfold eV
  rw [vEq_agg, cellsEq_u64 hp hq]
  rfl
theorem vEq_eVN {n : Nat} {p q : List Nat} (hp : p.length = n) (hq : q.length = n) : vEq (some (List.replicate n true)) true (eV p) (eV q) = some (.bool (!(p == q))) := by
  unfold eV
  rw [vEq_aggN, cellsEq_u64 hp hq]
  rfl
theorem fe_sub_neg (x y : Go.Fp.Fe) : x + -y = x - y := by grobner
theorem fe_zero_sub (x : Go.Fp.Fe) : 0 - x = -x := by grobner
def zero32 : List Nat := List.replicate 32 0
theorem z32u_eq : List.replicate 32 (Value.int .u64 0) = ns .u64 zero32 := rfl
theorem z32u_len : zero32.length = 32 := rfl
def abI (a b d : List Nat) (i : Int) (ex : Env) : St := ⟨[(2, .pointer (some ⟨0, 0, none⟩)), (3, .pointer (some ⟨1, 0, none⟩)), (4, .pointer (some ⟨2, 0, none⟩)), (5, .pointer (some ⟨3, 0, none⟩)), (6, .int .i64 i)] ++ ex, [⟨ns .u64 a, true, true, true, 1⟩, ⟨ns .u64 b, true, true, true, 1⟩, ⟨ns .u64 zero16, true, true, true, 1⟩, ⟨ns .u64 d, true, true, true, 1⟩], []⟩
theorem radd_block {a b : List Nat} (ha : Nm a) (hb : Nm b) :
    ∃ d, evCode T 0 (.block 0 (.loop a72_l0)) (abI a b zero32 0 []) = some (.normal, abI a b d 16 [(8, .bool false)]) ∧ d.length = 32 ∧ (∀ x ∈ d, x < 2 ^ 44) ∧ num 65536 d = num 65536 a + num 65536 b := by
  obtain ⟨st, hl, o, rfl, h1, h2, h3⟩ := block_inv (T := T) (base := 0) (id := 0) (body := a72_l0)
    (fun i st => ∃ o : List Nat, st = abI a b o i [] ∧ o.length = 32 ∧ (∀ x ∈ o, x < 2 ^ 44) ∧ (∀ j, i ≤ j → j < 16 → o[j]? = some 0) ∧ num 65536 o = num 65536 (a.take i) + num 65536 (b.take i))
    (Q := fun st => ∃ o : List Nat, st = abI a b o 16 [(8, .bool false)] ∧ o.length = 32 ∧ (∀ x ∈ o, x < 2 ^ 44) ∧ num 65536 o = num 65536 a + num 65536 b)
    16 (s := abI a b zero32 0 []) ⟨zero32, rfl, rfl, by decide, fun j _ hj => by unfold zero32; rw [List.getElem?_replicate, if_pos (by omega)], by simp [num]; decide⟩
    (fun i st hi hs => by
      obtain ⟨o, rfl, h1, h2, h3, h4⟩ := hs
      obtain ⟨x, hx⟩ : ∃ x, a[i]? = some x := ⟨_, List.getElem?_eq_getElem (by rw [ha.len]; omega)⟩
      obtain ⟨y, hy⟩ : ∃ y, b[i]? = some y := ⟨_, List.getElem?_eq_getElem (by rw [hb.len]; omega)⟩
      have hx' := ha.lt x (List.mem_of_getElem? hx)
      have hy' := hb.lt y (List.mem_of_getElem? hy)
      have n1 := num_set (B := 65536) (x + y) (h3 i (Nat.le_refl _) hi)
      have s1 := ns_set .u64 o i (x + y)
      have hxc := ns_get (k := .u64) hx
      have hyc := ns_get (k := .u64) hy
      have l1 := ha.len
      have l2 := hb.len
      have w1 : IntKind.i64.wrap ((i : Int) + 1) = ((i + 1 : Nat) : Int) := wi_add (b := 1) (by omega)
      have w2 : IntKind.u64.wrap ((x : Int) + (y : Int)) = ((x + y : Nat) : Int) := w64_add (by omega)
      have e1 : ((i : Int) < 16) = True := eq_true (by omega)
      have e2 : ((i : Int) < 32) = True := eq_true (by omega)
      have e4 : (i ≤ 31) = True := eq_true (by omega)
      refine ⟨abI a b (o.set i (x + y)) ((i + 1 : Nat) : Int) [], ?_, _, rfl, by rw [List.length_set]; exact h1, set_lt h2 (by omega), ?_, ?_⟩
      · generalize o.set i (x + y) = O1 at *
        generalize x + y = v at *
        generalize i + 1 = i1 at *
        simp only [abI, a72_l0, envOf, evCode_skip, evCode_exit, evCode_seq, fs_blockS, fs_blockR, fs_blockC, fs_blockK, fs_blockB, evCode_ret, quiet, keep_nil, keep_cons, fs_cond, fs_region, fs_regionQ, quiet2_eq, lastOf_nil, lastOf_cons, List.take_succ_cons, List.take_zero, List.drop_succ_cons, List.drop_zero, Int.reduceBEq, Int.reduceBNe,  fs_nil, fs_guard, fs_move, fs_pick, fs_alloc, fs_box, fs_load, fs_store, fs_bin, fs_eqv, fs_isNil, fs_un, fs_conv, fs_convStr, fs_field, fs_index, fs_indexStr, fs_build, fs_buildSlice, fs_fieldAddr, fs_indexAddr, fs_indexSl, fs_sliceArr, fs_sliceSl, fs_sliceStr, fs_makeSlice, fs_extract, fs_mkIface, fs_mkFunc, fs_nilCheck, fs_s2ap, fs_len, fs_minmax, fs_s2b, fs_b2s, fs_append, fs_copy, fs_callW, fs_callR, fs_callv, opd_tmp, opd_const, opd_func, opds_nil, opds_cons, opdOpt_none, opdOpt_some, opdParts_nil, opdParts_cons, get_miss, vPick_t, vPick_f, vEq_agg, vEq_aggN, vEq_bool, vEq_boolN, vConv_int, vStr_s, vField_agg, vIndex_agg, vIndexStr_s, vFieldAddr_p, vIndexAddr_p, vIndexSl_s, vSliceArr_p, vSliceSl_s, vSliceSl_n, vSliceStr_s, vExtract_t, vNilCheck_p, vS2ap_s, vLen_s, vLen_str, vMin_i, vMax_i, vLoad_p, vStore_p, baseP_p, vB2s_s, vMake_i, vS2b_s, callee_f, liveAt_eq, storeAt_eq, partL_none, partL_some, natIn_none, natIn_int, bounds3_two, bin_add, bin_sub, bin_mul, bin_quo, bin_rem, bin_and, bin_or, bin_xor, bin_andNot, bin_eql, bin_neq, bin_lss, bin_leq, bin_gtr, bin_geq, bin_shl, bin_shr, bin_sadd, bin_seql, bin_sneq, un_not, un_neg, un_xor, after_some, put_some, put_none, res_nil, res_val, res_var, packed_one, packed_two, merge_nil, merge_ge, rf_tup2, rfIn_int, rfIn_bool, rfIn_u8s, rf_str, rfIn_str, ↓gate_true, gd_bool, gd_ut, gd_uf, ↓guardV_tt, ↓guardV_ff, ↓guardV_tf, ↓guardV_ft, ↓keepV_some, ↓qElse_some, ↓get_hit, ↓Option.bind_some, ↓if_true, ↓if_false, List.nil_append, List.cons_append, List.all_nil, List.all_cons, List.isEmpty_nil, reduceCtorEq, Bool.false_eq_true, Nat.reduceEqDiff, beq_self_eq_true, bne_self_eq_false, Bool.not_true, Bool.not_false, Int.natCast_nonneg, Nat.lt_irrefl, false_and, Int.reduceEq, rf_int, rf_bool, rf_tuple_ints, rf_u8s, arr_list, toList2, Bool.and_self, Nat.not_lt_zero, Nat.sub_zero, Nat.zero_le, Nat.le_add_right, cells_agg, cells_agg_size, cells_int, cells_int_size, okV_int, okV_bool, okV_str, okV_agg, okV_ptr, okV_slice, okV_func, okV_nilFunc, okV_iface, okV_nilIface, cells_bool, cells_bool_size, cells_ptr, cells_ptr_size, cells_slice, cells_slice_size, cells_str, cells_str_size, eq_self, wrapI64_small, Int.natCast_zero, Int.natCast_one, Int.cast_ofNat_Int, List.length_nil, List.length_cons, List.getElem?_cons_zero, List.getElem?_cons_succ, List.set_cons_zero, List.set_cons_succ, Nat.zero_add, Nat.add_zero, Nat.mul_one, Nat.zero_mul, Int.toNat_natCast, Int.toNat_zero, Int.lt_irrefl, Int.le_refl, Nat.le_refl, and_self, true_and, and_true, decide_true, decide_false, Int.reduceLE, Int.reduceLT, Int.reduceAdd, Int.reduceMul, Int.reduceSub, Int.reduceTDiv, Int.reduceTMod, Int.reduceNeg, Int.reduceToNat, Int.reduceGT, Int.reduceGE, Int.reducePow, Nat.reduceAdd, Nat.reduceMul, Nat.reduceSub, Nat.reduceDiv, Nat.reduceMod, Nat.reducePow, Nat.reduceLT, Nat.reduceLeDiff, Nat.min_self, ge_iff_le, gt_iff_lt, Option.isNone_none, Option.isSome_none, Option.isNone_some, Option.isSome_some, Bool.and_true, Bool.true_and, Bool.and_false, Bool.false_and, not_true_eq_false, not_false_eq_true, or_true, true_or, false_or, or_false, hget0, hgetK, hset0, hsetK, splice_single, splice_whole, take_whole, List.getElem?_nil, List.length_append, List.append_assoc, hxc, hyc, w1, w2, e1, e2, e4, s1, ns_len, h1, l1, l2]
      · intro j hj hj'
        rw [List.getElem?_set_ne (by omega)]
        exact h3 j (by omega) hj'
      · rw [num_take hx, num_take hy]
        rw [Nat.add_mul] at n1
        omega)
    (fun st hs => by
      obtain ⟨o, rfl, h1, h2, h3, h4⟩ := hs
      rw [List.take_of_length_le (by rw [ha.len]; omega), List.take_of_length_le (by rw [hb.len]; omega)] at h4
      refine ⟨_, ?_, o, rfl, h1, h2, h4⟩
      simp only [abI, a72_l0, envOf, evCode_skip, evCode_exit, evCode_seq, fs_blockS, fs_blockR, fs_blockC, fs_blockK, fs_blockB, evCode_ret, quiet, keep_nil, keep_cons, fs_cond, fs_region, fs_regionQ, quiet2_eq, lastOf_nil, lastOf_cons, List.take_succ_cons, List.take_zero, List.drop_succ_cons, List.drop_zero, Int.reduceBEq, Int.reduceBNe,  fs_nil, fs_guard, fs_move, fs_pick, fs_alloc, fs_box, fs_load, fs_store, fs_bin, fs_eqv, fs_isNil, fs_un, fs_conv, fs_convStr, fs_field, fs_index, fs_indexStr, fs_build, fs_buildSlice, fs_fieldAddr, fs_indexAddr, fs_indexSl, fs_sliceArr, fs_sliceSl, fs_sliceStr, fs_makeSlice, fs_extract, fs_mkIface, fs_mkFunc, fs_nilCheck, fs_s2ap, fs_len, fs_minmax, fs_s2b, fs_b2s, fs_append, fs_copy, fs_callW, fs_callR, fs_callv, opd_tmp, opd_const, opd_func, opds_nil, opds_cons, opdOpt_none, opdOpt_some, opdParts_nil, opdParts_cons, get_miss, vPick_t, vPick_f, vEq_agg, vEq_aggN, vEq_bool, vEq_boolN, vConv_int, vStr_s, vField_agg, vIndex_agg, vIndexStr_s, vFieldAddr_p, vIndexAddr_p, vIndexSl_s, vSliceArr_p, vSliceSl_s, vSliceSl_n, vSliceStr_s, vExtract_t, vNilCheck_p, vS2ap_s, vLen_s, vLen_str, vMin_i, vMax_i, vLoad_p, vStore_p, baseP_p, vB2s_s, vMake_i, vS2b_s, callee_f, liveAt_eq, storeAt_eq, partL_none, partL_some, natIn_none, natIn_int, bounds3_two, bin_add, bin_sub, bin_mul, bin_quo, bin_rem, bin_and, bin_or, bin_xor, bin_andNot, bin_eql, bin_neq, bin_lss, bin_leq, bin_gtr, bin_geq, bin_shl, bin_shr, bin_sadd, bin_seql, bin_sneq, un_not, un_neg, un_xor, after_some, put_some, put_none, res_nil, res_val, res_var, packed_one, packed_two, merge_nil, merge_ge, rf_tup2, rfIn_int, rfIn_bool, rfIn_u8s, rf_str, rfIn_str, ↓gate_true, gd_bool, gd_ut, gd_uf, ↓guardV_tt, ↓guardV_ff, ↓guardV_tf, ↓guardV_ft, ↓keepV_some, ↓qElse_some, ↓get_hit, ↓Option.bind_some, ↓if_true, ↓if_false, List.nil_append, List.cons_append, List.all_nil, List.all_cons, List.isEmpty_nil, reduceCtorEq, Bool.false_eq_true, Nat.reduceEqDiff, beq_self_eq_true, bne_self_eq_false, Bool.not_true, Bool.not_false, Int.natCast_nonneg, Nat.lt_irrefl, false_and, Int.reduceEq, rf_int, rf_bool, rf_tuple_ints, rf_u8s, arr_list, toList2, Bool.and_self, Nat.not_lt_zero, Nat.sub_zero, Nat.zero_le, Nat.le_add_right, cells_agg, cells_agg_size, cells_int, cells_int_size, okV_int, okV_bool, okV_str, okV_agg, okV_ptr, okV_slice, okV_func, okV_nilFunc, okV_iface, okV_nilIface, cells_bool, cells_bool_size, cells_ptr, cells_ptr_size, cells_slice, cells_slice_size, cells_str, cells_str_size, eq_self, wrapI64_small, Int.natCast_zero, Int.natCast_one, Int.cast_ofNat_Int, List.length_nil, List.length_cons, List.getElem?_cons_zero, List.getElem?_cons_succ, List.set_cons_zero, List.set_cons_succ, Nat.zero_add, Nat.add_zero, Nat.mul_one, Nat.zero_mul, Int.toNat_natCast, Int.toNat_zero, Int.lt_irrefl, Int.le_refl, Nat.le_refl, and_self, true_and, and_true, decide_true, decide_false, Int.reduceLE, Int.reduceLT, Int.reduceAdd, Int.reduceMul, Int.reduceSub, Int.reduceTDiv, Int.reduceTMod, Int.reduceNeg, Int.reduceToNat, Int.reduceGT, Int.reduceGE, Int.reducePow, Nat.reduceAdd, Nat.reduceMul, Nat.reduceSub, Nat.reduceDiv, Nat.reduceMod, Nat.reducePow, Nat.reduceLT, Nat.reduceLeDiff, Nat.min_self, ge_iff_le, gt_iff_lt, Option.isNone_none, Option.isSome_none, Option.isNone_some, Option.isSome_some, Bool.and_true, Bool.true_and, Bool.and_false, Bool.false_and, not_true_eq_false, not_false_eq_true, or_true, true_or, false_or, or_false])
  exact ⟨o, hl, h1, h2, h3⟩
theorem radd_v {a b : List Nat} (ha : Nm a) (hb : Nm b) : ∃ r, evVal T 72 [eV a, eV b] = some (eV r) ∧ Nm r ∧ nf r = nf a + nf b := by
  obtain ⟨d, hd, l1, h2, h3⟩ := radd_block ha hb
  have hal := ha.num_lt
  have hbl := hb.num_lt
  obtain ⟨r, hr, hN, hf⟩ := rfold_v l1 h2 (by
    rw [h3]
    have e : (65536 : Nat) ^ 32 = 2 ^ 256 * 2 ^ 256 := by decide
    rw [e]
    have : (2 : Nat) ≤ 2 ^ 256 := by decide
    have := Nat.mul_le_mul_right (2 ^ 256) this
    generalize (2 : Nat) ^ 256 = M at *
    omega)
  refine ⟨r, ?_, hN, by rw [hf, h3, Go.Fp.fp_add]; rfl⟩
  simp only [abI, List.cons_append, List.nil_append, Int.natCast_zero] at hd
  have hz := z16_eq
  have lz := z16_len
  have hz2 := z32u_eq
  have lz2 := z32u_len
  have la := ha.len
  have lb := hb.len
  have lr := hN.len
  generalize zero16 = Z at *
  generalize zero32 = Z2 at *
  apply evVal_ex
  apply Exists.intro
  rw [evFun_fn (fn := a72) rfl]
  simp only [a72, ↓steps_chunk, envOf, evCode_skip, evCode_exit, evCode_seq, fs_blockS, fs_blockR, fs_blockC, fs_blockK, fs_blockB, evCode_ret, quiet, keep_nil, keep_cons, fs_cond, fs_region, fs_regionQ, quiet2_eq, lastOf_nil, lastOf_cons, List.take_succ_cons, List.take_zero, List.drop_succ_cons, List.drop_zero, Int.reduceBEq, Int.reduceBNe,  fs_nil, fs_guard, fs_move, fs_pick, fs_alloc, fs_box, fs_load, fs_store, fs_bin, fs_eqv, fs_isNil, fs_un, fs_conv, fs_convStr, fs_field, fs_index, fs_indexStr, fs_build, fs_buildSlice, fs_fieldAddr, fs_indexAddr, fs_indexSl, fs_sliceArr, fs_sliceSl, fs_sliceStr, fs_makeSlice, fs_extract, fs_mkIface, fs_mkFunc, fs_nilCheck, fs_s2ap, fs_len, fs_minmax, fs_s2b, fs_b2s, fs_append, fs_copy, fs_callW, fs_callR, fs_callv, opd_tmp, opd_const, opd_func, opds_nil, opds_cons, opdOpt_none, opdOpt_some, opdParts_nil, opdParts_cons, get_miss, vPick_t, vPick_f, vEq_agg, vEq_aggN, vEq_bool, vEq_boolN, vConv_int, vStr_s, vField_agg, vIndex_agg, vIndexStr_s, vFieldAddr_p, vIndexAddr_p, vIndexSl_s, vSliceArr_p, vSliceSl_s, vSliceSl_n, vSliceStr_s, vExtract_t, vNilCheck_p, vS2ap_s, vLen_s, vLen_str, vMin_i, vMax_i, vLoad_p, vStore_p, baseP_p, vB2s_s, vMake_i, vS2b_s, callee_f, liveAt_eq, storeAt_eq, partL_none, partL_some, natIn_none, natIn_int, bounds3_two, bin_add, bin_sub, bin_mul, bin_quo, bin_rem, bin_and, bin_or, bin_xor, bin_andNot, bin_eql, bin_neq, bin_lss, bin_leq, bin_gtr, bin_geq, bin_shl, bin_shr, bin_sadd, bin_seql, bin_sneq, un_not, un_neg, un_xor, after_some, put_some, put_none, res_nil, res_val, res_var, packed_one, packed_two, merge_nil, merge_ge, rf_tup2, rfIn_int, rfIn_bool, rfIn_u8s, rf_str, rfIn_str, ↓gate_true, gd_bool, gd_ut, gd_uf, ↓guardW_tt, ↓guardW_ff, ↓guardW_tf, ↓guardW_ft, ↓keepW_some, ↓qElseW_some, ↓get_hit, ↓Option.bind_some, ↓if_true, ↓if_false, List.nil_append, List.cons_append, List.all_nil, List.all_cons, List.isEmpty_nil, reduceCtorEq, Bool.false_eq_true, Nat.reduceEqDiff, beq_self_eq_true, bne_self_eq_false, Bool.not_true, Bool.not_false, Int.natCast_nonneg, Nat.lt_irrefl, false_and, Int.reduceEq, rf_int, rf_bool, rf_tuple_ints, rf_u8s, arr_list, toList2, Bool.and_self, Nat.not_lt_zero, Nat.sub_zero, Nat.zero_le, Nat.le_add_right, cells_agg, cells_agg_size, cells_int, cells_int_size, okV_int, okV_bool, okV_str, okV_agg, okV_ptr, okV_slice, okV_func, okV_nilFunc, okV_iface, okV_nilIface, cells_bool, cells_bool_size, cells_ptr, cells_ptr_size, cells_slice, cells_slice_size, cells_str, cells_str_size, eq_self, wrapI64_small, Int.natCast_zero, Int.natCast_one, Int.cast_ofNat_Int, List.length_nil, List.length_cons, List.getElem?_cons_zero, List.getElem?_cons_succ, List.set_cons_zero, List.set_cons_succ, Nat.zero_add, Nat.add_zero, Nat.mul_one, Nat.zero_mul, Int.toNat_natCast, Int.toNat_zero, Int.lt_irrefl, Int.le_refl, Nat.le_refl, and_self, true_and, and_true, decide_true, decide_false, Int.reduceLE, Int.reduceLT, Int.reduceAdd, Int.reduceMul, Int.reduceSub, Int.reduceTDiv, Int.reduceTMod, Int.reduceNeg, Int.reduceToNat, Int.reduceGT, Int.reduceGE, Int.reducePow, Nat.reduceAdd, Nat.reduceMul, Nat.reduceSub, Nat.reduceDiv, Nat.reduceMod, Nat.reducePow, Nat.reduceLT, Nat.reduceLeDiff, Nat.min_self, ge_iff_le, gt_iff_lt, Option.isNone_none, Option.isSome_none, Option.isNone_some, Option.isSome_some, Bool.and_true, Bool.true_and, Bool.and_false, Bool.false_and, not_true_eq_false, not_false_eq_true, or_true, true_or, false_or, or_false, hget0, hgetK, hset0, hsetK, splice_single, splice_whole, take_whole, List.getElem?_nil, List.length_append, List.append_assoc, hz, hz2, hd, hr, List.length_replicate, take_all, eV_cells, eV_size, eV_ok, eV_fold, ns_len, la, lb, l1, lr, lz, lz2, rf_eV]
  rfl
theorem zero16_nm : Nm zero16 := ⟨rfl, by decide⟩
theorem zero16_num : num 65536 zero16 = 0 := by decide
theorem nf_zero_iff {a : List Nat} : nf a = 0 ↔ num 65536 a % Go.Fp.P = 0 := by
  unfold nf
  rw [← Go.Fp.fp_zero, Go.Fp.fp_eq, Nat.zero_mod]
theorem dig16_eq {v w : Nat} (hv : v < 2 ^ 256) (hw : w < 2 ^ 256) : (dig 65536 16 v == dig 65536 16 w) = decide (v = w) := by
  by_cases h : v = w
  · subst h; simp
  · rw [decide_eq_false h, beq_eq_false_iff_ne.2]
    intro e
    have := congrArg (num 65536) e
    rw [nm_dig hv, nm_dig hw] at this
    exact h this
theorem P_lt2 : Go.Fp.P < 2 ^ 256 := by decide
theorem P_pos : 0 < Go.Fp.P := by decide
theorem canon_eq_zero (a : List Nat) : (dig 65536 16 (num 65536 a % Go.Fp.P) == zero16) = decide (nf a = 0) := by
  have hz : zero16 = dig 65536 16 0 := by decide
  have h1 := Nat.mod_lt (num 65536 a) P_pos
  have h2 := P_lt2
  rw [hz, dig16_eq (by omega) (by omega)]
  by_cases h : nf a = 0
  · rw [decide_eq_true h, decide_eq_true (nf_zero_iff.1 h)]
  · rw [decide_eq_false h, decide_eq_false (fun e => h (nf_zero_iff.2 e))]
theorem rneg_v {a : List Nat} (ha : Nm a) : ∃ r, evVal T 73 [eV a] = some (eV r) ∧ Nm r ∧ nf r = -nf a := by
  have hc := rcanon_v ha
  have hq := canon_eq_zero a
  have h1 := Nat.mod_lt (num 65536 a) P_pos
  have hPl := P_lt2
  have hC := Nm.dig (num 65536 a % Go.Fp.P)
  have hCn := nm_dig (v := num 65536 a % Go.Fp.P) (by omega)
  have hp := rprime_v
  have hm := rminus_v primeL_nm hC (by rw [hCn, primeL_num]; omega)
  have lP := primeL_nm.len
  have lC := hC.len
  have la := ha.len
  have hz := z16_eq
  have lz := z16_len
  have hf := z16_fill
  rw [hCn, primeL_num] at hm
  have hceq := vEq_eV lC lz
  rw [hq] at hceq
  by_cases h : nf a = 0
  · rw [decide_eq_true h] at hceq
    refine ⟨dig 65536 16 (num 65536 a % Go.Fp.P), ?_, hC, ?_⟩
    · generalize dig 65536 16 (num 65536 a % Go.Fp.P) = C at *
      generalize zero16 = Z at *
      apply evVal_ex
      apply Exists.intro
      rw [evFun_fn (fn := a73) rfl]
      simp only [a73, ↓steps_chunk, envOf, evCode_skip, evCode_exit, evCode_seq, fs_blockS, fs_blockR, fs_blockC, fs_blockK, fs_blockB, evCode_ret, quiet, keep_nil, keep_cons, fs_cond, fs_region, fs_regionQ, quiet2_eq, lastOf_nil, lastOf_cons, List.take_succ_cons, List.take_zero, List.drop_succ_cons, List.drop_zero, Int.reduceBEq, Int.reduceBNe,  fs_nil, fs_guard, fs_move, fs_pick, fs_alloc, fs_box, fs_load, fs_store, fs_bin, fs_eqv, fs_isNil, fs_un, fs_conv, fs_convStr, fs_field, fs_index, fs_indexStr, fs_build, fs_buildSlice, fs_fieldAddr, fs_indexAddr, fs_indexSl, fs_sliceArr, fs_sliceSl, fs_sliceStr, fs_makeSlice, fs_extract, fs_mkIface, fs_mkFunc, fs_nilCheck, fs_s2ap, fs_len, fs_minmax, fs_s2b, fs_b2s, fs_append, fs_copy, fs_callW, fs_callR, fs_callv, opd_tmp, opd_const, opd_func, opds_nil, opds_cons, opdOpt_none, opdOpt_some, opdParts_nil, opdParts_cons, get_miss, vPick_t, vPick_f, vEq_agg, vEq_aggN, vEq_bool, vEq_boolN, vConv_int, vStr_s, vField_agg, vIndex_agg, vIndexStr_s, vFieldAddr_p, vIndexAddr_p, vIndexSl_s, vSliceArr_p, vSliceSl_s, vSliceSl_n, vSliceStr_s, vExtract_t, vNilCheck_p, vS2ap_s, vLen_s, vLen_str, vMin_i, vMax_i, vLoad_p, vStore_p, baseP_p, vB2s_s, vMake_i, vS2b_s, callee_f, liveAt_eq, storeAt_eq, partL_none, partL_some, natIn_none, natIn_int, bounds3_two, bin_add, bin_sub, bin_mul, bin_quo, bin_rem, bin_and, bin_or, bin_xor, bin_andNot, bin_eql, bin_neq, bin_lss, bin_leq, bin_gtr, bin_geq, bin_shl, bin_shr, bin_sadd, bin_seql, bin_sneq, un_not, un_neg, un_xor, after_some, put_some, put_none, res_nil, res_val, res_var, packed_one, packed_two, merge_nil, merge_ge, rf_tup2, rfIn_int, rfIn_bool, rfIn_u8s, rf_str, rfIn_str, ↓gate_true, gd_bool, gd_ut, gd_uf, ↓guardW_tt, ↓guardW_ff, ↓guardW_tf, ↓guardW_ft, ↓keepW_some, ↓qElseW_some, ↓get_hit, ↓Option.bind_some, ↓if_true, ↓if_false, List.nil_append, List.cons_append, List.all_nil, List.all_cons, List.isEmpty_nil, reduceCtorEq, Bool.false_eq_true, Nat.reduceEqDiff, beq_self_eq_true, bne_self_eq_false, Bool.not_true, Bool.not_false, Int.natCast_nonneg, Nat.lt_irrefl, false_and, Int.reduceEq, rf_int, rf_bool, rf_tuple_ints, rf_u8s, arr_list, toList2, Bool.and_self, Nat.not_lt_zero, Nat.sub_zero, Nat.zero_le, Nat.le_add_right, cells_agg, cells_agg_size, cells_int, cells_int_size, okV_int, okV_bool, okV_str, okV_agg, okV_ptr, okV_slice, okV_func, okV_nilFunc, okV_iface, okV_nilIface, cells_bool, cells_bool_size, cells_ptr, cells_ptr_size, cells_slice, cells_slice_size, cells_str, cells_str_size, eq_self, wrapI64_small, Int.natCast_zero, Int.natCast_one, Int.cast_ofNat_Int, List.length_nil, List.length_cons, List.getElem?_cons_zero, List.getElem?_cons_succ, List.set_cons_zero, List.set_cons_succ, Nat.zero_add, Nat.add_zero, Nat.mul_one, Nat.zero_mul, Int.toNat_natCast, Int.toNat_zero, Int.lt_irrefl, Int.le_refl, Nat.le_refl, and_self, true_and, and_true, decide_true, decide_false, Int.reduceLE, Int.reduceLT, Int.reduceAdd, Int.reduceMul, Int.reduceSub, Int.reduceTDiv, Int.reduceTMod, Int.reduceNeg, Int.reduceToNat, Int.reduceGT, Int.reduceGE, Int.reducePow, Nat.reduceAdd, Nat.reduceMul, Nat.reduceSub, Nat.reduceDiv, Nat.reduceMod, Nat.reducePow, Nat.reduceLT, Nat.reduceLeDiff, Nat.min_self, ge_iff_le, gt_iff_lt, Option.isNone_none, Option.isSome_none, Option.isNone_some, Option.isSome_some, Bool.and_true, Bool.true_and, Bool.and_false, Bool.false_and, not_true_eq_false, not_false_eq_true, or_true, true_or, false_or, or_false, hget0, hgetK, hset0, hsetK, splice_single, splice_whole, take_whole, List.getElem?_nil, List.length_append, List.append_assoc, hz, hf, hc, hceq, List.length_replicate, take_all, eV_cells, eV_size, eV_ok, eV_fold, ns_len, la, lC, lz, rf_eV]
      rfl
    · unfold nf
      rw [hCn, Go.Fp.fp_mod]
      show nf a = - nf a
      rw [h]; grobner
  · rw [decide_eq_false h] at hceq
    have hR := Nm.dig (Go.Fp.P - num 65536 a % Go.Fp.P)
    have hRn := nm_dig (v := Go.Fp.P - num 65536 a % Go.Fp.P) (by omega)
    refine ⟨dig 65536 16 (Go.Fp.P - num 65536 a % Go.Fp.P), ?_, hR, ?_⟩
    · have lR := hR.len
      generalize dig 65536 16 (num 65536 a % Go.Fp.P) = C at *
      generalize dig 65536 16 (Go.Fp.P - num 65536 a % Go.Fp.P) = R at *
      generalize primeL = PL at *
      generalize zero16 = Z at *
      apply evVal_ex
      apply Exists.intro
      rw [evFun_fn (fn := a73) rfl]
      simp only [a73, ↓steps_chunk, envOf, evCode_skip, evCode_exit, evCode_seq, fs_blockS, fs_blockR, fs_blockC, fs_blockK, fs_blockB, evCode_ret, quiet, keep_nil, keep_cons, fs_cond, fs_region, fs_regionQ, quiet2_eq, lastOf_nil, lastOf_cons, List.take_succ_cons, List.take_zero, List.drop_succ_cons, List.drop_zero, Int.reduceBEq, Int.reduceBNe,  fs_nil, fs_guard, fs_move, fs_pick, fs_alloc, fs_box, fs_load, fs_store, fs_bin, fs_eqv, fs_isNil, fs_un, fs_conv, fs_convStr, fs_field, fs_index, fs_indexStr, fs_build, fs_buildSlice, fs_fieldAddr, fs_indexAddr, fs_indexSl, fs_sliceArr, fs_sliceSl, fs_sliceStr, fs_makeSlice, fs_extract, fs_mkIface, fs_mkFunc, fs_nilCheck, fs_s2ap, fs_len, fs_minmax, fs_s2b, fs_b2s, fs_append, fs_copy, fs_callW, fs_callR, fs_callv, opd_tmp, opd_const, opd_func, opds_nil, opds_cons, opdOpt_none, opdOpt_some, opdParts_nil, opdParts_cons, get_miss, vPick_t, vPick_f, vEq_agg, vEq_aggN, vEq_bool, vEq_boolN, vConv_int, vStr_s, vField_agg, vIndex_agg, vIndexStr_s, vFieldAddr_p, vIndexAddr_p, vIndexSl_s, vSliceArr_p, vSliceSl_s, vSliceSl_n, vSliceStr_s, vExtract_t, vNilCheck_p, vS2ap_s, vLen_s, vLen_str, vMin_i, vMax_i, vLoad_p, vStore_p, baseP_p, vB2s_s, vMake_i, vS2b_s, callee_f, liveAt_eq, storeAt_eq, partL_none, partL_some, natIn_none, natIn_int, bounds3_two, bin_add, bin_sub, bin_mul, bin_quo, bin_rem, bin_and, bin_or, bin_xor, bin_andNot, bin_eql, bin_neq, bin_lss, bin_leq, bin_gtr, bin_geq, bin_shl, bin_shr, bin_sadd, bin_seql, bin_sneq, un_not, un_neg, un_xor, after_some, put_some, put_none, res_nil, res_val, res_var, packed_one, packed_two, merge_nil, merge_ge, rf_tup2, rfIn_int, rfIn_bool, rfIn_u8s, rf_str, rfIn_str, ↓gate_true, gd_bool, gd_ut, gd_uf, ↓guardW_tt, ↓guardW_ff, ↓guardW_tf, ↓guardW_ft, ↓keepW_some, ↓qElseW_some, ↓get_hit, ↓Option.bind_some, ↓if_true, ↓if_false, List.nil_append, List.cons_append, List.all_nil, List.all_cons, List.isEmpty_nil, reduceCtorEq, Bool.false_eq_true, Nat.reduceEqDiff, beq_self_eq_true, bne_self_eq_false, Bool.not_true, Bool.not_false, Int.natCast_nonneg, Nat.lt_irrefl, false_and, Int.reduceEq, rf_int, rf_bool, rf_tuple_ints, rf_u8s, arr_list, toList2, Bool.and_self, Nat.not_lt_zero, Nat.sub_zero, Nat.zero_le, Nat.le_add_right, cells_agg, cells_agg_size, cells_int, cells_int_size, okV_int, okV_bool, okV_str, okV_agg, okV_ptr, okV_slice, okV_func, okV_nilFunc, okV_iface, okV_nilIface, cells_bool, cells_bool_size, cells_ptr, cells_ptr_size, cells_slice, cells_slice_size, cells_str, cells_str_size, eq_self, wrapI64_small, Int.natCast_zero, Int.natCast_one, Int.cast_ofNat_Int, List.length_nil, List.length_cons, List.getElem?_cons_zero, List.getElem?_cons_succ, List.set_cons_zero, List.set_cons_succ, Nat.zero_add, Nat.add_zero, Nat.mul_one, Nat.zero_mul, Int.toNat_natCast, Int.toNat_zero, Int.lt_irrefl, Int.le_refl, Nat.le_refl, and_self, true_and, and_true, decide_true, decide_false, Int.reduceLE, Int.reduceLT, Int.reduceAdd, Int.reduceMul, Int.reduceSub, Int.reduceTDiv, Int.reduceTMod, Int.reduceNeg, Int.reduceToNat, Int.reduceGT, Int.reduceGE, Int.reducePow, Nat.reduceAdd, Nat.reduceMul, Nat.reduceSub, Nat.reduceDiv, Nat.reduceMod, Nat.reducePow, Nat.reduceLT, Nat.reduceLeDiff, Nat.min_self, ge_iff_le, gt_iff_lt, Option.isNone_none, Option.isSome_none, Option.isNone_some, Option.isSome_some, Bool.and_true, Bool.true_and, Bool.and_false, Bool.false_and, not_true_eq_false, not_false_eq_true, or_true, true_or, false_or, or_false, hget0, hgetK, hset0, hsetK, splice_single, splice_whole, take_whole, List.getElem?_nil, List.length_append, List.append_assoc, hz, hf, hc, hceq, hp, hm, List.length_replicate, take_all, eV_cells, eV_size, eV_ok, eV_fold, ns_len, la, lC, lR, lP, lz, rf_eV]
      rfl
    · show Go.Fp.fp (num 65536 _) = _
      rw [hRn, Go.Fp.fp_sub (by omega), Go.Fp.fp_mod, Go.Fp.fp_P]
      exact fe_zero_sub _
theorem rsub_v {a b : List Nat} (ha : Nm a) (hb : Nm b) : ∃ r, evVal T 69 [eV a, eV b] = some (eV r) ∧ Nm r ∧ nf r = nf a - nf b := by
  obtain ⟨n, hn, hN, hnf⟩ := rneg_v hb
  obtain ⟨r, hr, hR, hrf⟩ := radd_v ha hN
  refine ⟨r, ?_, hR, by rw [hrf, hnf, fe_sub_neg]⟩
  have hz := z16_eq
  have lz := z16_len
  have la := ha.len
  have lb := hb.len
  have lr := hR.len
  generalize zero16 = Z at *
  apply evVal_ex
  apply Exists.intro
  rw [evFun_fn (fn := a69) rfl]
  simp only [a69, ↓steps_chunk, envOf, evCode_skip, evCode_exit, evCode_seq, fs_blockS, fs_blockR, fs_blockC, fs_blockK, fs_blockB, evCode_ret, quiet, keep_nil, keep_cons, fs_cond, fs_region, fs_regionQ, quiet2_eq, lastOf_nil, lastOf_cons, List.take_succ_cons, List.take_zero, List.drop_succ_cons, List.drop_zero, Int.reduceBEq, Int.reduceBNe,  fs_nil, fs_guard, fs_move, fs_pick, fs_alloc, fs_box, fs_load, fs_store, fs_bin, fs_eqv, fs_isNil, fs_un, fs_conv, fs_convStr, fs_field, fs_index, fs_indexStr, fs_build, fs_buildSlice, fs_fieldAddr, fs_indexAddr, fs_indexSl, fs_sliceArr, fs_sliceSl, fs_sliceStr, fs_makeSlice, fs_extract, fs_mkIface, fs_mkFunc, fs_nilCheck, fs_s2ap, fs_len, fs_minmax, fs_s2b, fs_b2s, fs_append, fs_copy, fs_callW, fs_callR, fs_callv, opd_tmp, opd_const, opd_func, opds_nil, opds_cons, opdOpt_none, opdOpt_some, opdParts_nil, opdParts_cons, get_miss, vPick_t, vPick_f, vEq_agg, vEq_aggN, vEq_bool, vEq_boolN, vConv_int, vStr_s, vField_agg, vIndex_agg, vIndexStr_s, vFieldAddr_p, vIndexAddr_p, vIndexSl_s, vSliceArr_p, vSliceSl_s, vSliceSl_n, vSliceStr_s, vExtract_t, vNilCheck_p, vS2ap_s, vLen_s, vLen_str, vMin_i, vMax_i, vLoad_p, vStore_p, baseP_p, vB2s_s, vMake_i, vS2b_s, callee_f, liveAt_eq, storeAt_eq, partL_none, partL_some, natIn_none, natIn_int, bounds3_two, bin_add, bin_sub, bin_mul, bin_quo, bin_rem, bin_and, bin_or, bin_xor, bin_andNot, bin_eql, bin_neq, bin_lss, bin_leq, bin_gtr, bin_geq, bin_shl, bin_shr, bin_sadd, bin_seql, bin_sneq, un_not, un_neg, un_xor, after_some, put_some, put_none, res_nil, res_val, res_var, packed_one, packed_two, merge_nil, merge_ge, rf_tup2, rfIn_int, rfIn_bool, rfIn_u8s, rf_str, rfIn_str, ↓gate_true, gd_bool, gd_ut, gd_uf, ↓guardW_tt, ↓guardW_ff, ↓guardW_tf, ↓guardW_ft, ↓keepW_some, ↓qElseW_some, ↓get_hit, ↓Option.bind_some, ↓if_true, ↓if_false, List.nil_append, List.cons_append, List.all_nil, List.all_cons, List.isEmpty_nil, reduceCtorEq, Bool.false_eq_true, Nat.reduceEqDiff, beq_self_eq_true, bne_self_eq_false, Bool.not_true, Bool.not_false, Int.natCast_nonneg, Nat.lt_irrefl, false_and, Int.reduceEq, rf_int, rf_bool, rf_tuple_ints, rf_u8s, arr_list, toList2, Bool.and_self, Nat.not_lt_zero, Nat.sub_zero, Nat.zero_le, Nat.le_add_right, cells_agg, cells_agg_size, cells_int, cells_int_size, okV_int, okV_bool, okV_str, okV_agg, okV_ptr, okV_slice, okV_func, okV_nilFunc, okV_iface, okV_nilIface, cells_bool, cells_bool_size, cells_ptr, cells_ptr_size, cells_slice, cells_slice_size, cells_str, cells_str_size, eq_self, wrapI64_small, Int.natCast_zero, Int.natCast_one, Int.cast_ofNat_Int, List.length_nil, List.length_cons, List.getElem?_cons_zero, List.getElem?_cons_succ, List.set_cons_zero, List.set_cons_succ, Nat.zero_add, Nat.add_zero, Nat.mul_one, Nat.zero_mul, Int.toNat_natCast, Int.toNat_zero, Int.lt_irrefl, Int.le_refl, Nat.le_refl, and_self, true_and, and_true, decide_true, decide_false, Int.reduceLE, Int.reduceLT, Int.reduceAdd, Int.reduceMul, Int.reduceSub, Int.reduceTDiv, Int.reduceTMod, Int.reduceNeg, Int.reduceToNat, Int.reduceGT, Int.reduceGE, Int.reducePow, Nat.reduceAdd, Nat.reduceMul, Nat.reduceSub, Nat.reduceDiv, Nat.reduceMod, Nat.reducePow, Nat.reduceLT, Nat.reduceLeDiff, Nat.min_self, ge_iff_le, gt_iff_lt, Option.isNone_none, Option.isSome_none, Option.isNone_some, Option.isSome_some, Bool.and_true, Bool.true_and, Bool.and_false, Bool.false_and, not_true_eq_false, not_false_eq_true, or_true, true_or, false_or, or_false, hget0, hgetK, hset0, hsetK, splice_single, splice_whole, take_whole, List.getElem?_nil, List.length_append, List.append_assoc, hz, hn, hr, List.length_replicate, take_all, eV_cells, eV_size, eV_ok, eV_fold, ns_len, la, lb, lr, lz, rf_eV]
  rfl
def abkI (a b d : List Nat) (i k : Int) (ex : Env) : St := ⟨[(2, .pointer (some ⟨0, 0, none⟩)), (3, .pointer (some ⟨1, 0, none⟩)), (4, .pointer (some ⟨2, 0, none⟩)), (5, .pointer (some ⟨3, 0, none⟩)), (6, .int .i64 i), (7, .int .i64 k)] ++ ex, [⟨ns .u64 a, true, true, true, 1⟩, ⟨ns .u64 b, true, true, true, 1⟩, ⟨ns .u64 zero16, true, true, true, 1⟩, ⟨ns .u64 d, true, true, true, 1⟩], []⟩
theorem rmul_inner {a b d : List Nat} {i x S : Nat} (ha : Nm a) (hb : Nm b) (hi : i < 16) (hx : a[i]? = some x) (hd : d.length = 32) (hM : ∀ x ∈ d, x ≤ S * 4294967296) (hS : S ≤ 256) :
    ∃ d', evCode T 0 (.block 2 (.loop a67_l0)) (abkI a b d i 0 []) = some (.normal, abkI a b d' i 16 [(13, .bool false)]) ∧ d'.length = 32 ∧ (∀ x ∈ d', x ≤ (S + 16) * 4294967296) ∧ num 65536 d' = num 65536 d + x * num 65536 b * 65536 ^ i := by
  have hx' := ha.lt x (List.mem_of_getElem? hx)
  obtain ⟨st, hl, d', rfl, h2, h3, h4⟩ := block_inv (T := T) (base := 0) (id := 2) (body := a67_l0)
    (fun k st => ∃ d' : List Nat, st = abkI a b d' i k [] ∧ d'.length = 32 ∧ (∀ x ∈ d', x ≤ (S + k) * 4294967296) ∧ num 65536 d' = num 65536 d + x * num 65536 (b.take k) * 65536 ^ i)
    (Q := fun st => ∃ d' : List Nat, st = abkI a b d' i 16 [(13, .bool false)] ∧ d'.length = 32 ∧ (∀ x ∈ d', x ≤ (S + 16) * 4294967296) ∧ num 65536 d' = num 65536 d + x * num 65536 b * 65536 ^ i)
    16 (s := abkI a b d i 0 []) ⟨d, rfl, hd, by simpa using hM, by simp [num]⟩
    (fun k st hk hs => by
      obtain ⟨d', rfl, h2, h3, h4⟩ := hs
      obtain ⟨y, hy⟩ : ∃ y, b[k]? = some y := ⟨_, List.getElem?_eq_getElem (by rw [hb.len]; omega)⟩
      obtain ⟨v, hv⟩ : ∃ y, d'[i + k]? = some y := ⟨_, List.getElem?_eq_getElem (by omega)⟩
      have hy' := hb.lt y (List.mem_of_getElem? hy)
      have hv' := h3 v (List.mem_of_getElem? hv)
      have hxy : x * y ≤ 65535 * 65535 := Nat.mul_le_mul (by omega) (by omega)
      have hxc := ns_get (k := .u64) hx
      have hyc := ns_get (k := .u64) hy
      have hvc := ns_get (k := .u64) hv
      have l1 := ha.len
      have l2 := hb.len
      have e1 : ((k : Int) < 16) = True := eq_true (by omega)
      have e3 : ((i : Int) < 16) = True := eq_true (by omega)
      have w1 : IntKind.i64.wrap ((k : Int) + 1) = ((k + 1 : Nat) : Int) := wi_add (b := 1) (by omega)
      have w2 : IntKind.i64.wrap ((i : Int) + (k : Int)) = ((i + k : Nat) : Int) := wi_add (by omega)
      have w5 : IntKind.u64.wrap ((x : Int) * (y : Int)) = ((x * y : Nat) : Int) := w64_mul (by omega)
      have w6 : IntKind.u64.wrap ((v : Int) + ((x * y : Nat) : Int)) = ((v + x * y : Nat) : Int) := w64_add (by omega)
      have hset := ns_set .u64 d' (i + k) (v + x * y)
      have hn := num_set (B := 65536) (v + x * y) hv
      refine ⟨abkI a b (d'.set (i + k) (v + x * y)) i ((k + 1 : Nat) : Int) [], ?_, d'.set (i + k) (v + x * y), rfl, by rw [List.length_set]; exact h2, ?_, ?_⟩
      · have e5 : (((i + k : Nat) : Int) < 32) = True := eq_true (by omega)
        have e7 : (i + k ≤ 31) = True := eq_true (by omega)
        generalize d'.set (i + k) (v + x * y) = D' at *
        generalize v + x * y = u at *
        generalize x * y = xy at *
        generalize i + k = j at *
        generalize k + 1 = k1 at *
        simp only [abkI, a67_l0, envOf, evCode_skip, evCode_exit, evCode_seq, fs_blockS, fs_blockR, fs_blockC, fs_blockK, fs_blockB, evCode_ret, quiet, keep_nil, keep_cons, fs_cond, fs_region, fs_regionQ, quiet2_eq, lastOf_nil, lastOf_cons, List.take_succ_cons, List.take_zero, List.drop_succ_cons, List.drop_zero, Int.reduceBEq, Int.reduceBNe,  fs_nil, fs_guard, fs_move, fs_pick, fs_alloc, fs_box, fs_load, fs_store, fs_bin, fs_eqv, fs_isNil, fs_un, fs_conv, fs_convStr, fs_field, fs_index, fs_indexStr, fs_build, fs_buildSlice, fs_fieldAddr, fs_indexAddr, fs_indexSl, fs_sliceArr, fs_sliceSl, fs_sliceStr, fs_makeSlice, fs_extract, fs_mkIface, fs_mkFunc, fs_nilCheck, fs_s2ap, fs_len, fs_minmax, fs_s2b, fs_b2s, fs_append, fs_copy, fs_callW, fs_callR, fs_callv, opd_tmp, opd_const, opd_func, opds_nil, opds_cons, opdOpt_none, opdOpt_some, opdParts_nil, opdParts_cons, get_miss, vPick_t, vPick_f, vEq_agg, vEq_aggN, vEq_bool, vEq_boolN, vConv_int, vStr_s, vField_agg, vIndex_agg, vIndexStr_s, vFieldAddr_p, vIndexAddr_p, vIndexSl_s, vSliceArr_p, vSliceSl_s, vSliceSl_n, vSliceStr_s, vExtract_t, vNilCheck_p, vS2ap_s, vLen_s, vLen_str, vMin_i, vMax_i, vLoad_p, vStore_p, baseP_p, vB2s_s, vMake_i, vS2b_s, callee_f, liveAt_eq, storeAt_eq, partL_none, partL_some, natIn_none, natIn_int, bounds3_two, bin_add, bin_sub, bin_mul, bin_quo, bin_rem, bin_and, bin_or, bin_xor, bin_andNot, bin_eql, bin_neq, bin_lss, bin_leq, bin_gtr, bin_geq, bin_shl, bin_shr, bin_sadd, bin_seql, bin_sneq, un_not, un_neg, un_xor, after_some, put_some, put_none, res_nil, res_val, res_var, packed_one, packed_two, merge_nil, merge_ge, rf_tup2, rfIn_int, rfIn_bool, rfIn_u8s, rf_str, rfIn_str, ↓gate_true, gd_bool, gd_ut, gd_uf, ↓guardV_tt, ↓guardV_ff, ↓guardV_tf, ↓guardV_ft, ↓keepV_some, ↓qElse_some, ↓get_hit, ↓Option.bind_some, ↓if_true, ↓if_false, List.nil_append, List.cons_append, List.all_nil, List.all_cons, List.isEmpty_nil, reduceCtorEq, Bool.false_eq_true, Nat.reduceEqDiff, beq_self_eq_true, bne_self_eq_false, Bool.not_true, Bool.not_false, Int.natCast_nonneg, Nat.lt_irrefl, false_and, Int.reduceEq, rf_int, rf_bool, rf_tuple_ints, rf_u8s, arr_list, toList2, Bool.and_self, Nat.not_lt_zero, Nat.sub_zero, Nat.zero_le, Nat.le_add_right, cells_agg, cells_agg_size, cells_int, cells_int_size, okV_int, okV_bool, okV_str, okV_agg, okV_ptr, okV_slice, okV_func, okV_nilFunc, okV_iface, okV_nilIface, cells_bool, cells_bool_size, cells_ptr, cells_ptr_size, cells_slice, cells_slice_size, cells_str, cells_str_size, eq_self, wrapI64_small, Int.natCast_zero, Int.natCast_one, Int.cast_ofNat_Int, List.length_nil, List.length_cons, List.getElem?_cons_zero, List.getElem?_cons_succ, List.set_cons_zero, List.set_cons_succ, Nat.zero_add, Nat.add_zero, Nat.mul_one, Nat.zero_mul, Int.toNat_natCast, Int.toNat_zero, Int.lt_irrefl, Int.le_refl, Nat.le_refl, and_self, true_and, and_true, decide_true, decide_false, Int.reduceLE, Int.reduceLT, Int.reduceAdd, Int.reduceMul, Int.reduceSub, Int.reduceTDiv, Int.reduceTMod, Int.reduceNeg, Int.reduceToNat, Int.reduceGT, Int.reduceGE, Int.reducePow, Nat.reduceAdd, Nat.reduceMul, Nat.reduceSub, Nat.reduceDiv, Nat.reduceMod, Nat.reducePow, Nat.reduceLT, Nat.reduceLeDiff, Nat.min_self, ge_iff_le, gt_iff_lt, Option.isNone_none, Option.isSome_none, Option.isNone_some, Option.isSome_some, Bool.and_true, Bool.true_and, Bool.and_false, Bool.false_and, not_true_eq_false, not_false_eq_true, or_true, true_or, false_or, or_false, hget0, hgetK, hset0, hsetK, splice_single, splice_whole, take_whole, List.getElem?_nil, List.length_append, List.append_assoc, e1, e3, e5, e7, w1, w2, w5, w6, hxc, hyc, hvc, hset, ns_len, h2, l1, l2]
      · intro z hz
        rcases List.mem_or_eq_of_mem_set hz with h | h
        · exact Nat.le_trans (h3 z h) (Nat.mul_le_mul_right _ (Nat.le_succ _))
        · omega
      · rw [num_take hy]
        have e8 : (v + x * y) * 65536 ^ (i + k) = v * 65536 ^ (i + k) + x * y * 65536 ^ k * 65536 ^ i := by
          rw [Nat.add_mul, Nat.mul_assoc (x * y), ← Nat.pow_add, Nat.add_comm k i]
        rw [Nat.mul_add, Nat.add_mul, ← Nat.mul_assoc x y]
        omega)
    (fun st hs => by
      obtain ⟨d', rfl, h2, h3, h4⟩ := hs
      rw [List.take_of_length_le (by rw [hb.len]; omega)] at h4
      refine ⟨_, ?_, d', rfl, h2, h3, h4⟩
      simp only [abkI, a67_l0, envOf, evCode_skip, evCode_exit, evCode_seq, fs_blockS, fs_blockR, fs_blockC, fs_blockK, fs_blockB, evCode_ret, quiet, keep_nil, keep_cons, fs_cond, fs_region, fs_regionQ, quiet2_eq, lastOf_nil, lastOf_cons, List.take_succ_cons, List.take_zero, List.drop_succ_cons, List.drop_zero, Int.reduceBEq, Int.reduceBNe,  fs_nil, fs_guard, fs_move, fs_pick, fs_alloc, fs_box, fs_load, fs_store, fs_bin, fs_eqv, fs_isNil, fs_un, fs_conv, fs_convStr, fs_field, fs_index, fs_indexStr, fs_build, fs_buildSlice, fs_fieldAddr, fs_indexAddr, fs_indexSl, fs_sliceArr, fs_sliceSl, fs_sliceStr, fs_makeSlice, fs_extract, fs_mkIface, fs_mkFunc, fs_nilCheck, fs_s2ap, fs_len, fs_minmax, fs_s2b, fs_b2s, fs_append, fs_copy, fs_callW, fs_callR, fs_callv, opd_tmp, opd_const, opd_func, opds_nil, opds_cons, opdOpt_none, opdOpt_some, opdParts_nil, opdParts_cons, get_miss, vPick_t, vPick_f, vEq_agg, vEq_aggN, vEq_bool, vEq_boolN, vConv_int, vStr_s, vField_agg, vIndex_agg, vIndexStr_s, vFieldAddr_p, vIndexAddr_p, vIndexSl_s, vSliceArr_p, vSliceSl_s, vSliceSl_n, vSliceStr_s, vExtract_t, vNilCheck_p, vS2ap_s, vLen_s, vLen_str, vMin_i, vMax_i, vLoad_p, vStore_p, baseP_p, vB2s_s, vMake_i, vS2b_s, callee_f, liveAt_eq, storeAt_eq, partL_none, partL_some, natIn_none, natIn_int, bounds3_two, bin_add, bin_sub, bin_mul, bin_quo, bin_rem, bin_and, bin_or, bin_xor, bin_andNot, bin_eql, bin_neq, bin_lss, bin_leq, bin_gtr, bin_geq, bin_shl, bin_shr, bin_sadd, bin_seql, bin_sneq, un_not, un_neg, un_xor, after_some, put_some, put_none, res_nil, res_val, res_var, packed_one, packed_two, merge_nil, merge_ge, rf_tup2, rfIn_int, rfIn_bool, rfIn_u8s, rf_str, rfIn_str, ↓gate_true, gd_bool, gd_ut, gd_uf, ↓guardV_tt, ↓guardV_ff, ↓guardV_tf, ↓guardV_ft, ↓keepV_some, ↓qElse_some, ↓get_hit, ↓Option.bind_some, ↓if_true, ↓if_false, List.nil_append, List.cons_append, List.all_nil, List.all_cons, List.isEmpty_nil, reduceCtorEq, Bool.false_eq_true, Nat.reduceEqDiff, beq_self_eq_true, bne_self_eq_false, Bool.not_true, Bool.not_false, Int.natCast_nonneg, Nat.lt_irrefl, false_and, Int.reduceEq, rf_int, rf_bool, rf_tuple_ints, rf_u8s, arr_list, toList2, Bool.and_self, Nat.not_lt_zero, Nat.sub_zero, Nat.zero_le, Nat.le_add_right, cells_agg, cells_agg_size, cells_int, cells_int_size, okV_int, okV_bool, okV_str, okV_agg, okV_ptr, okV_slice, okV_func, okV_nilFunc, okV_iface, okV_nilIface, cells_bool, cells_bool_size, cells_ptr, cells_ptr_size, cells_slice, cells_slice_size, cells_str, cells_str_size, eq_self, wrapI64_small, Int.natCast_zero, Int.natCast_one, Int.cast_ofNat_Int, List.length_nil, List.length_cons, List.getElem?_cons_zero, List.getElem?_cons_succ, List.set_cons_zero, List.set_cons_succ, Nat.zero_add, Nat.add_zero, Nat.mul_one, Nat.zero_mul, Int.toNat_natCast, Int.toNat_zero, Int.lt_irrefl, Int.le_refl, Nat.le_refl, and_self, true_and, and_true, decide_true, decide_false, Int.reduceLE, Int.reduceLT, Int.reduceAdd, Int.reduceMul, Int.reduceSub, Int.reduceTDiv, Int.reduceTMod, Int.reduceNeg, Int.reduceToNat, Int.reduceGT, Int.reduceGE, Int.reducePow, Nat.reduceAdd, Nat.reduceMul, Nat.reduceSub, Nat.reduceDiv, Nat.reduceMod, Nat.reducePow, Nat.reduceLT, Nat.reduceLeDiff, Nat.min_self, ge_iff_le, gt_iff_lt, Option.isNone_none, Option.isSome_none, Option.isNone_some, Option.isSome_some, Bool.and_true, Bool.true_and, Bool.and_false, Bool.false_and, not_true_eq_false, not_false_eq_true, or_true, true_or, false_or, or_false])
  exact ⟨d', hl, h2, h3, h4⟩
theorem rmul_block {a b : List Nat} (ha : Nm a) (hb : Nm b) :
    ∃ d, evCode T 0 (.block 0 (.loop a67_l1)) (abI a b zero32 0 []) = some (.normal, abI a b d 16 [(9, .bool false)]) ∧ d.length = 32 ∧ (∀ x ∈ d, x < 2 ^ 44) ∧ num 65536 d = num 65536 a * num 65536 b := by
  obtain ⟨st, hl, o, rfl, h1, h2, h3⟩ := block_inv (T := T) (base := 0) (id := 0) (body := a67_l1)
    (fun i st => ∃ (o : List Nat) (ex : Env), st = abI a b o i ex ∧ o.length = 32 ∧ (∀ x ∈ o, x ≤ (i * 16) * 4294967296) ∧ num 65536 o = num 65536 (a.take i) * num 65536 b)
    (Q := fun st => ∃ o : List Nat, st = abI a b o 16 [(9, .bool false)] ∧ o.length = 32 ∧ (∀ x ∈ o, x < 2 ^ 44) ∧ num 65536 o = num 65536 a * num 65536 b)
    16 (s := abI a b zero32 0 []) ⟨zero32, [], rfl, rfl, by decide, by simp [num]; decide⟩
    (fun i st hi hs => by
      obtain ⟨o, ex, rfl, h1, h2, h3⟩ := hs
      obtain ⟨x, hx⟩ : ∃ x, a[i]? = some x := ⟨_, List.getElem?_eq_getElem (by rw [ha.len]; omega)⟩
      obtain ⟨d', hb', g1, g2, g3⟩ := rmul_inner ha hb hi hx h1 h2 (by omega)
      simp only [abkI, List.cons_append, List.nil_append, Int.natCast_zero] at hb'
      have w1 : IntKind.i64.wrap ((i : Int) + 1) = ((i + 1 : Nat) : Int) := wi_add (b := 1) (by omega)
      have e1 : ((i : Int) < 16) = True := eq_true (by omega)
      refine ⟨abI a b d' ((i + 1 : Nat) : Int) [], ?_, d', [], rfl, g1, ?_, ?_⟩
      · simp only [abI, a67_l1, envOf, evCode_skip, evCode_exit, evCode_seq, fs_blockS, fs_blockR, fs_blockC, fs_blockK, fs_blockB, evCode_ret, quiet, keep_nil, keep_cons, fs_cond, fs_region, fs_regionQ, quiet2_eq, lastOf_nil, lastOf_cons, List.take_succ_cons, List.take_zero, List.drop_succ_cons, List.drop_zero, Int.reduceBEq, Int.reduceBNe,  fs_nil, fs_guard, fs_move, fs_pick, fs_alloc, fs_box, fs_load, fs_store, fs_bin, fs_eqv, fs_isNil, fs_un, fs_conv, fs_convStr, fs_field, fs_index, fs_indexStr, fs_build, fs_buildSlice, fs_fieldAddr, fs_indexAddr, fs_indexSl, fs_sliceArr, fs_sliceSl, fs_sliceStr, fs_makeSlice, fs_extract, fs_mkIface, fs_mkFunc, fs_nilCheck, fs_s2ap, fs_len, fs_minmax, fs_s2b, fs_b2s, fs_append, fs_copy, fs_callW, fs_callR, fs_callv, opd_tmp, opd_const, opd_func, opds_nil, opds_cons, opdOpt_none, opdOpt_some, opdParts_nil, opdParts_cons, get_miss, vPick_t, vPick_f, vEq_agg, vEq_aggN, vEq_bool, vEq_boolN, vConv_int, vStr_s, vField_agg, vIndex_agg, vIndexStr_s, vFieldAddr_p, vIndexAddr_p, vIndexSl_s, vSliceArr_p, vSliceSl_s, vSliceSl_n, vSliceStr_s, vExtract_t, vNilCheck_p, vS2ap_s, vLen_s, vLen_str, vMin_i, vMax_i, vLoad_p, vStore_p, baseP_p, vB2s_s, vMake_i, vS2b_s, callee_f, liveAt_eq, storeAt_eq, partL_none, partL_some, natIn_none, natIn_int, bounds3_two, bin_add, bin_sub, bin_mul, bin_quo, bin_rem, bin_and, bin_or, bin_xor, bin_andNot, bin_eql, bin_neq, bin_lss, bin_leq, bin_gtr, bin_geq, bin_shl, bin_shr, bin_sadd, bin_seql, bin_sneq, un_not, un_neg, un_xor, after_some, put_some, put_none, res_nil, res_val, res_var, packed_one, packed_two, merge_nil, merge_ge, rf_tup2, rfIn_int, rfIn_bool, rfIn_u8s, rf_str, rfIn_str, ↓gate_true, gd_bool, gd_ut, gd_uf, ↓guardV_tt, ↓guardV_ff, ↓guardV_tf, ↓guardV_ft, ↓keepV_some, ↓qElse_some, ↓get_hit, ↓Option.bind_some, ↓if_true, ↓if_false, List.nil_append, List.cons_append, List.all_nil, List.all_cons, List.isEmpty_nil, reduceCtorEq, Bool.false_eq_true, Nat.reduceEqDiff, beq_self_eq_true, bne_self_eq_false, Bool.not_true, Bool.not_false, Int.natCast_nonneg, Nat.lt_irrefl, false_and, Int.reduceEq, rf_int, rf_bool, rf_tuple_ints, rf_u8s, arr_list, toList2, Bool.and_self, Nat.not_lt_zero, Nat.sub_zero, Nat.zero_le, Nat.le_add_right, cells_agg, cells_agg_size, cells_int, cells_int_size, okV_int, okV_bool, okV_str, okV_agg, okV_ptr, okV_slice, okV_func, okV_nilFunc, okV_iface, okV_nilIface, cells_bool, cells_bool_size, cells_ptr, cells_ptr_size, cells_slice, cells_slice_size, cells_str, cells_str_size, eq_self, wrapI64_small, Int.natCast_zero, Int.natCast_one, Int.cast_ofNat_Int, List.length_nil, List.length_cons, List.getElem?_cons_zero, List.getElem?_cons_succ, List.set_cons_zero, List.set_cons_succ, Nat.zero_add, Nat.add_zero, Nat.mul_one, Nat.zero_mul, Int.toNat_natCast, Int.toNat_zero, Int.lt_irrefl, Int.le_refl, Nat.le_refl, and_self, true_and, and_true, decide_true, decide_false, Int.reduceLE, Int.reduceLT, Int.reduceAdd, Int.reduceMul, Int.reduceSub, Int.reduceTDiv, Int.reduceTMod, Int.reduceNeg, Int.reduceToNat, Int.reduceGT, Int.reduceGE, Int.reducePow, Nat.reduceAdd, Nat.reduceMul, Nat.reduceSub, Nat.reduceDiv, Nat.reduceMod, Nat.reducePow, Nat.reduceLT, Nat.reduceLeDiff, Nat.min_self, ge_iff_le, gt_iff_lt, Option.isNone_none, Option.isSome_none, Option.isNone_some, Option.isSome_some, Bool.and_true, Bool.true_and, Bool.and_false, Bool.false_and, not_true_eq_false, not_false_eq_true, or_true, true_or, false_or, or_false, hget0, hgetK, hset0, hsetK, splice_single, splice_whole, take_whole, List.getElem?_nil, List.length_append, List.append_assoc, e1, w1, hb']
      · intro z hz
        exact Nat.le_trans (g2 z hz) (Nat.mul_le_mul_right _ (by omega))
      · rw [g3, h3, num_take hx, Nat.add_mul, Nat.mul_assoc, Nat.mul_assoc, Nat.mul_comm (num 65536 b) (65536 ^ i)])
    (fun st hs => by
      obtain ⟨o, ex, rfl, h1, h2, h3⟩ := hs
      rw [List.take_of_length_le (by rw [ha.len]; omega)] at h3
      refine ⟨_, ?_, o, rfl, h1, fun x hx => Nat.lt_of_le_of_lt (h2 x hx) (by decide), h3⟩
      simp only [abI, a67_l1, envOf, evCode_skip, evCode_exit, evCode_seq, fs_blockS, fs_blockR, fs_blockC, fs_blockK, fs_blockB, evCode_ret, quiet, keep_nil, keep_cons, fs_cond, fs_region, fs_regionQ, quiet2_eq, lastOf_nil, lastOf_cons, List.take_succ_cons, List.take_zero, List.drop_succ_cons, List.drop_zero, Int.reduceBEq, Int.reduceBNe,  fs_nil, fs_guard, fs_move, fs_pick, fs_alloc, fs_box, fs_load, fs_store, fs_bin, fs_eqv, fs_isNil, fs_un, fs_conv, fs_convStr, fs_field, fs_index, fs_indexStr, fs_build, fs_buildSlice, fs_fieldAddr, fs_indexAddr, fs_indexSl, fs_sliceArr, fs_sliceSl, fs_sliceStr, fs_makeSlice, fs_extract, fs_mkIface, fs_mkFunc, fs_nilCheck, fs_s2ap, fs_len, fs_minmax, fs_s2b, fs_b2s, fs_append, fs_copy, fs_callW, fs_callR, fs_callv, opd_tmp, opd_const, opd_func, opds_nil, opds_cons, opdOpt_none, opdOpt_some, opdParts_nil, opdParts_cons, get_miss, vPick_t, vPick_f, vEq_agg, vEq_aggN, vEq_bool, vEq_boolN, vConv_int, vStr_s, vField_agg, vIndex_agg, vIndexStr_s, vFieldAddr_p, vIndexAddr_p, vIndexSl_s, vSliceArr_p, vSliceSl_s, vSliceSl_n, vSliceStr_s, vExtract_t, vNilCheck_p, vS2ap_s, vLen_s, vLen_str, vMin_i, vMax_i, vLoad_p, vStore_p, baseP_p, vB2s_s, vMake_i, vS2b_s, callee_f, liveAt_eq, storeAt_eq, partL_none, partL_some, natIn_none, natIn_int, bounds3_two, bin_add, bin_sub, bin_mul, bin_quo, bin_rem, bin_and, bin_or, bin_xor, bin_andNot, bin_eql, bin_neq, bin_lss, bin_leq, bin_gtr, bin_geq, bin_shl, bin_shr, bin_sadd, bin_seql, bin_sneq, un_not, un_neg, un_xor, after_some, put_some, put_none, res_nil, res_val, res_var, packed_one, packed_two, merge_nil, merge_ge, rf_tup2, rfIn_int, rfIn_bool, rfIn_u8s, rf_str, rfIn_str, ↓gate_true, gd_bool, gd_ut, gd_uf, ↓guardV_tt, ↓guardV_ff, ↓guardV_tf, ↓guardV_ft, ↓keepV_some, ↓qElse_some, ↓get_hit, ↓Option.bind_some, ↓if_true, ↓if_false, List.nil_append, List.cons_append, List.all_nil, List.all_cons, List.isEmpty_nil, reduceCtorEq, Bool.false_eq_true, Nat.reduceEqDiff, beq_self_eq_true, bne_self_eq_false, Bool.not_true, Bool.not_false, Int.natCast_nonneg, Nat.lt_irrefl, false_and, Int.reduceEq, rf_int, rf_bool, rf_tuple_ints, rf_u8s, arr_list, toList2, Bool.and_self, Nat.not_lt_zero, Nat.sub_zero, Nat.zero_le, Nat.le_add_right, cells_agg, cells_agg_size, cells_int, cells_int_size, okV_int, okV_bool, okV_str, okV_agg, okV_ptr, okV_slice, okV_func, okV_nilFunc, okV_iface, okV_nilIface, cells_bool, cells_bool_size, cells_ptr, cells_ptr_size, cells_slice, cells_slice_size, cells_str, cells_str_size, eq_self, wrapI64_small, Int.natCast_zero, Int.natCast_one, Int.cast_ofNat_Int, List.length_nil, List.length_cons, List.getElem?_cons_zero, List.getElem?_cons_succ, List.set_cons_zero, List.set_cons_succ, Nat.zero_add, Nat.add_zero, Nat.mul_one, Nat.zero_mul, Int.toNat_natCast, Int.toNat_zero, Int.lt_irrefl, Int.le_refl, Nat.le_refl, and_self, true_and, and_true, decide_true, decide_false, Int.reduceLE, Int.reduceLT, Int.reduceAdd, Int.reduceMul, Int.reduceSub, Int.reduceTDiv, Int.reduceTMod, Int.reduceNeg, Int.reduceToNat, Int.reduceGT, Int.reduceGE, Int.reducePow, Nat.reduceAdd, Nat.reduceMul, Nat.reduceSub, Nat.reduceDiv, Nat.reduceMod, Nat.reducePow, Nat.reduceLT, Nat.reduceLeDiff, Nat.min_self, ge_iff_le, gt_iff_lt, Option.isNone_none, Option.isSome_none, Option.isNone_some, Option.isSome_some, Bool.and_true, Bool.true_and, Bool.and_false, Bool.false_and, not_true_eq_false, not_false_eq_true, or_true, true_or, false_or, or_false])
  exact ⟨o, hl, h1, h2, h3⟩
theorem rmul_v {a b : List Nat} (ha : Nm a) (hb : Nm b) : ∃ r, evVal T 67 [eV a, eV b] = some (eV r) ∧ Nm r ∧ nf r = nf a * nf b := by
  obtain ⟨d, hd, l1, h2, h3⟩ := rmul_block ha hb
  have hal := ha.num_lt
  have hbl := hb.num_lt
  obtain ⟨r, hr, hN, hf⟩ := rfold_v l1 h2 (by
    rw [h3]
    have e : (65536 : Nat) ^ 32 = 2 ^ 256 * 2 ^ 256 := by decide
    rw [e]
    exact Nat.mul_lt_mul'' hal hbl)
  refine ⟨r, ?_, hN, by rw [hf, h3, Go.Fp.fp_mul]; rfl⟩
  simp only [abI, List.cons_append, List.nil_append, Int.natCast_zero] at hd
  have hz := z16_eq
  have lz := z16_len
  have hz2 := z32u_eq
  have lz2 := z32u_len
  have la := ha.len
  have lb := hb.len
  have lr := hN.len
  generalize zero16 = Z at *
  generalize zero32 = Z2 at *
  apply evVal_ex
  apply Exists.intro
  rw [evFun_fn (fn := a67) rfl]
  simp only [a67, ↓steps_chunk, envOf, evCode_skip, evCode_exit, evCode_seq, fs_blockS, fs_blockR, fs_blockC, fs_blockK, fs_blockB, evCode_ret, quiet, keep_nil, keep_cons, fs_cond, fs_region, fs_regionQ, quiet2_eq, lastOf_nil, lastOf_cons, List.take_succ_cons, List.take_zero, List.drop_succ_cons, List.drop_zero, Int.reduceBEq, Int.reduceBNe,  fs_nil, fs_guard, fs_move, fs_pick, fs_alloc, fs_box, fs_load, fs_store, fs_bin, fs_eqv, fs_isNil, fs_un, fs_conv, fs_convStr, fs_field, fs_index, fs_indexStr, fs_build, fs_buildSlice, fs_fieldAddr, fs_indexAddr, fs_indexSl, fs_sliceArr, fs_sliceSl, fs_sliceStr, fs_makeSlice, fs_extract, fs_mkIface, fs_mkFunc, fs_nilCheck, fs_s2ap, fs_len, fs_minmax, fs_s2b, fs_b2s, fs_append, fs_copy, fs_callW, fs_callR, fs_callv, opd_tmp, opd_const, opd_func, opds_nil, opds_cons, opdOpt_none, opdOpt_some, opdParts_nil, opdParts_cons, get_miss, vPick_t, vPick_f, vEq_agg, vEq_aggN, vEq_bool, vEq_boolN, vConv_int, vStr_s, vField_agg, vIndex_agg, vIndexStr_s, vFieldAddr_p, vIndexAddr_p, vIndexSl_s, vSliceArr_p, vSliceSl_s, vSliceSl_n, vSliceStr_s, vExtract_t, vNilCheck_p, vS2ap_s, vLen_s, vLen_str, vMin_i, vMax_i, vLoad_p, vStore_p, baseP_p, vB2s_s, vMake_i, vS2b_s, callee_f, liveAt_eq, storeAt_eq, partL_none, partL_some, natIn_none, natIn_int, bounds3_two, bin_add, bin_sub, bin_mul, bin_quo, bin_rem, bin_and, bin_or, bin_xor, bin_andNot, bin_eql, bin_neq, bin_lss, bin_leq, bin_gtr, bin_geq, bin_shl, bin_shr, bin_sadd, bin_seql, bin_sneq, un_not, un_neg, un_xor, after_some, put_some, put_none, res_nil, res_val, res_var, packed_one, packed_two, merge_nil, merge_ge, rf_tup2, rfIn_int, rfIn_bool, rfIn_u8s, rf_str, rfIn_str, ↓gate_true, gd_bool, gd_ut, gd_uf, ↓guardW_tt, ↓guardW_ff, ↓guardW_tf, ↓guardW_ft, ↓keepW_some, ↓qElseW_some, ↓get_hit, ↓Option.bind_some, ↓if_true, ↓if_false, List.nil_append, List.cons_append, List.all_nil, List.all_cons, List.isEmpty_nil, reduceCtorEq, Bool.false_eq_true, Nat.reduceEqDiff, beq_self_eq_true, bne_self_eq_false, Bool.not_true, Bool.not_false, Int.natCast_nonneg, Nat.lt_irrefl, false_and, Int.reduceEq, rf_int, rf_bool, rf_tuple_ints, rf_u8s, arr_list, toList2, Bool.and_self, Nat.not_lt_zero, Nat.sub_zero, Nat.zero_le, Nat.le_add_right, cells_agg, cells_agg_size, cells_int, cells_int_size, okV_int, okV_bool, okV_str, okV_agg, okV_ptr, okV_slice, okV_func, okV_nilFunc, okV_iface, okV_nilIface, cells_bool, cells_bool_size, cells_ptr, cells_ptr_size, cells_slice, cells_slice_size, cells_str, cells_str_size, eq_self, wrapI64_small, Int.natCast_zero, Int.natCast_one, Int.cast_ofNat_Int, List.length_nil, List.length_cons, List.getElem?_cons_zero, List.getElem?_cons_succ, List.set_cons_zero, List.set_cons_succ, Nat.zero_add, Nat.add_zero, Nat.mul_one, Nat.zero_mul, Int.toNat_natCast, Int.toNat_zero, Int.lt_irrefl, Int.le_refl, Nat.le_refl, and_self, true_and, and_true, decide_true, decide_false, Int.reduceLE, Int.reduceLT, Int.reduceAdd, Int.reduceMul, Int.reduceSub, Int.reduceTDiv, Int.reduceTMod, Int.reduceNeg, Int.reduceToNat, Int.reduceGT, Int.reduceGE, Int.reducePow, Nat.reduceAdd, Nat.reduceMul, Nat.reduceSub, Nat.reduceDiv, Nat.reduceMod, Nat.reducePow, Nat.reduceLT, Nat.reduceLeDiff, Nat.min_self, ge_iff_le, gt_iff_lt, Option.isNone_none, Option.isSome_none, Option.isNone_some, Option.isSome_some, Bool.and_true, Bool.true_and, Bool.and_false, Bool.false_and, not_true_eq_false, not_false_eq_true, or_true, true_or, false_or, or_false, hget0, hgetK, hset0, hsetK, splice_single, splice_whole, take_whole, List.getElem?_nil, List.length_append, List.append_assoc, hz, hz2, hd, hr, List.length_replicate, take_all, eV_cells, eV_size, eV_ok, eV_fold, ns_len, la, lb, l1, lr, lz, lz2, rf_eV]
  rfl
end Go.Ev.Ytaceeoghjgggjaa
set_option linter.unusedSimpArgs false
set_option linter.unusedVariables false
namespace Go.Ev.Ytaceeoghjgggjaa
open Go Go.Ev
attribute [local congr] bind_congr2 ite_congr2 qElse_congr gate_congr guardV_congr
set_option maxRecDepth 100000
def rpH (a n o : List Nat) : List Ob := [⟨ns .u64 a, true, true, true, 1⟩, ⟨ns .u64 n, true, true, true, 1⟩, ⟨ns .u64 zero16, true, true, true, 1⟩, ⟨ns .u64 o, true, true, true, 1⟩]
def rpI (a n o : List Nat) (i : Int) (ex : Env) : St := ⟨[(2, .pointer (some ⟨0, 0, none⟩)), (3, .pointer (some ⟨1, 0, none⟩)), (4, .pointer (some ⟨2, 0, none⟩)), (5, .pointer (some ⟨3, 0, none⟩)), (6, .int .i64 i)] ++ ex, rpH a n o, []⟩
def rbI (a n o : List Nat) (i : Int) (w k : Nat) (ex : Env) : St := ⟨[(2, .pointer (some ⟨0, 0, none⟩)), (3, .pointer (some ⟨1, 0, none⟩)), (4, .pointer (some ⟨2, 0, none⟩)), (5, .pointer (some ⟨3, 0, none⟩)), (6, .int .i64 i), (7, .int .u64 w), (8, .int .i64 k)] ++ ex, rpH a n o, []⟩
theorem rb_block {a n o : List Nat} {i w : Nat} (hi : i < 256) (hw : w < 65536) :
    evCode T 0 (.block 2 (.loop a88_l0)) (rbI a n o i w 0 []) = some (.normal, rbI a n o i (w / 2 ^ (i % 16)) (i % 16) [(24, .bool false)]) := by
  have e3 : (i : Int).tmod 16 = ((i % 16 : Nat) : Int) := rfl
  have h := block_loop (T := T) (base := 0) (id := 2) (body := a88_l0) (fun k => rbI a n o i (w / 2 ^ k) k []) (s' := rbI a n o i (w / 2 ^ (i % 16)) (i % 16) [(24, .bool false)]) (i % 16)
    (fun k hk => by
      have h16 := Nat.mod_lt i (by decide : 0 < 16)
      have e1 : ((k : Int) < ((i % 16 : Nat) : Int)) = True := eq_true (by omega)
      have w1 : IntKind.i64.wrap ((k : Int) + 1) = ((k + 1 : Nat) : Int) := wi_add (b := 1) (by omega)
      have hle : w / 2 ^ k ≤ w := Nat.div_le_self _ _
      have w2 : IntKind.u64.wrap (((w / 2 ^ k : Nat) : Int).tdiv 2) = ((w / 2 ^ k / 2 : Nat) : Int) := w64n (n := w / 2 ^ k / 2) (by omega)
      rw [Nat.pow_succ, ← Nat.div_div_eq_div_mul]
      generalize w / 2 ^ k = v at *
      generalize v / 2 = u at *
      generalize i % 16 = m at *
      simp only [rbI, rpH, a88_l0, envOf, evCode_skip, evCode_exit, evCode_seq, fs_blockS, fs_blockR, fs_blockC, fs_blockK, fs_blockB, evCode_ret, quiet, keep_nil, keep_cons, fs_cond, fs_region, fs_regionQ, quiet2_eq, lastOf_nil, lastOf_cons, List.take_succ_cons, List.take_zero, List.drop_succ_cons, List.drop_zero, Int.reduceBEq, Int.reduceBNe,  fs_nil, fs_guard, fs_move, fs_pick, fs_alloc, fs_box, fs_load, fs_store, fs_bin, fs_eqv, fs_isNil, fs_un, fs_conv, fs_convStr, fs_field, fs_index, fs_indexStr, fs_build, fs_buildSlice, fs_fieldAddr, fs_indexAddr, fs_indexSl, fs_sliceArr, fs_sliceSl, fs_sliceStr, fs_makeSlice, fs_extract, fs_mkIface, fs_mkFunc, fs_nilCheck, fs_s2ap, fs_len, fs_minmax, fs_s2b, fs_b2s, fs_append, fs_copy, fs_callW, fs_callR, fs_callv, opd_tmp, opd_const, opd_func, opds_nil, opds_cons, opdOpt_none, opdOpt_some, opdParts_nil, opdParts_cons, get_miss, vPick_t, vPick_f, vEq_agg, vEq_aggN, vEq_bool, vEq_boolN, vConv_int, vStr_s, vField_agg, vIndex_agg, vIndexStr_s, vFieldAddr_p, vIndexAddr_p, vIndexSl_s, vSliceArr_p, vSliceSl_s, vSliceSl_n, vSliceStr_s, vExtract_t, vNilCheck_p, vS2ap_s, vLen_s, vLen_str, vMin_i, vMax_i, vLoad_p, vStore_p, baseP_p, vB2s_s, vMake_i, vS2b_s, callee_f, liveAt_eq, storeAt_eq, partL_none, partL_some, natIn_none, natIn_int, bounds3_two, bin_add, bin_sub, bin_mul, bin_quo, bin_rem, bin_and, bin_or, bin_xor, bin_andNot, bin_eql, bin_neq, bin_lss, bin_leq, bin_gtr, bin_geq, bin_shl, bin_shr, bin_sadd, bin_seql, bin_sneq, un_not, un_neg, un_xor, after_some, put_some, put_none, res_nil, res_val, res_var, packed_one, packed_two, merge_nil, merge_ge, rf_tup2, rfIn_int, rfIn_bool, rfIn_u8s, rf_str, rfIn_str, ↓gate_true, gd_bool, gd_ut, gd_uf, ↓guardV_tt, ↓guardV_ff, ↓guardV_tf, ↓guardV_ft, ↓keepV_some, ↓qElse_some, ↓get_hit, ↓Option.bind_some, ↓if_true, ↓if_false, List.nil_append, List.cons_append, List.all_nil, List.all_cons, List.isEmpty_nil, reduceCtorEq, Bool.false_eq_true, Nat.reduceEqDiff, beq_self_eq_true, bne_self_eq_false, Bool.not_true, Bool.not_false, Int.natCast_nonneg, Nat.lt_irrefl, false_and, Int.reduceEq, rf_int, rf_bool, rf_tuple_ints, rf_u8s, arr_list, toList2, Bool.and_self, Nat.not_lt_zero, Nat.sub_zero, Nat.zero_le, Nat.le_add_right, cells_agg, cells_agg_size, cells_int, cells_int_size, okV_int, okV_bool, okV_str, okV_agg, okV_ptr, okV_slice, okV_func, okV_nilFunc, okV_iface, okV_nilIface, cells_bool, cells_bool_size, cells_ptr, cells_ptr_size, cells_slice, cells_slice_size, cells_str, cells_str_size, eq_self, wrapI64_small, Int.natCast_zero, Int.natCast_one, Int.cast_ofNat_Int, List.length_nil, List.length_cons, List.getElem?_cons_zero, List.getElem?_cons_succ, List.set_cons_zero, List.set_cons_succ, Nat.zero_add, Nat.add_zero, Nat.mul_one, Nat.zero_mul, Int.toNat_natCast, Int.toNat_zero, Int.lt_irrefl, Int.le_refl, Nat.le_refl, and_self, true_and, and_true, decide_true, decide_false, Int.reduceLE, Int.reduceLT, Int.reduceAdd, Int.reduceMul, Int.reduceSub, Int.reduceTDiv, Int.reduceTMod, Int.reduceNeg, Int.reduceToNat, Int.reduceGT, Int.reduceGE, Int.reducePow, Nat.reduceAdd, Nat.reduceMul, Nat.reduceSub, Nat.reduceDiv, Nat.reduceMod, Nat.reducePow, Nat.reduceLT, Nat.reduceLeDiff, Nat.min_self, ge_iff_le, gt_iff_lt, Option.isNone_none, Option.isSome_none, Option.isNone_some, Option.isSome_some, Bool.and_true, Bool.true_and, Bool.and_false, Bool.false_and, not_true_eq_false, not_false_eq_true, or_true, true_or, false_or, or_false, hget0, hgetK, hset0, hsetK, splice_single, splice_whole, take_whole, List.getElem?_nil, List.length_append, List.append_assoc, e1, e3, w1, w2])
    (by
      generalize w / 2 ^ (i % 16) = v at *
      generalize i % 16 = m at *
      simp only [rbI, rpH, a88_l0, envOf, evCode_skip, evCode_exit, evCode_seq, fs_blockS, fs_blockR, fs_blockC, fs_blockK, fs_blockB, evCode_ret, quiet, keep_nil, keep_cons, fs_cond, fs_region, fs_regionQ, quiet2_eq, lastOf_nil, lastOf_cons, List.take_succ_cons, List.take_zero, List.drop_succ_cons, List.drop_zero, Int.reduceBEq, Int.reduceBNe,  fs_nil, fs_guard, fs_move, fs_pick, fs_alloc, fs_box, fs_load, fs_store, fs_bin, fs_eqv, fs_isNil, fs_un, fs_conv, fs_convStr, fs_field, fs_index, fs_indexStr, fs_build, fs_buildSlice, fs_fieldAddr, fs_indexAddr, fs_indexSl, fs_sliceArr, fs_sliceSl, fs_sliceStr, fs_makeSlice, fs_extract, fs_mkIface, fs_mkFunc, fs_nilCheck, fs_s2ap, fs_len, fs_minmax, fs_s2b, fs_b2s, fs_append, fs_copy, fs_callW, fs_callR, fs_callv, opd_tmp, opd_const, opd_func, opds_nil, opds_cons, opdOpt_none, opdOpt_some, opdParts_nil, opdParts_cons, get_miss, vPick_t, vPick_f, vEq_agg, vEq_aggN, vEq_bool, vEq_boolN, vConv_int, vStr_s, vField_agg, vIndex_agg, vIndexStr_s, vFieldAddr_p, vIndexAddr_p, vIndexSl_s, vSliceArr_p, vSliceSl_s, vSliceSl_n, vSliceStr_s, vExtract_t, vNilCheck_p, vS2ap_s, vLen_s, vLen_str, vMin_i, vMax_i, vLoad_p, vStore_p, baseP_p, vB2s_s, vMake_i, vS2b_s, callee_f, liveAt_eq, storeAt_eq, partL_none, partL_some, natIn_none, natIn_int, bounds3_two, bin_add, bin_sub, bin_mul, bin_quo, bin_rem, bin_and, bin_or, bin_xor, bin_andNot, bin_eql, bin_neq, bin_lss, bin_leq, bin_gtr, bin_geq, bin_shl, bin_shr, bin_sadd, bin_seql, bin_sneq, un_not, un_neg, un_xor, after_some, put_some, put_none, res_nil, res_val, res_var, packed_one, packed_two, merge_nil, merge_ge, rf_tup2, rfIn_int, rfIn_bool, rfIn_u8s, rf_str, rfIn_str, ↓gate_true, gd_bool, gd_ut, gd_uf, ↓guardV_tt, ↓guardV_ff, ↓guardV_tf, ↓guardV_ft, ↓keepV_some, ↓qElse_some, ↓get_hit, ↓Option.bind_some, ↓if_true, ↓if_false, List.nil_append, List.cons_append, List.all_nil, List.all_cons, List.isEmpty_nil, reduceCtorEq, Bool.false_eq_true, Nat.reduceEqDiff, beq_self_eq_true, bne_self_eq_false, Bool.not_true, Bool.not_false, Int.natCast_nonneg, Nat.lt_irrefl, false_and, Int.reduceEq, rf_int, rf_bool, rf_tuple_ints, rf_u8s, arr_list, toList2, Bool.and_self, Nat.not_lt_zero, Nat.sub_zero, Nat.zero_le, Nat.le_add_right, cells_agg, cells_agg_size, cells_int, cells_int_size, okV_int, okV_bool, okV_str, okV_agg, okV_ptr, okV_slice, okV_func, okV_nilFunc, okV_iface, okV_nilIface, cells_bool, cells_bool_size, cells_ptr, cells_ptr_size, cells_slice, cells_slice_size, cells_str, cells_str_size, eq_self, wrapI64_small, Int.natCast_zero, Int.natCast_one, Int.cast_ofNat_Int, List.length_nil, List.length_cons, List.getElem?_cons_zero, List.getElem?_cons_succ, List.set_cons_zero, List.set_cons_succ, Nat.zero_add, Nat.add_zero, Nat.mul_one, Nat.zero_mul, Int.toNat_natCast, Int.toNat_zero, Int.lt_irrefl, Int.le_refl, Nat.le_refl, and_self, true_and, and_true, decide_true, decide_false, Int.reduceLE, Int.reduceLT, Int.reduceAdd, Int.reduceMul, Int.reduceSub, Int.reduceTDiv, Int.reduceTMod, Int.reduceNeg, Int.reduceToNat, Int.reduceGT, Int.reduceGE, Int.reducePow, Nat.reduceAdd, Nat.reduceMul, Nat.reduceSub, Nat.reduceDiv, Nat.reduceMod, Nat.reducePow, Nat.reduceLT, Nat.reduceLeDiff, Nat.min_self, ge_iff_le, gt_iff_lt, Option.isNone_none, Option.isSome_none, Option.isNone_some, Option.isSome_some, Bool.and_true, Bool.true_and, Bool.and_false, Bool.false_and, not_true_eq_false, not_false_eq_true, or_true, true_or, false_or, or_false, hget0, hgetK, hset0, hsetK, splice_single, splice_whole, take_whole, List.getElem?_nil, List.length_append, List.append_assoc, e3])
  rw [Nat.pow_zero, Nat.div_one] at h
  exact h
theorem rp_body {a n o : List Nat} {i : Nat} {ex : Env} (ha : Nm a) (hn : Nm n) (hi : i < 256) (ho : Nm o) (hp : nf o = Go.Fp.pow (nf a) (num 65536 n / 2 ^ (i + 1))) :
    ∃ r ex', evCode T 0 a88_l1 (rpI a n o i ex) = some (.normal, rpI a n r ((i : Int) - 1) ex') ∧ Nm r ∧ nf r = Go.Fp.pow (nf a) (num 65536 n / 2 ^ i) := by
  obtain ⟨w, hw⟩ : ∃ w, n[i / 16]? = some w := ⟨_, List.getElem?_eq_getElem (by rw [hn.len]; omega)⟩
  have hw' := hn.lt w (List.mem_of_getElem? hw)
  have hwv := num_get (B := 65536) (by decide) hn.lt hw
  have hwc := ns_get (k := .u64) hw
  have hbit : w / 2 ^ (i % 16) % 2 = num 65536 n / 2 ^ i % 2 := by
    rw [← hwv, show (65536 : Nat) = 2 ^ 16 from rfl, bitOf (Nat.mod_lt _ (by decide)), Nat.div_add_mod]
  obtain ⟨r1, m1, g1, g2⟩ := rmul_v ho ho
  obtain ⟨r2, m2, g3, g4⟩ := rmul_v g1 ha
  have hlt := bit_lt (num 65536 n) i
  have hnum : num 65536 n / 2 ^ i = 2 * (num 65536 n / 2 ^ (i + 1)) + num 65536 n / 2 ^ i % 2 := by
    rw [Nat.pow_succ, ← Nat.div_div_eq_div_mul]
    omega
  have hstep := pow_step (nf a) (num 65536 n / 2 ^ (i + 1)) (num 65536 n / 2 ^ i % 2) hlt
  rw [← hnum, ← hp] at hstep
  have hb := rb_block (a := a) (n := n) (o := r1) hi hw'
  simp only [rbI, rpH, List.cons_append, List.nil_append, Int.natCast_zero] at hb
  have w2 : IntKind.i64.wrap ((i : Int).tdiv 16) = ((i / 16 : Nat) : Int) := wn (n := i / 16) (by omega)
  have w3 : IntKind.i64.wrap ((i : Int) - 1) = (i : Int) - 1 := wrapI64_small (by omega) (by omega)
  have w4 : ((w / 2 ^ (i % 16) : Nat) : Int).tmod 2 = ((w / 2 ^ (i % 16) % 2 : Nat) : Int) := rfl
  have e1 : ((0 : Int) ≤ (i : Int)) = True := eq_true (by omega)
  have e3 : (((i / 16 : Nat) : Int) < 16) = True := eq_true (by omega)
  have l0 := ha.len
  have l1 := hn.len
  have l2 := ho.len
  have l3 := g1.len
  have l4 := g3.len
  rw [hbit] at w4
  generalize hB : num 65536 n / 2 ^ i % 2 = B at *
  generalize w / 2 ^ (i % 16) = wv at *
  by_cases hB1 : B = 1
  · have hbq : ((B : Int) == 1) = true := by rw [hB1]; rfl
    rw [if_pos hB1] at hstep
    refine ⟨r2, [], ?_, g3, by rw [hstep, g4, g2]⟩
    simp only [rpI, rpH, a88_l1, envOf, evCode_skip, evCode_exit, evCode_seq, fs_blockS, fs_blockR, fs_blockC, fs_blockK, fs_blockB, evCode_ret, quiet, keep_nil, keep_cons, fs_cond, fs_region, fs_regionQ, quiet2_eq, lastOf_nil, lastOf_cons, List.take_succ_cons, List.take_zero, List.drop_succ_cons, List.drop_zero, Int.reduceBEq, Int.reduceBNe,  fs_nil, fs_guard, fs_move, fs_pick, fs_alloc, fs_box, fs_load, fs_store, fs_bin, fs_eqv, fs_isNil, fs_un, fs_conv, fs_convStr, fs_field, fs_index, fs_indexStr, fs_build, fs_buildSlice, fs_fieldAddr, fs_indexAddr, fs_indexSl, fs_sliceArr, fs_sliceSl, fs_sliceStr, fs_makeSlice, fs_extract, fs_mkIface, fs_mkFunc, fs_nilCheck, fs_s2ap, fs_len, fs_minmax, fs_s2b, fs_b2s, fs_append, fs_copy, fs_callW, fs_callR, fs_callv, opd_tmp, opd_const, opd_func, opds_nil, opds_cons, opdOpt_none, opdOpt_some, opdParts_nil, opdParts_cons, get_miss, vPick_t, vPick_f, vEq_agg, vEq_aggN, vEq_bool, vEq_boolN, vConv_int, vStr_s, vField_agg, vIndex_agg, vIndexStr_s, vFieldAddr_p, vIndexAddr_p, vIndexSl_s, vSliceArr_p, vSliceSl_s, vSliceSl_n, vSliceStr_s, vExtract_t, vNilCheck_p, vS2ap_s, vLen_s, vLen_str, vMin_i, vMax_i, vLoad_p, vStore_p, baseP_p, vB2s_s, vMake_i, vS2b_s, callee_f, liveAt_eq, storeAt_eq, partL_none, partL_some, natIn_none, natIn_int, bounds3_two, bin_add, bin_sub, bin_mul, bin_quo, bin_rem, bin_and, bin_or, bin_xor, bin_andNot, bin_eql, bin_neq, bin_lss, bin_leq, bin_gtr, bin_geq, bin_shl, bin_shr, bin_sadd, bin_seql, bin_sneq, un_not, un_neg, un_xor, after_some, put_some, put_none, res_nil, res_val, res_var, packed_one, packed_two, merge_nil, merge_ge, rf_tup2, rfIn_int, rfIn_bool, rfIn_u8s, rf_str, rfIn_str, ↓gate_true, gd_bool, gd_ut, gd_uf, ↓guardV_tt, ↓guardV_ff, ↓guardV_tf, ↓guardV_ft, ↓keepV_some, ↓qElse_some, ↓get_hit, ↓Option.bind_some, ↓if_true, ↓if_false, List.nil_append, List.cons_append, List.all_nil, List.all_cons, List.isEmpty_nil, reduceCtorEq, Bool.false_eq_true, Nat.reduceEqDiff, beq_self_eq_true, bne_self_eq_false, Bool.not_true, Bool.not_false, Int.natCast_nonneg, Nat.lt_irrefl, false_and, Int.reduceEq, rf_int, rf_bool, rf_tuple_ints, rf_u8s, arr_list, toList2, Bool.and_self, Nat.not_lt_zero, Nat.sub_zero, Nat.zero_le, Nat.le_add_right, cells_agg, cells_agg_size, cells_int, cells_int_size, okV_int, okV_bool, okV_str, okV_agg, okV_ptr, okV_slice, okV_func, okV_nilFunc, okV_iface, okV_nilIface, cells_bool, cells_bool_size, cells_ptr, cells_ptr_size, cells_slice, cells_slice_size, cells_str, cells_str_size, eq_self, wrapI64_small, Int.natCast_zero, Int.natCast_one, Int.cast_ofNat_Int, List.length_nil, List.length_cons, List.getElem?_cons_zero, List.getElem?_cons_succ, List.set_cons_zero, List.set_cons_succ, Nat.zero_add, Nat.add_zero, Nat.mul_one, Nat.zero_mul, Int.toNat_natCast, Int.toNat_zero, Int.lt_irrefl, Int.le_refl, Nat.le_refl, and_self, true_and, and_true, decide_true, decide_false, Int.reduceLE, Int.reduceLT, Int.reduceAdd, Int.reduceMul, Int.reduceSub, Int.reduceTDiv, Int.reduceTMod, Int.reduceNeg, Int.reduceToNat, Int.reduceGT, Int.reduceGE, Int.reducePow, Nat.reduceAdd, Nat.reduceMul, Nat.reduceSub, Nat.reduceDiv, Nat.reduceMod, Nat.reducePow, Nat.reduceLT, Nat.reduceLeDiff, Nat.min_self, ge_iff_le, gt_iff_lt, Option.isNone_none, Option.isSome_none, Option.isNone_some, Option.isSome_some, Bool.and_true, Bool.true_and, Bool.and_false, Bool.false_and, not_true_eq_false, not_false_eq_true, or_true, true_or, false_or, or_false, hget0, hgetK, hset0, hsetK, splice_single, splice_whole, take_whole, List.getElem?_nil, List.length_append, List.append_assoc, hwc, hb, w2, w3, w4, e1, e3, m1, m2, hbq, eV_cells, eV_size, eV_ok, eV_fold, ns_len, take_all, l0, l1, l2, l3, l4, rf_eV]
  · have hbq : ((B : Int) == 1) = false := by
      have : B = 0 := by omega
      rw [this]; rfl
    rw [if_neg hB1] at hstep
    refine ⟨r1, [], ?_, g1, by rw [hstep, g2]⟩
    simp only [rpI, rpH, a88_l1, envOf, evCode_skip, evCode_exit, evCode_seq, fs_blockS, fs_blockR, fs_blockC, fs_blockK, fs_blockB, evCode_ret, quiet, keep_nil, keep_cons, fs_cond, fs_region, fs_regionQ, quiet2_eq, lastOf_nil, lastOf_cons, List.take_succ_cons, List.take_zero, List.drop_succ_cons, List.drop_zero, Int.reduceBEq, Int.reduceBNe,  fs_nil, fs_guard, fs_move, fs_pick, fs_alloc, fs_box, fs_load, fs_store, fs_bin, fs_eqv, fs_isNil, fs_un, fs_conv, fs_convStr, fs_field, fs_index, fs_indexStr, fs_build, fs_buildSlice, fs_fieldAddr, fs_indexAddr, fs_indexSl, fs_sliceArr, fs_sliceSl, fs_sliceStr, fs_makeSlice, fs_extract, fs_mkIface, fs_mkFunc, fs_nilCheck, fs_s2ap, fs_len, fs_minmax, fs_s2b, fs_b2s, fs_append, fs_copy, fs_callW, fs_callR, fs_callv, opd_tmp, opd_const, opd_func, opds_nil, opds_cons, opdOpt_none, opdOpt_some, opdParts_nil, opdParts_cons, get_miss, vPick_t, vPick_f, vEq_agg, vEq_aggN, vEq_bool, vEq_boolN, vConv_int, vStr_s, vField_agg, vIndex_agg, vIndexStr_s, vFieldAddr_p, vIndexAddr_p, vIndexSl_s, vSliceArr_p, vSliceSl_s, vSliceSl_n, vSliceStr_s, vExtract_t, vNilCheck_p, vS2ap_s, vLen_s, vLen_str, vMin_i, vMax_i, vLoad_p, vStore_p, baseP_p, vB2s_s, vMake_i, vS2b_s, callee_f, liveAt_eq, storeAt_eq, partL_none, partL_some, natIn_none, natIn_int, bounds3_two, bin_add, bin_sub, bin_mul, bin_quo, bin_rem, bin_and, bin_or, bin_xor, bin_andNot, bin_eql, bin_neq, bin_lss, bin_leq, bin_gtr, bin_geq, bin_shl, bin_shr, bin_sadd, bin_seql, bin_sneq, un_not, un_neg, un_xor, after_some, put_some, put_none, res_nil, res_val, res_var, packed_one, packed_two, merge_nil, merge_ge, rf_tup2, rfIn_int, rfIn_bool, rfIn_u8s, rf_str, rfIn_str, ↓gate_true, gd_bool, gd_ut, gd_uf, ↓guardV_tt, ↓guardV_ff, ↓guardV_tf, ↓guardV_ft, ↓keepV_some, ↓qElse_some, ↓get_hit, ↓Option.bind_some, ↓if_true, ↓if_false, List.nil_append, List.cons_append, List.all_nil, List.all_cons, List.isEmpty_nil, reduceCtorEq, Bool.false_eq_true, Nat.reduceEqDiff, beq_self_eq_true, bne_self_eq_false, Bool.not_true, Bool.not_false, Int.natCast_nonneg, Nat.lt_irrefl, false_and, Int.reduceEq, rf_int, rf_bool, rf_tuple_ints, rf_u8s, arr_list, toList2, Bool.and_self, Nat.not_lt_zero, Nat.sub_zero, Nat.zero_le, Nat.le_add_right, cells_agg, cells_agg_size, cells_int, cells_int_size, okV_int, okV_bool, okV_str, okV_agg, okV_ptr, okV_slice, okV_func, okV_nilFunc, okV_iface, okV_nilIface, cells_bool, cells_bool_size, cells_ptr, cells_ptr_size, cells_slice, cells_slice_size, cells_str, cells_str_size, eq_self, wrapI64_small, Int.natCast_zero, Int.natCast_one, Int.cast_ofNat_Int, List.length_nil, List.length_cons, List.getElem?_cons_zero, List.getElem?_cons_succ, List.set_cons_zero, List.set_cons_succ, Nat.zero_add, Nat.add_zero, Nat.mul_one, Nat.zero_mul, Int.toNat_natCast, Int.toNat_zero, Int.lt_irrefl, Int.le_refl, Nat.le_refl, and_self, true_and, and_true, decide_true, decide_false, Int.reduceLE, Int.reduceLT, Int.reduceAdd, Int.reduceMul, Int.reduceSub, Int.reduceTDiv, Int.reduceTMod, Int.reduceNeg, Int.reduceToNat, Int.reduceGT, Int.reduceGE, Int.reducePow, Nat.reduceAdd, Nat.reduceMul, Nat.reduceSub, Nat.reduceDiv, Nat.reduceMod, Nat.reducePow, Nat.reduceLT, Nat.reduceLeDiff, Nat.min_self, ge_iff_le, gt_iff_lt, Option.isNone_none, Option.isSome_none, Option.isNone_some, Option.isSome_some, Bool.and_true, Bool.true_and, Bool.and_false, Bool.false_and, not_true_eq_false, not_false_eq_true, or_true, true_or, false_or, or_false, hget0, hgetK, hset0, hsetK, splice_single, splice_whole, take_whole, List.getElem?_nil, List.length_append, List.append_assoc, hwc, hb, w2, w3, w4, e1, e3, m1, m2, hbq, eV_cells, eV_size, eV_ok, eV_fold, ns_len, take_all, l0, l1, l2, l3, l4, rf_eV]
theorem rone_nf : nf (smallL 1) = 1 := by unfold nf; rw [smallL_num (by decide)]; rfl
theorem rpower_v {a n : List Nat} (ha : Nm a) (hn : Nm n) : ∃ r, evVal T 88 [eV a, eV n] = some (eV r) ∧ Nm r ∧ nf r = Go.Fp.pow (nf a) (num 65536 n) := by
  have hK := hn.num_lt
  obtain ⟨st, hb, r, rfl, hr1, hr2⟩ := block_inv (T := T) (base := 0) (id := 0) (body := a88_l1)
    (fun j st => ∃ (r : List Nat) (ex : Env), st = rpI a n r ((255 : Int) - j) ex ∧ Nm r ∧ nf r = Go.Fp.pow (nf a) (num 65536 n / 2 ^ (256 - j)))
    (Q := fun st => ∃ r : List Nat, st = rpI a n r (-1) [(11, .bool false)] ∧ Nm r ∧ nf r = Go.Fp.pow (nf a) (num 65536 n))
    256 (s := rpI a n (smallL 1) 255 []) ⟨_, [], rfl, smallL_nm 1, by rw [rone_nf, Nat.sub_zero, Nat.div_eq_of_lt hK]; rfl⟩
    (fun j st hj hs => by
      obtain ⟨r, ex, rfl, h1, h2⟩ := hs
      obtain ⟨i, hi⟩ : ∃ i, 256 - j = i + 1 := ⟨255 - j, by omega⟩
      rw [hi] at h2
      obtain ⟨r', ex', g1, g2, g3⟩ := rp_body (ex := ex) ha hn (i := i) (by omega) h1 h2
      rw [show (255 : Int) - j = (i : Int) by omega]
      refine ⟨_, g1, r', ex', ?_, g2, ?_⟩
      · rw [show (255 : Int) - ((j + 1 : Nat) : Int) = (i : Int) - 1 by omega]
      · rw [show 256 - (j + 1) = i by omega]; exact g3)
    (fun st hs => by
      obtain ⟨r, ex, rfl, h1, h2⟩ := hs
      rw [Nat.sub_self, Nat.pow_zero, Nat.div_one] at h2
      have e : ((0 : Int) ≤ -1) = False := by decide
      refine ⟨_, ?_, r, rfl, h1, h2⟩
      rw [show (255 : Int) - ((256 : Nat) : Int) = -1 by omega]
      simp only [rpI, rpH, a88_l1, envOf, evCode_skip, evCode_exit, evCode_seq, fs_blockS, fs_blockR, fs_blockC, fs_blockK, fs_blockB, evCode_ret, quiet, keep_nil, keep_cons, fs_cond, fs_region, fs_regionQ, quiet2_eq, lastOf_nil, lastOf_cons, List.take_succ_cons, List.take_zero, List.drop_succ_cons, List.drop_zero, Int.reduceBEq, Int.reduceBNe,  fs_nil, fs_guard, fs_move, fs_pick, fs_alloc, fs_box, fs_load, fs_store, fs_bin, fs_eqv, fs_isNil, fs_un, fs_conv, fs_convStr, fs_field, fs_index, fs_indexStr, fs_build, fs_buildSlice, fs_fieldAddr, fs_indexAddr, fs_indexSl, fs_sliceArr, fs_sliceSl, fs_sliceStr, fs_makeSlice, fs_extract, fs_mkIface, fs_mkFunc, fs_nilCheck, fs_s2ap, fs_len, fs_minmax, fs_s2b, fs_b2s, fs_append, fs_copy, fs_callW, fs_callR, fs_callv, opd_tmp, opd_const, opd_func, opds_nil, opds_cons, opdOpt_none, opdOpt_some, opdParts_nil, opdParts_cons, get_miss, vPick_t, vPick_f, vEq_agg, vEq_aggN, vEq_bool, vEq_boolN, vConv_int, vStr_s, vField_agg, vIndex_agg, vIndexStr_s, vFieldAddr_p, vIndexAddr_p, vIndexSl_s, vSliceArr_p, vSliceSl_s, vSliceSl_n, vSliceStr_s, vExtract_t, vNilCheck_p, vS2ap_s, vLen_s, vLen_str, vMin_i, vMax_i, vLoad_p, vStore_p, baseP_p, vB2s_s, vMake_i, vS2b_s, callee_f, liveAt_eq, storeAt_eq, partL_none, partL_some, natIn_none, natIn_int, bounds3_two, bin_add, bin_sub, bin_mul, bin_quo, bin_rem, bin_and, bin_or, bin_xor, bin_andNot, bin_eql, bin_neq, bin_lss, bin_leq, bin_gtr, bin_geq, bin_shl, bin_shr, bin_sadd, bin_seql, bin_sneq, un_not, un_neg, un_xor, after_some, put_some, put_none, res_nil, res_val, res_var, packed_one, packed_two, merge_nil, merge_ge, rf_tup2, rfIn_int, rfIn_bool, rfIn_u8s, rf_str, rfIn_str, ↓gate_true, gd_bool, gd_ut, gd_uf, ↓guardV_tt, ↓guardV_ff, ↓guardV_tf, ↓guardV_ft, ↓keepV_some, ↓qElse_some, ↓get_hit, ↓Option.bind_some, ↓if_true, ↓if_false, List.nil_append, List.cons_append, List.all_nil, List.all_cons, List.isEmpty_nil, reduceCtorEq, Bool.false_eq_true, Nat.reduceEqDiff, beq_self_eq_true, bne_self_eq_false, Bool.not_true, Bool.not_false, Int.natCast_nonneg, Nat.lt_irrefl, false_and, Int.reduceEq, rf_int, rf_bool, rf_tuple_ints, rf_u8s, arr_list, toList2, Bool.and_self, Nat.not_lt_zero, Nat.sub_zero, Nat.zero_le, Nat.le_add_right, cells_agg, cells_agg_size, cells_int, cells_int_size, okV_int, okV_bool, okV_str, okV_agg, okV_ptr, okV_slice, okV_func, okV_nilFunc, okV_iface, okV_nilIface, cells_bool, cells_bool_size, cells_ptr, cells_ptr_size, cells_slice, cells_slice_size, cells_str, cells_str_size, eq_self, wrapI64_small, Int.natCast_zero, Int.natCast_one, Int.cast_ofNat_Int, List.length_nil, List.length_cons, List.getElem?_cons_zero, List.getElem?_cons_succ, List.set_cons_zero, List.set_cons_succ, Nat.zero_add, Nat.add_zero, Nat.mul_one, Nat.zero_mul, Int.toNat_natCast, Int.toNat_zero, Int.lt_irrefl, Int.le_refl, Nat.le_refl, and_self, true_and, and_true, decide_true, decide_false, Int.reduceLE, Int.reduceLT, Int.reduceAdd, Int.reduceMul, Int.reduceSub, Int.reduceTDiv, Int.reduceTMod, Int.reduceNeg, Int.reduceToNat, Int.reduceGT, Int.reduceGE, Int.reducePow, Nat.reduceAdd, Nat.reduceMul, Nat.reduceSub, Nat.reduceDiv, Nat.reduceMod, Nat.reducePow, Nat.reduceLT, Nat.reduceLeDiff, Nat.min_self, ge_iff_le, gt_iff_lt, Option.isNone_none, Option.isSome_none, Option.isNone_some, Option.isSome_some, Bool.and_true, Bool.true_and, Bool.and_false, Bool.false_and, not_true_eq_false, not_false_eq_true, or_true, true_or, false_or, or_false, e])
  refine ⟨r, ?_, hr1, hr2⟩
  have hs := rsmall_v 1 (by decide)
  have ls := (smallL_nm 1).len
  have hz := z16_eq
  have lz := z16_len
  have la := ha.len
  have ln := hn.len
  have lr := hr1.len
  simp only [Int.natCast_one] at hs
  simp only [rpI, rpH, List.cons_append, List.nil_append] at hb
  generalize zero16 = Z at *
  generalize smallL 1 = S at *
  apply evVal_ex
  apply Exists.intro
  rw [evFun_fn (fn := a88) rfl]
  simp only [a88, ↓steps_chunk, envOf, evCode_skip, evCode_exit, evCode_seq, fs_blockS, fs_blockR, fs_blockC, fs_blockK, fs_blockB, evCode_ret, quiet, keep_nil, keep_cons, fs_cond, fs_region, fs_regionQ, quiet2_eq, lastOf_nil, lastOf_cons, List.take_succ_cons, List.take_zero, List.drop_succ_cons, List.drop_zero, Int.reduceBEq, Int.reduceBNe,  fs_nil, fs_guard, fs_move, fs_pick, fs_alloc, fs_box, fs_load, fs_store, fs_bin, fs_eqv, fs_isNil, fs_un, fs_conv, fs_convStr, fs_field, fs_index, fs_indexStr, fs_build, fs_buildSlice, fs_fieldAddr, fs_indexAddr, fs_indexSl, fs_sliceArr, fs_sliceSl, fs_sliceStr, fs_makeSlice, fs_extract, fs_mkIface, fs_mkFunc, fs_nilCheck, fs_s2ap, fs_len, fs_minmax, fs_s2b, fs_b2s, fs_append, fs_copy, fs_callW, fs_callR, fs_callv, opd_tmp, opd_const, opd_func, opds_nil, opds_cons, opdOpt_none, opdOpt_some, opdParts_nil, opdParts_cons, get_miss, vPick_t, vPick_f, vEq_agg, vEq_aggN, vEq_bool, vEq_boolN, vConv_int, vStr_s, vField_agg, vIndex_agg, vIndexStr_s, vFieldAddr_p, vIndexAddr_p, vIndexSl_s, vSliceArr_p, vSliceSl_s, vSliceSl_n, vSliceStr_s, vExtract_t, vNilCheck_p, vS2ap_s, vLen_s, vLen_str, vMin_i, vMax_i, vLoad_p, vStore_p, baseP_p, vB2s_s, vMake_i, vS2b_s, callee_f, liveAt_eq, storeAt_eq, partL_none, partL_some, natIn_none, natIn_int, bounds3_two, bin_add, bin_sub, bin_mul, bin_quo, bin_rem, bin_and, bin_or, bin_xor, bin_andNot, bin_eql, bin_neq, bin_lss, bin_leq, bin_gtr, bin_geq, bin_shl, bin_shr, bin_sadd, bin_seql, bin_sneq, un_not, un_neg, un_xor, after_some, put_some, put_none, res_nil, res_val, res_var, packed_one, packed_two, merge_nil, merge_ge, rf_tup2, rfIn_int, rfIn_bool, rfIn_u8s, rf_str, rfIn_str, ↓gate_true, gd_bool, gd_ut, gd_uf, ↓guardW_tt, ↓guardW_ff, ↓guardW_tf, ↓guardW_ft, ↓keepW_some, ↓qElseW_some, ↓get_hit, ↓Option.bind_some, ↓if_true, ↓if_false, List.nil_append, List.cons_append, List.all_nil, List.all_cons, List.isEmpty_nil, reduceCtorEq, Bool.false_eq_true, Nat.reduceEqDiff, beq_self_eq_true, bne_self_eq_false, Bool.not_true, Bool.not_false, Int.natCast_nonneg, Nat.lt_irrefl, false_and, Int.reduceEq, rf_int, rf_bool, rf_tuple_ints, rf_u8s, arr_list, toList2, Bool.and_self, Nat.not_lt_zero, Nat.sub_zero, Nat.zero_le, Nat.le_add_right, cells_agg, cells_agg_size, cells_int, cells_int_size, okV_int, okV_bool, okV_str, okV_agg, okV_ptr, okV_slice, okV_func, okV_nilFunc, okV_iface, okV_nilIface, cells_bool, cells_bool_size, cells_ptr, cells_ptr_size, cells_slice, cells_slice_size, cells_str, cells_str_size, eq_self, wrapI64_small, Int.natCast_zero, Int.natCast_one, Int.cast_ofNat_Int, List.length_nil, List.length_cons, List.getElem?_cons_zero, List.getElem?_cons_succ, List.set_cons_zero, List.set_cons_succ, Nat.zero_add, Nat.add_zero, Nat.mul_one, Nat.zero_mul, Int.toNat_natCast, Int.toNat_zero, Int.lt_irrefl, Int.le_refl, Nat.le_refl, and_self, true_and, and_true, decide_true, decide_false, Int.reduceLE, Int.reduceLT, Int.reduceAdd, Int.reduceMul, Int.reduceSub, Int.reduceTDiv, Int.reduceTMod, Int.reduceNeg, Int.reduceToNat, Int.reduceGT, Int.reduceGE, Int.reducePow, Nat.reduceAdd, Nat.reduceMul, Nat.reduceSub, Nat.reduceDiv, Nat.reduceMod, Nat.reducePow, Nat.reduceLT, Nat.reduceLeDiff, Nat.min_self, ge_iff_le, gt_iff_lt, Option.isNone_none, Option.isSome_none, Option.isNone_some, Option.isSome_some, Bool.and_true, Bool.true_and, Bool.and_false, Bool.false_and, not_true_eq_false, not_false_eq_true, or_true, true_or, false_or, or_false, hget0, hgetK, hset0, hsetK, splice_single, splice_whole, take_whole, List.getElem?_nil, List.length_append, List.append_assoc, hz, hs, hb, List.length_replicate, take_all, eV_cells, eV_size, eV_ok, eV_fold, ns_len, la, ln, lr, ls, lz, rf_eV]
  rfl
theorem rinvert_v {a : List Nat} (ha : Nm a) : ∃ r, evVal T 71 [eV a] = some (eV r) ∧ Nm r ∧ nf r = Go.Fp.iv (nf a) := by
  have hp := rprime_v
  have hs := rsmall_v 2 (by decide)
  have hm := rminus_v primeL_nm (smallL_nm 2) (by rw [primeL_num, smallL_num (by decide)]; decide)
  rw [primeL_num, smallL_num (by decide)] at hm
  have hN := Nm.dig (Go.Fp.P - 2)
  have hn := nm_dig (v := Go.Fp.P - 2) (by decide)
  obtain ⟨r, hr, h1, h2⟩ := rpower_v ha hN
  rw [hn] at h2
  refine ⟨r, ?_, h1, h2⟩
  have hz := z16_eq
  have lz := z16_len
  have la := ha.len
  have lp := primeL_nm.len
  have ls := (smallL_nm 2).len
  have lm := hN.len
  have lr := h1.len
  simp only [Int.cast_ofNat_Int] at hs
  generalize zero16 = Z at *
  generalize primeL = PL at *
  generalize smallL 2 = S at *
  generalize dig 65536 16 (Go.Fp.P - 2) = E at *
  apply evVal_ex
  apply Exists.intro
  rw [evFun_fn (fn := a71) rfl]
  simp only [a71, ↓steps_chunk, envOf, evCode_skip, evCode_exit, evCode_seq, fs_blockS, fs_blockR, fs_blockC, fs_blockK, fs_blockB, evCode_ret, quiet, keep_nil, keep_cons, fs_cond, fs_region, fs_regionQ, quiet2_eq, lastOf_nil, lastOf_cons, List.take_succ_cons, List.take_zero, List.drop_succ_cons, List.drop_zero, Int.reduceBEq, Int.reduceBNe,  fs_nil, fs_guard, fs_move, fs_pick, fs_alloc, fs_box, fs_load, fs_store, fs_bin, fs_eqv, fs_isNil, fs_un, fs_conv, fs_convStr, fs_field, fs_index, fs_indexStr, fs_build, fs_buildSlice, fs_fieldAddr, fs_indexAddr, fs_indexSl, fs_sliceArr, fs_sliceSl, fs_sliceStr, fs_makeSlice, fs_extract, fs_mkIface, fs_mkFunc, fs_nilCheck, fs_s2ap, fs_len, fs_minmax, fs_s2b, fs_b2s, fs_append, fs_copy, fs_callW, fs_callR, fs_callv, opd_tmp, opd_const, opd_func, opds_nil, opds_cons, opdOpt_none, opdOpt_some, opdParts_nil, opdParts_cons, get_miss, vPick_t, vPick_f, vEq_agg, vEq_aggN, vEq_bool, vEq_boolN, vConv_int, vStr_s, vField_agg, vIndex_agg, vIndexStr_s, vFieldAddr_p, vIndexAddr_p, vIndexSl_s, vSliceArr_p, vSliceSl_s, vSliceSl_n, vSliceStr_s, vExtract_t, vNilCheck_p, vS2ap_s, vLen_s, vLen_str, vMin_i, vMax_i, vLoad_p, vStore_p, baseP_p, vB2s_s, vMake_i, vS2b_s, callee_f, liveAt_eq, storeAt_eq, partL_none, partL_some, natIn_none, natIn_int, bounds3_two, bin_add, bin_sub, bin_mul, bin_quo, bin_rem, bin_and, bin_or, bin_xor, bin_andNot, bin_eql, bin_neq, bin_lss, bin_leq, bin_gtr, bin_geq, bin_shl, bin_shr, bin_sadd, bin_seql, bin_sneq, un_not, un_neg, un_xor, after_some, put_some, put_none, res_nil, res_val, res_var, packed_one, packed_two, merge_nil, merge_ge, rf_tup2, rfIn_int, rfIn_bool, rfIn_u8s, rf_str, rfIn_str, ↓gate_true, gd_bool, gd_ut, gd_uf, ↓guardW_tt, ↓guardW_ff, ↓guardW_tf, ↓guardW_ft, ↓keepW_some, ↓qElseW_some, ↓get_hit, ↓Option.bind_some, ↓if_true, ↓if_false, List.nil_append, List.cons_append, List.all_nil, List.all_cons, List.isEmpty_nil, reduceCtorEq, Bool.false_eq_true, Nat.reduceEqDiff, beq_self_eq_true, bne_self_eq_false, Bool.not_true, Bool.not_false, Int.natCast_nonneg, Nat.lt_irrefl, false_and, Int.reduceEq, rf_int, rf_bool, rf_tuple_ints, rf_u8s, arr_list, toList2, Bool.and_self, Nat.not_lt_zero, Nat.sub_zero, Nat.zero_le, Nat.le_add_right, cells_agg, cells_agg_size, cells_int, cells_int_size, okV_int, okV_bool, okV_str, okV_agg, okV_ptr, okV_slice, okV_func, okV_nilFunc, okV_iface, okV_nilIface, cells_bool, cells_bool_size, cells_ptr, cells_ptr_size, cells_slice, cells_slice_size, cells_str, cells_str_size, eq_self, wrapI64_small, Int.natCast_zero, Int.natCast_one, Int.cast_ofNat_Int, List.length_nil, List.length_cons, List.getElem?_cons_zero, List.getElem?_cons_succ, List.set_cons_zero, List.set_cons_succ, Nat.zero_add, Nat.add_zero, Nat.mul_one, Nat.zero_mul, Int.toNat_natCast, Int.toNat_zero, Int.lt_irrefl, Int.le_refl, Nat.le_refl, and_self, true_and, and_true, decide_true, decide_false, Int.reduceLE, Int.reduceLT, Int.reduceAdd, Int.reduceMul, Int.reduceSub, Int.reduceTDiv, Int.reduceTMod, Int.reduceNeg, Int.reduceToNat, Int.reduceGT, Int.reduceGE, Int.reducePow, Nat.reduceAdd, Nat.reduceMul, Nat.reduceSub, Nat.reduceDiv, Nat.reduceMod, Nat.reducePow, Nat.reduceLT, Nat.reduceLeDiff, Nat.min_self, ge_iff_le, gt_iff_lt, Option.isNone_none, Option.isSome_none, Option.isNone_some, Option.isSome_some, Bool.and_true, Bool.true_and, Bool.and_false, Bool.false_and, not_true_eq_false, not_false_eq_true, or_true, true_or, false_or, or_false, hget0, hgetK, hset0, hsetK, splice_single, splice_whole, take_whole, List.getElem?_nil, List.length_append, List.append_assoc, hz, hp, hs, hm, hr, List.length_replicate, take_all, eV_cells, eV_size, eV_ok, eV_fold, ns_len, la, lp, ls, lm, lr, lz, rf_eV]
  rfl
theorem d_eq : -(Go.Fp.fp 121665) * Go.Fp.iv (Go.Fp.fp 121666) = Go.Fp.d := by
  have h0 : Go.Fp.fp 121666 ≠ 0 := by decide +kernel
  have h1 := Go.Fp.iv_mul h0
  have h2 : Go.Fp.fp 121666 * Go.Fp.d = - Go.Fp.fp 121665 := by decide +kernel
  refine Go.Fp.fld.cancel h0 ?_
  rw [h2]
  generalize Go.Fp.iv (Go.Fp.fp 121666) = y at *
  generalize Go.Fp.fp 121666 = x at *
  generalize Go.Fp.fp 121665 = z at *
  clear h0 h2
  grobner
theorem rd_v : ∃ r, evVal T 36 [] = some (eV r) ∧ Nm r ∧ nf r = Go.Fp.d := by
  have s1 := rsmall_v 121665 (by decide)
  have s2 := rsmall_v 121666 (by decide)
  obtain ⟨n, hn, n1, n2⟩ := rneg_v (smallL_nm 121665)
  obtain ⟨v, hv, v1, v2⟩ := rinvert_v (smallL_nm 121666)
  obtain ⟨r, hr, r1, r2⟩ := rmul_v n1 v1
  refine ⟨r, ?_, r1, ?_⟩
  · have hz := z16_eq
    have lz := z16_len
    have lr := r1.len
    simp only [Int.cast_ofNat_Int] at s1 s2
    generalize zero16 = Z at *
    generalize smallL 121665 = S1 at *
    generalize smallL 121666 = S2 at *
    apply evVal_ex
    apply Exists.intro
    rw [evFun_fn (fn := a36) rfl]
    simp only [a36, ↓steps_chunk, envOf, evCode_skip, evCode_exit, evCode_seq, fs_blockS, fs_blockR, fs_blockC, fs_blockK, fs_blockB, evCode_ret, quiet, keep_nil, keep_cons, fs_cond, fs_region, fs_regionQ, quiet2_eq, lastOf_nil, lastOf_cons, List.take_succ_cons, List.take_zero, List.drop_succ_cons, List.drop_zero, Int.reduceBEq, Int.reduceBNe,  fs_nil, fs_guard, fs_move, fs_pick, fs_alloc, fs_box, fs_load, fs_store, fs_bin, fs_eqv, fs_isNil, fs_un, fs_conv, fs_convStr, fs_field, fs_index, fs_indexStr, fs_build, fs_buildSlice, fs_fieldAddr, fs_indexAddr, fs_indexSl, fs_sliceArr, fs_sliceSl, fs_sliceStr, fs_makeSlice, fs_extract, fs_mkIface, fs_mkFunc, fs_nilCheck, fs_s2ap, fs_len, fs_minmax, fs_s2b, fs_b2s, fs_append, fs_copy, fs_callW, fs_callR, fs_callv, opd_tmp, opd_const, opd_func, opds_nil, opds_cons, opdOpt_none, opdOpt_some, opdParts_nil, opdParts_cons, get_miss, vPick_t, vPick_f, vEq_agg, vEq_aggN, vEq_bool, vEq_boolN, vConv_int, vStr_s, vField_agg, vIndex_agg, vIndexStr_s, vFieldAddr_p, vIndexAddr_p, vIndexSl_s, vSliceArr_p, vSliceSl_s, vSliceSl_n, vSliceStr_s, vExtract_t, vNilCheck_p, vS2ap_s, vLen_s, vLen_str, vMin_i, vMax_i, vLoad_p, vStore_p, baseP_p, vB2s_s, vMake_i, vS2b_s, callee_f, liveAt_eq, storeAt_eq, partL_none, partL_some, natIn_none, natIn_int, bounds3_two, bin_add, bin_sub, bin_mul, bin_quo, bin_rem, bin_and, bin_or, bin_xor, bin_andNot, bin_eql, bin_neq, bin_lss, bin_leq, bin_gtr, bin_geq, bin_shl, bin_shr, bin_sadd, bin_seql, bin_sneq, un_not, un_neg, un_xor, after_some, put_some, put_none, res_nil, res_val, res_var, packed_one, packed_two, merge_nil, merge_ge, rf_tup2, rfIn_int, rfIn_bool, rfIn_u8s, rf_str, rfIn_str, ↓gate_true, gd_bool, gd_ut, gd_uf, ↓guardW_tt, ↓guardW_ff, ↓guardW_tf, ↓guardW_ft, ↓keepW_some, ↓qElseW_some, ↓get_hit, ↓Option.bind_some, ↓if_true, ↓if_false, List.nil_append, List.cons_append, List.all_nil, List.all_cons, List.isEmpty_nil, reduceCtorEq, Bool.false_eq_true, Nat.reduceEqDiff, beq_self_eq_true, bne_self_eq_false, Bool.not_true, Bool.not_false, Int.natCast_nonneg, Nat.lt_irrefl, false_and, Int.reduceEq, rf_int, rf_bool, rf_tuple_ints, rf_u8s, arr_list, toList2, Bool.and_self, Nat.not_lt_zero, Nat.sub_zero, Nat.zero_le, Nat.le_add_right, cells_agg, cells_agg_size, cells_int, cells_int_size, okV_int, okV_bool, okV_str, okV_agg, okV_ptr, okV_slice, okV_func, okV_nilFunc, okV_iface, okV_nilIface, cells_bool, cells_bool_size, cells_ptr, cells_ptr_size, cells_slice, cells_slice_size, cells_str, cells_str_size, eq_self, wrapI64_small, Int.natCast_zero, Int.natCast_one, Int.cast_ofNat_Int, List.length_nil, List.length_cons, List.getElem?_cons_zero, List.getElem?_cons_succ, List.set_cons_zero, List.set_cons_succ, Nat.zero_add, Nat.add_zero, Nat.mul_one, Nat.zero_mul, Int.toNat_natCast, Int.toNat_zero, Int.lt_irrefl, Int.le_refl, Nat.le_refl, and_self, true_and, and_true, decide_true, decide_false, Int.reduceLE, Int.reduceLT, Int.reduceAdd, Int.reduceMul, Int.reduceSub, Int.reduceTDiv, Int.reduceTMod, Int.reduceNeg, Int.reduceToNat, Int.reduceGT, Int.reduceGE, Int.reducePow, Nat.reduceAdd, Nat.reduceMul, Nat.reduceSub, Nat.reduceDiv, Nat.reduceMod, Nat.reducePow, Nat.reduceLT, Nat.reduceLeDiff, Nat.min_self, ge_iff_le, gt_iff_lt, Option.isNone_none, Option.isSome_none, Option.isNone_some, Option.isSome_some, Bool.and_true, Bool.true_and, Bool.and_false, Bool.false_and, not_true_eq_false, not_false_eq_true, or_true, true_or, false_or, or_false, hget0, hgetK, hset0, hsetK, splice_single, splice_whole, take_whole, List.getElem?_nil, List.length_append, List.append_assoc, hz, s1, s2, hn, hv, hr, List.length_replicate, take_all, eV_cells, eV_size, eV_ok, eV_fold, ns_len, lr, lz, rf_eV]
    rfl
  · have e1 : nf (smallL 121665) = Go.Fp.fp 121665 := by unfold nf; rw [smallL_num (by decide)]
    have e2 : nf (smallL 121666) = Go.Fp.fp 121666 := by unfold nf; rw [smallL_num (by decide)]
    rw [r2, n2, v2, e1, e2, d_eq]
end Go.Ev.Ytaceeoghjgggjaa
set_option linter.unusedSimpArgs false
set_option linter.unusedVariables false
namespace Go.Ev.Ytaceeoghjgggjaa
open Go Go.Ev
attribute [local congr] bind_congr2 ite_congr2 qElse_congr gate_congr guardV_congr
set_option maxRecDepth 100000
theorem six (l : List Nat) (h : l.length = 16) : ∃ a0 a1 a2 a3 a4 a5 a6 a7 a8 a9 a10 a11 a12 a13 a14 a15, l = [a0, a1, a2, a3, a4, a5, a6, a7, a8, a9, a10, a11, a12, a13, a14, a15] := by
  match l, h with
  | [a0, a1, a2, a3, a4, a5, a6, a7, a8, a9, a10, a11, a12, a13, a14, a15], _ => exact ⟨a0, a1, a2, a3, a4, a5, a6, a7, a8, a9, a10, a11, a12, a13, a14, a15, rfl⟩
def tL (x y z : List Nat) : List Nat := x ++ (y ++ z)
theorem tL_len {x y z : List Nat} (hx : x.length = 16) (hy : y.length = 16) (hz : z.length = 16) : (tL x y z).length = 48 := by simp [tL, hx, hy, hz]
theorem tri {x y z : List Nat} (hx : x.length = 16) (hy : y.length = 16) (hz : z.length = 16) :
    List.take 16 (ns .u64 (tL x y z)) = ns .u64 x ∧ List.take 16 (List.drop 16 (ns .u64 (tL x y z))) = ns .u64 y ∧ List.take 16 (List.drop 32 (ns .u64 (tL x y z))) = ns .u64 z := by
  obtain ⟨a0, a1, a2, a3, a4, a5, a6, a7, a8, a9, a10, a11, a12, a13, a14, a15, rfl⟩ := six _ hx
  obtain ⟨b0, b1, b2, b3, b4, b5, b6, b7, b8, b9, b10, b11, b12, b13, b14, b15, rfl⟩ := six _ hy
  obtain ⟨c0, c1, c2, c3, c4, c5, c6, c7, c8, c9, c10, c11, c12, c13, c14, c15, rfl⟩ := six _ hz
  exact ⟨rfl, rfl, rfl⟩
def zero48 : List Nat := List.replicate 48 0
theorem z48_eq : List.replicate 48 (Value.int .u64 0) = ns .u64 zero48 := rfl
theorem z48_len : zero48.length = 48 := rfl
theorem fillT {x y z : List Nat} (hx : x.length = 16) (hy : y.length = 16) (hz : z.length = 16) : fillL (ns .u64 zero48) [(0, 16, eV x), (16, 16, eV y), (32, 16, eV z)] = some (ns .u64 (tL x y z)) := by
  obtain ⟨a0, a1, a2, a3, a4, a5, a6, a7, a8, a9, a10, a11, a12, a13, a14, a15, rfl⟩ := six _ hx
  obtain ⟨b0, b1, b2, b3, b4, b5, b6, b7, b8, b9, b10, b11, b12, b13, b14, b15, rfl⟩ := six _ hy
  obtain ⟨c0, c1, c2, c3, c4, c5, c6, c7, c8, c9, c10, c11, c12, c13, c14, c15, rfl⟩ := six _ hz
  rfl
theorem fillT0 {y z : List Nat} (hy : y.length = 16) (hz : z.length = 16) : fillL (ns .u64 zero48) [(16, 16, eV y), (32, 16, eV z)] = some (ns .u64 (tL zero16 y z)) := by
  obtain ⟨b0, b1, b2, b3, b4, b5, b6, b7, b8, b9, b10, b11, b12, b13, b14, b15, rfl⟩ := six _ hy
  obtain ⟨c0, c1, c2, c3, c4, c5, c6, c7, c8, c9, c10, c11, c12, c13, c14, c15, rfl⟩ := six _ hz
  rfl
structure RRep (x y z : List Nat) (p : Go.Cv.Pt Go.Fp.P Go.Fp.d) : Prop where
  nx : Nm x
  ny : Nm y
  nz : Nm z
  ne : nf z ≠ 0
  x : nf x = p.x * nf z
  y : nf y = p.y * nf z
def RP (l : List Nat) (p : Go.Cv.Pt Go.Fp.P Go.Fp.d) : Prop := ∃ x y z, l = tL x y z ∧ RRep x y z p
theorem RP.len {l : List Nat} {p : Go.Cv.Pt Go.Fp.P Go.Fp.d} (h : RP l p) : l.length = 48 := by
  obtain ⟨x, y, z, rfl, h⟩ := h
  exact tL_len h.nx.len h.ny.len h.nz.len
theorem fe_m1 (b D : Go.Fp.Fe) : b - D * b = b * (1 - D) := by grobner
theorem fe_m2 (b D : Go.Fp.Fe) : b + D * b = b * (1 + D) := by grobner
theorem sum_x {s D N a b m q w : Go.Fp.Fe} (hs : s * (1 + D) = N) (hb : b = a * a)
    (hm : m = b - D * b) (hq : q = b + D * b) (hw : w = N * a) : a * m * w = s * (m * q) := by
  subst hw hm hq hb
  rw [← hs]
  clear hs
  grobner
theorem sum_y {s D N a b m q : Go.Fp.Fe} (hs : s * (1 - D) = N) (hb : b = a * a)
    (hm : m = b - D * b) (hq : q = b + D * b) : a * q * (N * a) = s * (m * q) := by
  subst hm hq hb
  rw [← hs]
  clear hs
  grobner
theorem radd_rep {x1 y1 z1 x2 y2 z2 : Go.Fp.Fe} {p q : Go.Cv.Pt Go.Fp.P Go.Fp.d} (n1 : z1 ≠ 0) (n2 : z2 ≠ 0) (hx1 : x1 = p.x * z1) (hy1 : y1 = p.y * z1) (hx2 : x2 = q.x * z2) (hy2 : y2 = q.y * z2)
    {a b c e g m u w : Go.Fp.Fe} (ha : a = z1 * z2) (hb : b = a * a) (hc : c = x1 * x2) (he : e = y1 * y2) (hg : g = Go.Fp.d * (c * e)) (hm : m = b - g) (hu : u = b + g) (hw : w = (x1 + y1) * (x2 + y2) - c - e) :
    m * u ≠ 0 ∧ a * m * w = (padd p q).x * (m * u) ∧ a * u * (e + c) = (padd p q).y * (m * u) := by
  have F := Go.Fp.fld
  have hP := F.denP p.on q.on
  have hM := F.denM p.on q.on
  have sx := Go.Cv.add_x Go.Fp.fld p q
  have sy := Go.Cv.add_y Go.Fp.fld p q
  have hx : (padd p q).x * (1 + Go.Fp.d * p.x * q.x * p.y * q.y) = p.x * q.y + q.x * p.y := sx
  have hy : (padd p q).y * (1 - Go.Fp.d * p.x * q.x * p.y * q.y) = p.y * q.y + p.x * q.x := sy
  clear sx sy
  generalize (padd p q).x = s1 at *
  generalize (padd p q).y = s2 at *
  generalize p.x = px at *
  generalize p.y = py at *
  generalize q.x = qx at *
  generalize q.y = qy at *
  generalize Go.Fp.d = d at *
  have an : a ≠ 0 := by rw [ha]; exact F.mul_ne n1 n2
  have bn : b ≠ 0 := by rw [hb]; exact F.mul_ne an an
  have hgb : g = d * px * qx * py * qy * b := by
    subst hx1 hy1 hx2 hy2 hc he hb ha
    rw [hg]
    clear hg hm hu hw hP hM hx hy n1 n2 an bn F
    grobner
  have hwa : w = (px * qy + qx * py) * a := by
    subst hx1 hy1 hx2 hy2 hc he ha
    rw [hw]
    clear hg hm hu hw hP hM hx hy n1 n2 an bn F hgb hb
    grobner
  have hec : e + c = (py * qy + px * qx) * a := by
    subst hx1 hy1 hx2 hy2 hc he ha
    clear hg hm hu hw hP hM hx hy n1 n2 an bn F hgb hb hwa
    grobner
  have hm' : m = b - d * px * qx * py * qy * b := by rw [hm, hgb]
  have hu' : u = b + d * px * qx * py * qy * b := by rw [hu, hgb]
  generalize hD : d * px * qx * py * qy = D at *
  refine ⟨?_, ?_, ?_⟩
  · have e1 : m = b * (1 - D) := by rw [hm']; exact fe_m1 _ _
    have e2 : u = b * (1 + D) := by rw [hu']; exact fe_m2 _ _
    rw [e1, e2]
    exact F.mul_ne (F.mul_ne bn hM) (F.mul_ne bn hP)
  · exact sum_x hx hb hm' hu' hwa
  · rw [hec]
    exact sum_y hy hb hm' hu'
theorem raddp_v {l1 l2 dl : List Nat} {p q : Go.Cv.Pt Go.Fp.P Go.Fp.d} (h1 : RP l1 p) (h2 : RP l2 q) (Nd : Nm dl) (hd : nf dl = Go.Fp.d) : ∃ r, evVal T 35 [eV l1, eV l2, eV dl] = some (eV r) ∧ RP r (padd p q) := by
  obtain ⟨x1, y1, z1, rfl, h1⟩ := h1
  obtain ⟨x2, y2, z2, rfl, h2⟩ := h2
  obtain ⟨a, va, Na, fa⟩ := rmul_v h1.nz h2.nz
  obtain ⟨b, vb, Nb, fb⟩ := rmul_v Na Na
  obtain ⟨c, vc, Nc, fc⟩ := rmul_v h1.nx h2.nx
  obtain ⟨e, ve, Ne, fe'⟩ := rmul_v h1.ny h2.ny
  obtain ⟨ce, vce, Nce, fce⟩ := rmul_v Nc Ne
  obtain ⟨g, vg, Ng, fg⟩ := rmul_v Nd Nce
  obtain ⟨m, vm, Nmm, fm⟩ := rsub_v Nb Ng
  obtain ⟨u, vu, Nu, fu⟩ := radd_v Nb Ng
  obtain ⟨s1, vs1, Ns1, fs1⟩ := radd_v h1.nx h1.ny
  obtain ⟨s2, vs2, Ns2, fs2⟩ := radd_v h2.nx h2.ny
  obtain ⟨s3, vs3, Ns3, fs3⟩ := rmul_v Ns1 Ns2
  obtain ⟨s4, vs4, Ns4, fs4⟩ := rsub_v Ns3 Nc
  obtain ⟨w, vw, Nw, fw⟩ := rsub_v Ns4 Ne
  obtain ⟨am, vam, Nam, fam⟩ := rmul_v Na Nmm
  obtain ⟨X, vX, NX, fX⟩ := rmul_v Nam Nw
  obtain ⟨au, vau, Nau, fau⟩ := rmul_v Na Nu
  obtain ⟨ec, vec, Nec, fec⟩ := radd_v Ne Nc
  obtain ⟨Y, vY, NY, fY⟩ := rmul_v Nau Nec
  obtain ⟨Z, vZ, NZ, fZ⟩ := rmul_v Nmm Nu
  obtain ⟨g1, g2, g3⟩ := radd_rep (w := nf w) (g := nf g) h1.ne h2.ne h1.x h1.y h2.x h2.y fa fb fc fe' (by rw [fg, hd, fce]) fm fu (by rw [fw, fs4, fs3, fs1, fs2])
  refine ⟨tL X Y Z, ?_, X, Y, Z, rfl, NX, NY, NZ, by rw [fZ]; exact g1, by rw [fX, fam, fZ]; exact g2, by rw [fY, fau, fec, fZ]; exact g3⟩
  obtain ⟨u0, u1, u2⟩ := tri h1.nx.len h1.ny.len h1.nz.len
  obtain ⟨v0, v1, v2⟩ := tri h2.nx.len h2.ny.len h2.nz.len
  have L1 := tL_len h1.nx.len h1.ny.len h1.nz.len
  have L2 := tL_len h2.nx.len h2.ny.len h2.nz.len
  have L3 := tL_len NX.len NY.len NZ.len
  have hf := fillT NX.len NY.len NZ.len
  have hz := z16_eq
  have lz := z16_len
  have hz2 := z48_eq
  have lz2 := z48_len
  have ld := Nd.len
  have la := Na.len
  have lb := Nb.len
  have lc := Nc.len
  have le := Ne.len
  have lg := Ng.len
  have lm := Nmm.len
  have lu := Nu.len
  have lw := Nw.len
  generalize zero16 = Z16 at *
  generalize zero48 = Z48 at *
  generalize tL X Y Z = R at *
  generalize tL x1 y1 z1 = P1 at *
  generalize tL x2 y2 z2 = P2 at *
  apply evVal_ex
  apply Exists.intro
  rw [evFun_fn (fn := a35) rfl]
  simp only [a35, ↓steps_chunk, envOf, evCode_skip, evCode_exit, evCode_seq, fs_blockS, fs_blockR, fs_blockC, fs_blockK, fs_blockB, evCode_ret, quiet, keep_nil, keep_cons, fs_cond, fs_region, fs_regionQ, quiet2_eq, lastOf_nil, lastOf_cons, List.take_succ_cons, List.take_zero, List.drop_succ_cons, List.drop_zero, Int.reduceBEq, Int.reduceBNe,  fs_nil, fs_guard, fs_move, fs_pick, fs_alloc, fs_box, fs_load, fs_store, fs_bin, fs_eqv, fs_isNil, fs_un, fs_conv, fs_convStr, fs_field, fs_index, fs_indexStr, fs_build, fs_buildSlice, fs_fieldAddr, fs_indexAddr, fs_indexSl, fs_sliceArr, fs_sliceSl, fs_sliceStr, fs_makeSlice, fs_extract, fs_mkIface, fs_mkFunc, fs_nilCheck, fs_s2ap, fs_len, fs_minmax, fs_s2b, fs_b2s, fs_append, fs_copy, fs_callW, fs_callR, fs_callv, opd_tmp, opd_const, opd_func, opds_nil, opds_cons, opdOpt_none, opdOpt_some, opdParts_nil, opdParts_cons, get_miss, vPick_t, vPick_f, vEq_agg, vEq_aggN, vEq_bool, vEq_boolN, vConv_int, vStr_s, vField_agg, vIndex_agg, vIndexStr_s, vFieldAddr_p, vIndexAddr_p, vIndexSl_s, vSliceArr_p, vSliceSl_s, vSliceSl_n, vSliceStr_s, vExtract_t, vNilCheck_p, vS2ap_s, vLen_s, vLen_str, vMin_i, vMax_i, vLoad_p, vStore_p, baseP_p, vB2s_s, vMake_i, vS2b_s, callee_f, liveAt_eq, storeAt_eq, partL_none, partL_some, natIn_none, natIn_int, bounds3_two, bin_add, bin_sub, bin_mul, bin_quo, bin_rem, bin_and, bin_or, bin_xor, bin_andNot, bin_eql, bin_neq, bin_lss, bin_leq, bin_gtr, bin_geq, bin_shl, bin_shr, bin_sadd, bin_seql, bin_sneq, un_not, un_neg, un_xor, after_some, put_some, put_none, res_nil, res_val, res_var, packed_one, packed_two, merge_nil, merge_ge, rf_tup2, rfIn_int, rfIn_bool, rfIn_u8s, rf_str, rfIn_str, ↓gate_true, gd_bool, gd_ut, gd_uf, ↓guardW_tt, ↓guardW_ff, ↓guardW_tf, ↓guardW_ft, ↓keepW_some, ↓qElseW_some, ↓get_hit, ↓Option.bind_some, ↓if_true, ↓if_false, List.nil_append, List.cons_append, List.all_nil, List.all_cons, List.isEmpty_nil, reduceCtorEq, Bool.false_eq_true, Nat.reduceEqDiff, beq_self_eq_true, bne_self_eq_false, Bool.not_true, Bool.not_false, Int.natCast_nonneg, Nat.lt_irrefl, false_and, Int.reduceEq, rf_int, rf_bool, rf_tuple_ints, rf_u8s, arr_list, toList2, Bool.and_self, Nat.not_lt_zero, Nat.sub_zero, Nat.zero_le, Nat.le_add_right, cells_agg, cells_agg_size, cells_int, cells_int_size, okV_int, okV_bool, okV_str, okV_agg, okV_ptr, okV_slice, okV_func, okV_nilFunc, okV_iface, okV_nilIface, cells_bool, cells_bool_size, cells_ptr, cells_ptr_size, cells_slice, cells_slice_size, cells_str, cells_str_size, eq_self, wrapI64_small, Int.natCast_zero, Int.natCast_one, Int.cast_ofNat_Int, List.length_nil, List.length_cons, List.getElem?_cons_zero, List.getElem?_cons_succ, List.set_cons_zero, List.set_cons_succ, Nat.zero_add, Nat.add_zero, Nat.mul_one, Nat.zero_mul, Int.toNat_natCast, Int.toNat_zero, Int.lt_irrefl, Int.le_refl, Nat.le_refl, and_self, true_and, and_true, decide_true, decide_false, Int.reduceLE, Int.reduceLT, Int.reduceAdd, Int.reduceMul, Int.reduceSub, Int.reduceTDiv, Int.reduceTMod, Int.reduceNeg, Int.reduceToNat, Int.reduceGT, Int.reduceGE, Int.reducePow, Nat.reduceAdd, Nat.reduceMul, Nat.reduceSub, Nat.reduceDiv, Nat.reduceMod, Nat.reducePow, Nat.reduceLT, Nat.reduceLeDiff, Nat.min_self, ge_iff_le, gt_iff_lt, Option.isNone_none, Option.isSome_none, Option.isNone_some, Option.isSome_some, Bool.and_true, Bool.true_and, Bool.and_false, Bool.false_and, not_true_eq_false, not_false_eq_true, or_true, true_or, false_or, or_false, hget0, hgetK, hset0, hsetK, splice_single, splice_whole, take_whole, List.getElem?_nil, List.length_append, List.append_assoc, hz, hz2, u0, u1, u2, v0, v1, v2, hf, va, vb, vc, ve, vce, vg, vm, vu, vs1, vs2, vs3, vs4, vw, vam, vX, vau, vec, vY, vZ, List.length_replicate, take_all, eV_cells, eV_size, eV_ok, eV_fold, ns_len, L1, L2, L3, lz, lz2, ld, la, lb, lc, le, lg, lm, lu, lw, rf_eV]
  rfl
theorem rzero_v : ∃ r, evVal T 74 [] = some (eV r) ∧ RP r pzero := by
  have hs := rsmall_v 1 (by decide)
  have hN := smallL_nm 1
  have h1 := rone_nf
  have h0 : nf zero16 = 0 := by unfold nf; rw [zero16_num]; rfl
  refine ⟨tL zero16 (smallL 1) (smallL 1), ?_, _, _, _, rfl, zero16_nm, hN, hN, by rw [h1]; exact Go.Fp.one_ne, by rw [h0, h1]; show (0 : Go.Fp.Fe) = 0 * 1; grobner, by rw [h1]; show (1 : Go.Fp.Fe) = 1 * 1; grobner⟩
  have hf := fillT0 hN.len hN.len
  have hz2 := z48_eq
  have lz2 := z48_len
  have L := tL_len zero16_nm.len hN.len hN.len
  simp only [Int.natCast_one] at hs
  generalize tL zero16 (smallL 1) (smallL 1) = R at *
  generalize smallL 1 = S at *
  generalize zero48 = Z48 at *
  apply evVal_ex
  apply Exists.intro
  rw [evFun_fn (fn := a74) rfl]
  simp only [a74, ↓steps_chunk, envOf, evCode_skip, evCode_exit, evCode_seq, fs_blockS, fs_blockR, fs_blockC, fs_blockK, fs_blockB, evCode_ret, quiet, keep_nil, keep_cons, fs_cond, fs_region, fs_regionQ, quiet2_eq, lastOf_nil, lastOf_cons, List.take_succ_cons, List.take_zero, List.drop_succ_cons, List.drop_zero, Int.reduceBEq, Int.reduceBNe,  fs_nil, fs_guard, fs_move, fs_pick, fs_alloc, fs_box, fs_load, fs_store, fs_bin, fs_eqv, fs_isNil, fs_un, fs_conv, fs_convStr, fs_field, fs_index, fs_indexStr, fs_build, fs_buildSlice, fs_fieldAddr, fs_indexAddr, fs_indexSl, fs_sliceArr, fs_sliceSl, fs_sliceStr, fs_makeSlice, fs_extract, fs_mkIface, fs_mkFunc, fs_nilCheck, fs_s2ap, fs_len, fs_minmax, fs_s2b, fs_b2s, fs_append, fs_copy, fs_callW, fs_callR, fs_callv, opd_tmp, opd_const, opd_func, opds_nil, opds_cons, opdOpt_none, opdOpt_some, opdParts_nil, opdParts_cons, get_miss, vPick_t, vPick_f, vEq_agg, vEq_aggN, vEq_bool, vEq_boolN, vConv_int, vStr_s, vField_agg, vIndex_agg, vIndexStr_s, vFieldAddr_p, vIndexAddr_p, vIndexSl_s, vSliceArr_p, vSliceSl_s, vSliceSl_n, vSliceStr_s, vExtract_t, vNilCheck_p, vS2ap_s, vLen_s, vLen_str, vMin_i, vMax_i, vLoad_p, vStore_p, baseP_p, vB2s_s, vMake_i, vS2b_s, callee_f, liveAt_eq, storeAt_eq, partL_none, partL_some, natIn_none, natIn_int, bounds3_two, bin_add, bin_sub, bin_mul, bin_quo, bin_rem, bin_and, bin_or, bin_xor, bin_andNot, bin_eql, bin_neq, bin_lss, bin_leq, bin_gtr, bin_geq, bin_shl, bin_shr, bin_sadd, bin_seql, bin_sneq, un_not, un_neg, un_xor, after_some, put_some, put_none, res_nil, res_val, res_var, packed_one, packed_two, merge_nil, merge_ge, rf_tup2, rfIn_int, rfIn_bool, rfIn_u8s, rf_str, rfIn_str, ↓gate_true, gd_bool, gd_ut, gd_uf, ↓guardW_tt, ↓guardW_ff, ↓guardW_tf, ↓guardW_ft, ↓keepW_some, ↓qElseW_some, ↓get_hit, ↓Option.bind_some, ↓if_true, ↓if_false, List.nil_append, List.cons_append, List.all_nil, List.all_cons, List.isEmpty_nil, reduceCtorEq, Bool.false_eq_true, Nat.reduceEqDiff, beq_self_eq_true, bne_self_eq_false, Bool.not_true, Bool.not_false, Int.natCast_nonneg, Nat.lt_irrefl, false_and, Int.reduceEq, rf_int, rf_bool, rf_tuple_ints, rf_u8s, arr_list, toList2, Bool.and_self, Nat.not_lt_zero, Nat.sub_zero, Nat.zero_le, Nat.le_add_right, cells_agg, cells_agg_size, cells_int, cells_int_size, okV_int, okV_bool, okV_str, okV_agg, okV_ptr, okV_slice, okV_func, okV_nilFunc, okV_iface, okV_nilIface, cells_bool, cells_bool_size, cells_ptr, cells_ptr_size, cells_slice, cells_slice_size, cells_str, cells_str_size, eq_self, wrapI64_small, Int.natCast_zero, Int.natCast_one, Int.cast_ofNat_Int, List.length_nil, List.length_cons, List.getElem?_cons_zero, List.getElem?_cons_succ, List.set_cons_zero, List.set_cons_succ, Nat.zero_add, Nat.add_zero, Nat.mul_one, Nat.zero_mul, Int.toNat_natCast, Int.toNat_zero, Int.lt_irrefl, Int.le_refl, Nat.le_refl, and_self, true_and, and_true, decide_true, decide_false, Int.reduceLE, Int.reduceLT, Int.reduceAdd, Int.reduceMul, Int.reduceSub, Int.reduceTDiv, Int.reduceTMod, Int.reduceNeg, Int.reduceToNat, Int.reduceGT, Int.reduceGE, Int.reducePow, Nat.reduceAdd, Nat.reduceMul, Nat.reduceSub, Nat.reduceDiv, Nat.reduceMod, Nat.reducePow, Nat.reduceLT, Nat.reduceLeDiff, Nat.min_self, ge_iff_le, gt_iff_lt, Option.isNone_none, Option.isSome_none, Option.isNone_some, Option.isSome_some, Bool.and_true, Bool.true_and, Bool.and_false, Bool.false_and, not_true_eq_false, not_false_eq_true, or_true, true_or, false_or, or_false, hget0, hgetK, hset0, hsetK, splice_single, splice_whole, take_whole, List.getElem?_nil, List.length_append, List.append_assoc, hz2, hs, hf, List.length_replicate, take_all, eV_cells, eV_size, eV_ok, eV_fold, ns_len, L, lz2, rf_eV]
  rfl
end Go.Ev.Ytaceeoghjgggjaa
set_option linter.unusedSimpArgs false
set_option linter.unusedVariables false
namespace Go.Ev.Ytaceeoghjgggjaa
open Go Go.Ev
attribute [local congr] bind_congr2 ite_congr2 qElse_congr gate_congr guardV_congr
set_option maxRecDepth 100000
def ruH (k P o D : List Nat) : List Ob := [⟨u8s k, true, true, true, 1⟩, ⟨ns .u64 P, true, true, true, 1⟩, ⟨ns .u64 zero48, true, true, true, 1⟩, ⟨ns .u64 o, true, true, true, 1⟩, ⟨ns .u64 D, true, true, true, 1⟩]
def ruI (k P o D : List Nat) (i : Int) (ex : Env) : St := ⟨[(2, .pointer (some ⟨0, 0, none⟩)), (3, .pointer (some ⟨1, 0, none⟩)), (4, .pointer (some ⟨2, 0, none⟩)), (5, .pointer (some ⟨3, 0, none⟩)), (6, .pointer (some ⟨4, 0, none⟩)), (7, .int .i64 i)] ++ ex, ruH k P o D, []⟩
def ruB (k P o D : List Nat) (i : Int) (w j : Nat) (ex : Env) : St := ⟨[(2, .pointer (some ⟨0, 0, none⟩)), (3, .pointer (some ⟨1, 0, none⟩)), (4, .pointer (some ⟨2, 0, none⟩)), (5, .pointer (some ⟨3, 0, none⟩)), (6, .pointer (some ⟨4, 0, none⟩)), (7, .int .i64 i), (8, .int .i64 w), (9, .int .i64 j)] ++ ex, ruH k P o D, []⟩
theorem ru_bit {k P o D : List Nat} {i w : Nat} (hi : i < 256) (hw : w < 256) :
    evCode T 0 (.block 2 (.loop a38_l0)) (ruB k P o D i w 0 []) = some (.normal, ruB k P o D i (w / 2 ^ (i % 8)) (i % 8) [(24, .bool false)]) := by
  have e3 : (i : Int).tmod 8 = ((i % 8 : Nat) : Int) := rfl
  have h := block_loop (T := T) (base := 0) (id := 2) (body := a38_l0) (fun j => ruB k P o D i (w / 2 ^ j) j []) (s' := ruB k P o D i (w / 2 ^ (i % 8)) (i % 8) [(24, .bool false)]) (i % 8)
    (fun j hj => by
      have h16 := Nat.mod_lt i (by decide : 0 < 8)
      have e1 : ((j : Int) < ((i % 8 : Nat) : Int)) = True := eq_true (by omega)
      have w1 : IntKind.i64.wrap ((j : Int) + 1) = ((j + 1 : Nat) : Int) := wi_add (b := 1) (by omega)
      have hle : w / 2 ^ j ≤ w := Nat.div_le_self _ _
      have w2 : IntKind.i64.wrap (((w / 2 ^ j : Nat) : Int).tdiv 2) = ((w / 2 ^ j / 2 : Nat) : Int) := wn (n := w / 2 ^ j / 2) (by omega)
      rw [Nat.pow_succ, ← Nat.div_div_eq_div_mul]
      generalize w / 2 ^ j = v at *
      generalize v / 2 = u at *
      generalize i % 8 = m at *
      simp only [ruB, ruH, a38_l0, envOf, evCode_skip, evCode_exit, evCode_seq, fs_blockS, fs_blockR, fs_blockC, fs_blockK, fs_blockB, evCode_ret, quiet, keep_nil, keep_cons, fs_cond, fs_region, fs_regionQ, quiet2_eq, lastOf_nil, lastOf_cons, List.take_succ_cons, List.take_zero, List.drop_succ_cons, List.drop_zero, Int.reduceBEq, Int.reduceBNe,  fs_nil, fs_guard, fs_move, fs_pick, fs_alloc, fs_box, fs_load, fs_store, fs_bin, fs_eqv, fs_isNil, fs_un, fs_conv, fs_convStr, fs_field, fs_index, fs_indexStr, fs_build, fs_buildSlice, fs_fieldAddr, fs_indexAddr, fs_indexSl, fs_sliceArr, fs_sliceSl, fs_sliceStr, fs_makeSlice, fs_extract, fs_mkIface, fs_mkFunc, fs_nilCheck, fs_s2ap, fs_len, fs_minmax, fs_s2b, fs_b2s, fs_append, fs_copy, fs_callW, fs_callR, fs_callv, opd_tmp, opd_const, opd_func, opds_nil, opds_cons, opdOpt_none, opdOpt_some, opdParts_nil, opdParts_cons, get_miss, vPick_t, vPick_f, vEq_agg, vEq_aggN, vEq_bool, vEq_boolN, vConv_int, vStr_s, vField_agg, vIndex_agg, vIndexStr_s, vFieldAddr_p, vIndexAddr_p, vIndexSl_s, vSliceArr_p, vSliceSl_s, vSliceSl_n, vSliceStr_s, vExtract_t, vNilCheck_p, vS2ap_s, vLen_s, vLen_str, vMin_i, vMax_i, vLoad_p, vStore_p, baseP_p, vB2s_s, vMake_i, vS2b_s, callee_f, liveAt_eq, storeAt_eq, partL_none, partL_some, natIn_none, natIn_int, bounds3_two, bin_add, bin_sub, bin_mul, bin_quo, bin_rem, bin_and, bin_or, bin_xor, bin_andNot, bin_eql, bin_neq, bin_lss, bin_leq, bin_gtr, bin_geq, bin_shl, bin_shr, bin_sadd, bin_seql, bin_sneq, un_not, un_neg, un_xor, after_some, put_some, put_none, res_nil, res_val, res_var, packed_one, packed_two, merge_nil, merge_ge, rf_tup2, rfIn_int, rfIn_bool, rfIn_u8s, rf_str, rfIn_str, ↓gate_true, gd_bool, gd_ut, gd_uf, ↓guardV_tt, ↓guardV_ff, ↓guardV_tf, ↓guardV_ft, ↓keepV_some, ↓qElse_some, ↓get_hit, ↓Option.bind_some, ↓if_true, ↓if_false, List.nil_append, List.cons_append, List.all_nil, List.all_cons, List.isEmpty_nil, reduceCtorEq, Bool.false_eq_true, Nat.reduceEqDiff, beq_self_eq_true, bne_self_eq_false, Bool.not_true, Bool.not_false, Int.natCast_nonneg, Nat.lt_irrefl, false_and, Int.reduceEq, rf_int, rf_bool, rf_tuple_ints, rf_u8s, arr_list, toList2, Bool.and_self, Nat.not_lt_zero, Nat.sub_zero, Nat.zero_le, Nat.le_add_right, cells_agg, cells_agg_size, cells_int, cells_int_size, okV_int, okV_bool, okV_str, okV_agg, okV_ptr, okV_slice, okV_func, okV_nilFunc, okV_iface, okV_nilIface, cells_bool, cells_bool_size, cells_ptr, cells_ptr_size, cells_slice, cells_slice_size, cells_str, cells_str_size, eq_self, wrapI64_small, Int.natCast_zero, Int.natCast_one, Int.cast_ofNat_Int, List.length_nil, List.length_cons, List.getElem?_cons_zero, List.getElem?_cons_succ, List.set_cons_zero, List.set_cons_succ, Nat.zero_add, Nat.add_zero, Nat.mul_one, Nat.zero_mul, Int.toNat_natCast, Int.toNat_zero, Int.lt_irrefl, Int.le_refl, Nat.le_refl, and_self, true_and, and_true, decide_true, decide_false, Int.reduceLE, Int.reduceLT, Int.reduceAdd, Int.reduceMul, Int.reduceSub, Int.reduceTDiv, Int.reduceTMod, Int.reduceNeg, Int.reduceToNat, Int.reduceGT, Int.reduceGE, Int.reducePow, Nat.reduceAdd, Nat.reduceMul, Nat.reduceSub, Nat.reduceDiv, Nat.reduceMod, Nat.reducePow, Nat.reduceLT, Nat.reduceLeDiff, Nat.min_self, ge_iff_le, gt_iff_lt, Option.isNone_none, Option.isSome_none, Option.isNone_some, Option.isSome_some, Bool.and_true, Bool.true_and, Bool.and_false, Bool.false_and, not_true_eq_false, not_false_eq_true, or_true, true_or, false_or, or_false, hget0, hgetK, hset0, hsetK, splice_single, splice_whole, take_whole, List.getElem?_nil, List.length_append, List.append_assoc, e1, e3, w1, w2])
    (by
      generalize w / 2 ^ (i % 8) = v at *
      generalize i % 8 = m at *
      simp only [ruB, ruH, a38_l0, envOf, evCode_skip, evCode_exit, evCode_seq, fs_blockS, fs_blockR, fs_blockC, fs_blockK, fs_blockB, evCode_ret, quiet, keep_nil, keep_cons, fs_cond, fs_region, fs_regionQ, quiet2_eq, lastOf_nil, lastOf_cons, List.take_succ_cons, List.take_zero, List.drop_succ_cons, List.drop_zero, Int.reduceBEq, Int.reduceBNe,  fs_nil, fs_guard, fs_move, fs_pick, fs_alloc, fs_box, fs_load, fs_store, fs_bin, fs_eqv, fs_isNil, fs_un, fs_conv, fs_convStr, fs_field, fs_index, fs_indexStr, fs_build, fs_buildSlice, fs_fieldAddr, fs_indexAddr, fs_indexSl, fs_sliceArr, fs_sliceSl, fs_sliceStr, fs_makeSlice, fs_extract, fs_mkIface, fs_mkFunc, fs_nilCheck, fs_s2ap, fs_len, fs_minmax, fs_s2b, fs_b2s, fs_append, fs_copy, fs_callW, fs_callR, fs_callv, opd_tmp, opd_const, opd_func, opds_nil, opds_cons, opdOpt_none, opdOpt_some, opdParts_nil, opdParts_cons, get_miss, vPick_t, vPick_f, vEq_agg, vEq_aggN, vEq_bool, vEq_boolN, vConv_int, vStr_s, vField_agg, vIndex_agg, vIndexStr_s, vFieldAddr_p, vIndexAddr_p, vIndexSl_s, vSliceArr_p, vSliceSl_s, vSliceSl_n, vSliceStr_s, vExtract_t, vNilCheck_p, vS2ap_s, vLen_s, vLen_str, vMin_i, vMax_i, vLoad_p, vStore_p, baseP_p, vB2s_s, vMake_i, vS2b_s, callee_f, liveAt_eq, storeAt_eq, partL_none, partL_some, natIn_none, natIn_int, bounds3_two, bin_add, bin_sub, bin_mul, bin_quo, bin_rem, bin_and, bin_or, bin_xor, bin_andNot, bin_eql, bin_neq, bin_lss, bin_leq, bin_gtr, bin_geq, bin_shl, bin_shr, bin_sadd, bin_seql, bin_sneq, un_not, un_neg, un_xor, after_some, put_some, put_none, res_nil, res_val, res_var, packed_one, packed_two, merge_nil, merge_ge, rf_tup2, rfIn_int, rfIn_bool, rfIn_u8s, rf_str, rfIn_str, ↓gate_true, gd_bool, gd_ut, gd_uf, ↓guardV_tt, ↓guardV_ff, ↓guardV_tf, ↓guardV_ft, ↓keepV_some, ↓qElse_some, ↓get_hit, ↓Option.bind_some, ↓if_true, ↓if_false, List.nil_append, List.cons_append, List.all_nil, List.all_cons, List.isEmpty_nil, reduceCtorEq, Bool.false_eq_true, Nat.reduceEqDiff, beq_self_eq_true, bne_self_eq_false, Bool.not_true, Bool.not_false, Int.natCast_nonneg, Nat.lt_irrefl, false_and, Int.reduceEq, rf_int, rf_bool, rf_tuple_ints, rf_u8s, arr_list, toList2, Bool.and_self, Nat.not_lt_zero, Nat.sub_zero, Nat.zero_le, Nat.le_add_right, cells_agg, cells_agg_size, cells_int, cells_int_size, okV_int, okV_bool, okV_str, okV_agg, okV_ptr, okV_slice, okV_func, okV_nilFunc, okV_iface, okV_nilIface, cells_bool, cells_bool_size, cells_ptr, cells_ptr_size, cells_slice, cells_slice_size, cells_str, cells_str_size, eq_self, wrapI64_small, Int.natCast_zero, Int.natCast_one, Int.cast_ofNat_Int, List.length_nil, List.length_cons, List.getElem?_cons_zero, List.getElem?_cons_succ, List.set_cons_zero, List.set_cons_succ, Nat.zero_add, Nat.add_zero, Nat.mul_one, Nat.zero_mul, Int.toNat_natCast, Int.toNat_zero, Int.lt_irrefl, Int.le_refl, Nat.le_refl, and_self, true_and, and_true, decide_true, decide_false, Int.reduceLE, Int.reduceLT, Int.reduceAdd, Int.reduceMul, Int.reduceSub, Int.reduceTDiv, Int.reduceTMod, Int.reduceNeg, Int.reduceToNat, Int.reduceGT, Int.reduceGE, Int.reducePow, Nat.reduceAdd, Nat.reduceMul, Nat.reduceSub, Nat.reduceDiv, Nat.reduceMod, Nat.reducePow, Nat.reduceLT, Nat.reduceLeDiff, Nat.min_self, ge_iff_le, gt_iff_lt, Option.isNone_none, Option.isSome_none, Option.isNone_some, Option.isSome_some, Bool.and_true, Bool.true_and, Bool.and_false, Bool.false_and, not_true_eq_false, not_false_eq_true, or_true, true_or, false_or, or_false, hget0, hgetK, hset0, hsetK, splice_single, splice_whole, take_whole, List.getElem?_nil, List.length_append, List.append_assoc, e3])
  rw [Nat.pow_zero, Nat.div_one] at h
  exact h
theorem ru_body {k P o D : List Nat} {i : Nat} {ex : Env} {p q : Go.Cv.Pt Go.Fp.P Go.Fp.d} (lk : k.length = 32) (xk : ∀ x ∈ k, x < 256) (hi : i < 256) (hP : RP P p) (ho : RP o q) (ND : Nm D) (hD : nf D = Go.Fp.d) :
    ∃ P' o', evCode T 0 a38_l1 (ruI k P o D i ex) = some (.normal, ruI k P' o' D ((i + 1 : Nat) : Int) []) ∧ RP P' (padd p p) ∧ RP o' (if num 256 k / 2 ^ i % 2 = 1 then padd q p else q) := by
  obtain ⟨w, hw⟩ : ∃ w, k[i / 8]? = some w := ⟨_, List.getElem?_eq_getElem (by omega)⟩
  have hw' := xk w (List.mem_of_getElem? hw)
  have hwv := num_get (B := 256) (by decide) xk hw
  have hwc := u8s_get hw
  have hbit : w / 2 ^ (i % 8) % 2 = num 256 k / 2 ^ i % 2 := by
    rw [← hwv, show (256 : Nat) = 2 ^ 8 from rfl, bitOf (Nat.mod_lt _ (by decide)), Nat.div_add_mod]
  obtain ⟨r1, m1, g1⟩ := raddp_v ho hP ND hD
  obtain ⟨r2, m2, g2⟩ := raddp_v hP hP ND hD
  have hb := ru_bit (k := k) (P := P) (o := o) (D := D) hi hw'
  simp only [ruB, ruH, List.cons_append, List.nil_append, Int.natCast_zero] at hb
  have hlt := bit_lt (num 256 k) i
  have w0 : IntKind.i64.wrap (w : Int) = (w : Int) := wn (by omega)
  have w2 : IntKind.i64.wrap ((i : Int).tdiv 8) = ((i / 8 : Nat) : Int) := wn (n := i / 8) (by omega)
  have w3 : IntKind.i64.wrap ((i : Int) + 1) = ((i + 1 : Nat) : Int) := wi_add (b := 1) (by omega)
  have w4 : ((w / 2 ^ (i % 8) : Nat) : Int).tmod 2 = ((w / 2 ^ (i % 8) % 2 : Nat) : Int) := rfl
  have e1 : ((i : Int) < 256) = True := eq_true (by omega)
  have e3 : (((i / 8 : Nat) : Int) < 32) = True := eq_true (by omega)
  have l1 := hP.len
  have l2 := ho.len
  have l3 := g1.len
  have l4 := g2.len
  have l5 := ND.len
  rw [hbit] at w4
  generalize hB : num 256 k / 2 ^ i % 2 = B at *
  generalize w / 2 ^ (i % 8) = wv at *
  by_cases hB1 : B = 1
  · have hbq : ((B : Int) == 1) = true := by rw [hB1]; rfl
    rw [if_pos hB1]
    refine ⟨r2, r1, ?_, g2, g1⟩
    simp only [ruI, ruH, a38_l1, envOf, evCode_skip, evCode_exit, evCode_seq, fs_blockS, fs_blockR, fs_blockC, fs_blockK, fs_blockB, evCode_ret, quiet, keep_nil, keep_cons, fs_cond, fs_region, fs_regionQ, quiet2_eq, lastOf_nil, lastOf_cons, List.take_succ_cons, List.take_zero, List.drop_succ_cons, List.drop_zero, Int.reduceBEq, Int.reduceBNe,  fs_nil, fs_guard, fs_move, fs_pick, fs_alloc, fs_box, fs_load, fs_store, fs_bin, fs_eqv, fs_isNil, fs_un, fs_conv, fs_convStr, fs_field, fs_index, fs_indexStr, fs_build, fs_buildSlice, fs_fieldAddr, fs_indexAddr, fs_indexSl, fs_sliceArr, fs_sliceSl, fs_sliceStr, fs_makeSlice, fs_extract, fs_mkIface, fs_mkFunc, fs_nilCheck, fs_s2ap, fs_len, fs_minmax, fs_s2b, fs_b2s, fs_append, fs_copy, fs_callW, fs_callR, fs_callv, opd_tmp, opd_const, opd_func, opds_nil, opds_cons, opdOpt_none, opdOpt_some, opdParts_nil, opdParts_cons, get_miss, vPick_t, vPick_f, vEq_agg, vEq_aggN, vEq_bool, vEq_boolN, vConv_int, vStr_s, vField_agg, vIndex_agg, vIndexStr_s, vFieldAddr_p, vIndexAddr_p, vIndexSl_s, vSliceArr_p, vSliceSl_s, vSliceSl_n, vSliceStr_s, vExtract_t, vNilCheck_p, vS2ap_s, vLen_s, vLen_str, vMin_i, vMax_i, vLoad_p, vStore_p, baseP_p, vB2s_s, vMake_i, vS2b_s, callee_f, liveAt_eq, storeAt_eq, partL_none, partL_some, natIn_none, natIn_int, bounds3_two, bin_add, bin_sub, bin_mul, bin_quo, bin_rem, bin_and, bin_or, bin_xor, bin_andNot, bin_eql, bin_neq, bin_lss, bin_leq, bin_gtr, bin_geq, bin_shl, bin_shr, bin_sadd, bin_seql, bin_sneq, un_not, un_neg, un_xor, after_some, put_some, put_none, res_nil, res_val, res_var, packed_one, packed_two, merge_nil, merge_ge, rf_tup2, rfIn_int, rfIn_bool, rfIn_u8s, rf_str, rfIn_str, ↓gate_true, gd_bool, gd_ut, gd_uf, ↓guardV_tt, ↓guardV_ff, ↓guardV_tf, ↓guardV_ft, ↓keepV_some, ↓qElse_some, ↓get_hit, ↓Option.bind_some, ↓if_true, ↓if_false, List.nil_append, List.cons_append, List.all_nil, List.all_cons, List.isEmpty_nil, reduceCtorEq, Bool.false_eq_true, Nat.reduceEqDiff, beq_self_eq_true, bne_self_eq_false, Bool.not_true, Bool.not_false, Int.natCast_nonneg, Nat.lt_irrefl, false_and, Int.reduceEq, rf_int, rf_bool, rf_tuple_ints, rf_u8s, arr_list, toList2, Bool.and_self, Nat.not_lt_zero, Nat.sub_zero, Nat.zero_le, Nat.le_add_right, cells_agg, cells_agg_size, cells_int, cells_int_size, okV_int, okV_bool, okV_str, okV_agg, okV_ptr, okV_slice, okV_func, okV_nilFunc, okV_iface, okV_nilIface, cells_bool, cells_bool_size, cells_ptr, cells_ptr_size, cells_slice, cells_slice_size, cells_str, cells_str_size, eq_self, wrapI64_small, Int.natCast_zero, Int.natCast_one, Int.cast_ofNat_Int, List.length_nil, List.length_cons, List.getElem?_cons_zero, List.getElem?_cons_succ, List.set_cons_zero, List.set_cons_succ, Nat.zero_add, Nat.add_zero, Nat.mul_one, Nat.zero_mul, Int.toNat_natCast, Int.toNat_zero, Int.lt_irrefl, Int.le_refl, Nat.le_refl, and_self, true_and, and_true, decide_true, decide_false, Int.reduceLE, Int.reduceLT, Int.reduceAdd, Int.reduceMul, Int.reduceSub, Int.reduceTDiv, Int.reduceTMod, Int.reduceNeg, Int.reduceToNat, Int.reduceGT, Int.reduceGE, Int.reducePow, Nat.reduceAdd, Nat.reduceMul, Nat.reduceSub, Nat.reduceDiv, Nat.reduceMod, Nat.reducePow, Nat.reduceLT, Nat.reduceLeDiff, Nat.min_self, ge_iff_le, gt_iff_lt, Option.isNone_none, Option.isSome_none, Option.isNone_some, Option.isSome_some, Bool.and_true, Bool.true_and, Bool.and_false, Bool.false_and, not_true_eq_false, not_false_eq_true, or_true, true_or, false_or, or_false, hget0, hgetK, hset0, hsetK, splice_single, splice_whole, take_whole, List.getElem?_nil, List.length_append, List.append_assoc, hwc, hb, w0, w2, w3, w4, e1, e3, m1, m2, hbq, eV_cells, eV_size, eV_ok, eV_fold, ns_len, u8s_len, lk, take_all, l1, l2, l3, l4, l5, rf_eV]
  · have hbq : ((B : Int) == 1) = false := by
      have : B = 0 := by omega
      rw [this]; rfl
    rw [if_neg hB1]
    refine ⟨r2, o, ?_, g2, ho⟩
    simp only [ruI, ruH, a38_l1, envOf, evCode_skip, evCode_exit, evCode_seq, fs_blockS, fs_blockR, fs_blockC, fs_blockK, fs_blockB, evCode_ret, quiet, keep_nil, keep_cons, fs_cond, fs_region, fs_regionQ, quiet2_eq, lastOf_nil, lastOf_cons, List.take_succ_cons, List.take_zero, List.drop_succ_cons, List.drop_zero, Int.reduceBEq, Int.reduceBNe,  fs_nil, fs_guard, fs_move, fs_pick, fs_alloc, fs_box, fs_load, fs_store, fs_bin, fs_eqv, fs_isNil, fs_un, fs_conv, fs_convStr, fs_field, fs_index, fs_indexStr, fs_build, fs_buildSlice, fs_fieldAddr, fs_indexAddr, fs_indexSl, fs_sliceArr, fs_sliceSl, fs_sliceStr, fs_makeSlice, fs_extract, fs_mkIface, fs_mkFunc, fs_nilCheck, fs_s2ap, fs_len, fs_minmax, fs_s2b, fs_b2s, fs_append, fs_copy, fs_callW, fs_callR, fs_callv, opd_tmp, opd_const, opd_func, opds_nil, opds_cons, opdOpt_none, opdOpt_some, opdParts_nil, opdParts_cons, get_miss, vPick_t, vPick_f, vEq_agg, vEq_aggN, vEq_bool, vEq_boolN, vConv_int, vStr_s, vField_agg, vIndex_agg, vIndexStr_s, vFieldAddr_p, vIndexAddr_p, vIndexSl_s, vSliceArr_p, vSliceSl_s, vSliceSl_n, vSliceStr_s, vExtract_t, vNilCheck_p, vS2ap_s, vLen_s, vLen_str, vMin_i, vMax_i, vLoad_p, vStore_p, baseP_p, vB2s_s, vMake_i, vS2b_s, callee_f, liveAt_eq, storeAt_eq, partL_none, partL_some, natIn_none, natIn_int, bounds3_two, bin_add, bin_sub, bin_mul, bin_quo, bin_rem, bin_and, bin_or, bin_xor, bin_andNot, bin_eql, bin_neq, bin_lss, bin_leq, bin_gtr, bin_geq, bin_shl, bin_shr, bin_sadd, bin_seql, bin_sneq, un_not, un_neg, un_xor, after_some, put_some, put_none, res_nil, res_val, res_var, packed_one, packed_two, merge_nil, merge_ge, rf_tup2, rfIn_int, rfIn_bool, rfIn_u8s, rf_str, rfIn_str, ↓gate_true, gd_bool, gd_ut, gd_uf, ↓guardV_tt, ↓guardV_ff, ↓guardV_tf, ↓guardV_ft, ↓keepV_some, ↓qElse_some, ↓get_hit, ↓Option.bind_some, ↓if_true, ↓if_false, List.nil_append, List.cons_append, List.all_nil, List.all_cons, List.isEmpty_nil, reduceCtorEq, Bool.false_eq_true, Nat.reduceEqDiff, beq_self_eq_true, bne_self_eq_false, Bool.not_true, Bool.not_false, Int.natCast_nonneg, Nat.lt_irrefl, false_and, Int.reduceEq, rf_int, rf_bool, rf_tuple_ints, rf_u8s, arr_list, toList2, Bool.and_self, Nat.not_lt_zero, Nat.sub_zero, Nat.zero_le, Nat.le_add_right, cells_agg, cells_agg_size, cells_int, cells_int_size, okV_int, okV_bool, okV_str, okV_agg, okV_ptr, okV_slice, okV_func, okV_nilFunc, okV_iface, okV_nilIface, cells_bool, cells_bool_size, cells_ptr, cells_ptr_size, cells_slice, cells_slice_size, cells_str, cells_str_size, eq_self, wrapI64_small, Int.natCast_zero, Int.natCast_one, Int.cast_ofNat_Int, List.length_nil, List.length_cons, List.getElem?_cons_zero, List.getElem?_cons_succ, List.set_cons_zero, List.set_cons_succ, Nat.zero_add, Nat.add_zero, Nat.mul_one, Nat.zero_mul, Int.toNat_natCast, Int.toNat_zero, Int.lt_irrefl, Int.le_refl, Nat.le_refl, and_self, true_and, and_true, decide_true, decide_false, Int.reduceLE, Int.reduceLT, Int.reduceAdd, Int.reduceMul, Int.reduceSub, Int.reduceTDiv, Int.reduceTMod, Int.reduceNeg, Int.reduceToNat, Int.reduceGT, Int.reduceGE, Int.reducePow, Nat.reduceAdd, Nat.reduceMul, Nat.reduceSub, Nat.reduceDiv, Nat.reduceMod, Nat.reducePow, Nat.reduceLT, Nat.reduceLeDiff, Nat.min_self, ge_iff_le, gt_iff_lt, Option.isNone_none, Option.isSome_none, Option.isNone_some, Option.isSome_some, Bool.and_true, Bool.true_and, Bool.and_false, Bool.false_and, not_true_eq_false, not_false_eq_true, or_true, true_or, false_or, or_false, hget0, hgetK, hset0, hsetK, splice_single, splice_whole, take_whole, List.getElem?_nil, List.length_append, List.append_assoc, hwc, hb, w0, w2, w3, w4, e1, e3, m1, m2, hbq, eV_cells, eV_size, eV_ok, eV_fold, ns_len, u8s_len, lk, take_all, l1, l2, l3, l4, l5, rf_eV]
theorem pmul_one' (p : Go.Cv.Pt Go.Fp.P Go.Fp.d) : pmul 1 p = p := Go.Cv.mul_one Go.Fp.fld p
theorem pmul_add' (a b : Nat) (p : Go.Cv.Pt Go.Fp.P Go.Fp.d) : pmul (a + b) p = padd (pmul a p) (pmul b p) := Go.Cv.mul_add Go.Fp.fld a b p
theorem rmultiply_v {l k : List Nat} {p : Go.Cv.Pt Go.Fp.P Go.Fp.d} (hl : RP l p) (lk : k.length = 32) (xk : ∀ x ∈ k, x < 256) : ∃ r, evVal T 38 [.agg (u8s k).toArray, eV l] = some (eV r) ∧ RP r (pmul (num 256 k) p) := by
  have hK := num_lt xk
  rw [lk, show (256 : Nat) ^ 32 = 2 ^ 256 from by rw [show (256 : Nat) = 2 ^ 8 from rfl, ← Nat.pow_mul]] at hK
  obtain ⟨z, hz, rz⟩ := rzero_v
  obtain ⟨D, hD, ND, fD⟩ := rd_v
  obtain ⟨st, hb, P', r, rfl, hP', hr⟩ := block_inv (T := T) (base := 0) (id := 0) (body := a38_l1)
    (fun i st => ∃ (P o : List Nat) (ex : Env), st = ruI k P o D i ex ∧ RP P (pmul (2 ^ i) p) ∧ RP o (pmul (num 256 k % 2 ^ i) p))
    (Q := fun st => ∃ P o : List Nat, st = ruI k P o D 256 [(13, .bool false)] ∧ P.length = 48 ∧ RP o (pmul (num 256 k) p))
    256 (s := ruI k l z D 0 []) ⟨l, z, [], rfl, by rw [Nat.pow_zero, pmul_one']; exact hl, by rw [Nat.pow_zero, Nat.mod_one]; exact rz⟩
    (fun i st hi hs => by
      obtain ⟨P, o, ex, rfl, h1, h2⟩ := hs
      obtain ⟨P', o', g1, g2, g3⟩ := ru_body (ex := ex) lk xk hi h1 h2 ND fD
      refine ⟨_, g1, P', o', [], rfl, ?_, ?_⟩
      · rw [Nat.pow_succ, Nat.mul_two, pmul_add']; exact g2
      · have hm : num 256 k % 2 ^ (i + 1) = num 256 k % 2 ^ i + 2 ^ i * (num 256 k / 2 ^ i % 2) := Nat.mod_pow_succ
        have hlt := bit_lt (num 256 k) i
        rw [hm]
        by_cases hB : num 256 k / 2 ^ i % 2 = 1
        · rw [if_pos hB] at g3
          rw [hB, Nat.mul_one, pmul_add']; exact g3
        · rw [if_neg hB] at g3
          rw [show num 256 k / 2 ^ i % 2 = 0 by omega, Nat.mul_zero, Nat.add_zero]; exact g3)
    (fun st hs => by
      obtain ⟨P, o, ex, rfl, h1, h2⟩ := hs
      rw [Nat.mod_eq_of_lt hK] at h2
      refine ⟨_, ?_, P, o, rfl, h1.len, h2⟩
      simp only [ruI, ruH, a38_l1, envOf, evCode_skip, evCode_exit, evCode_seq, fs_blockS, fs_blockR, fs_blockC, fs_blockK, fs_blockB, evCode_ret, quiet, keep_nil, keep_cons, fs_cond, fs_region, fs_regionQ, quiet2_eq, lastOf_nil, lastOf_cons, List.take_succ_cons, List.take_zero, List.drop_succ_cons, List.drop_zero, Int.reduceBEq, Int.reduceBNe,  fs_nil, fs_guard, fs_move, fs_pick, fs_alloc, fs_box, fs_load, fs_store, fs_bin, fs_eqv, fs_isNil, fs_un, fs_conv, fs_convStr, fs_field, fs_index, fs_indexStr, fs_build, fs_buildSlice, fs_fieldAddr, fs_indexAddr, fs_indexSl, fs_sliceArr, fs_sliceSl, fs_sliceStr, fs_makeSlice, fs_extract, fs_mkIface, fs_mkFunc, fs_nilCheck, fs_s2ap, fs_len, fs_minmax, fs_s2b, fs_b2s, fs_append, fs_copy, fs_callW, fs_callR, fs_callv, opd_tmp, opd_const, opd_func, opds_nil, opds_cons, opdOpt_none, opdOpt_some, opdParts_nil, opdParts_cons, get_miss, vPick_t, vPick_f, vEq_agg, vEq_aggN, vEq_bool, vEq_boolN, vConv_int, vStr_s, vField_agg, vIndex_agg, vIndexStr_s, vFieldAddr_p, vIndexAddr_p, vIndexSl_s, vSliceArr_p, vSliceSl_s, vSliceSl_n, vSliceStr_s, vExtract_t, vNilCheck_p, vS2ap_s, vLen_s, vLen_str, vMin_i, vMax_i, vLoad_p, vStore_p, baseP_p, vB2s_s, vMake_i, vS2b_s, callee_f, liveAt_eq, storeAt_eq, partL_none, partL_some, natIn_none, natIn_int, bounds3_two, bin_add, bin_sub, bin_mul, bin_quo, bin_rem, bin_and, bin_or, bin_xor, bin_andNot, bin_eql, bin_neq, bin_lss, bin_leq, bin_gtr, bin_geq, bin_shl, bin_shr, bin_sadd, bin_seql, bin_sneq, un_not, un_neg, un_xor, after_some, put_some, put_none, res_nil, res_val, res_var, packed_one, packed_two, merge_nil, merge_ge, rf_tup2, rfIn_int, rfIn_bool, rfIn_u8s, rf_str, rfIn_str, ↓gate_true, gd_bool, gd_ut, gd_uf, ↓guardV_tt, ↓guardV_ff, ↓guardV_tf, ↓guardV_ft, ↓keepV_some, ↓qElse_some, ↓get_hit, ↓Option.bind_some, ↓if_true, ↓if_false, List.nil_append, List.cons_append, List.all_nil, List.all_cons, List.isEmpty_nil, reduceCtorEq, Bool.false_eq_true, Nat.reduceEqDiff, beq_self_eq_true, bne_self_eq_false, Bool.not_true, Bool.not_false, Int.natCast_nonneg, Nat.lt_irrefl, false_and, Int.reduceEq, rf_int, rf_bool, rf_tuple_ints, rf_u8s, arr_list, toList2, Bool.and_self, Nat.not_lt_zero, Nat.sub_zero, Nat.zero_le, Nat.le_add_right, cells_agg, cells_agg_size, cells_int, cells_int_size, okV_int, okV_bool, okV_str, okV_agg, okV_ptr, okV_slice, okV_func, okV_nilFunc, okV_iface, okV_nilIface, cells_bool, cells_bool_size, cells_ptr, cells_ptr_size, cells_slice, cells_slice_size, cells_str, cells_str_size, eq_self, wrapI64_small, Int.natCast_zero, Int.natCast_one, Int.cast_ofNat_Int, List.length_nil, List.length_cons, List.getElem?_cons_zero, List.getElem?_cons_succ, List.set_cons_zero, List.set_cons_succ, Nat.zero_add, Nat.add_zero, Nat.mul_one, Nat.zero_mul, Int.toNat_natCast, Int.toNat_zero, Int.lt_irrefl, Int.le_refl, Nat.le_refl, and_self, true_and, and_true, decide_true, decide_false, Int.reduceLE, Int.reduceLT, Int.reduceAdd, Int.reduceMul, Int.reduceSub, Int.reduceTDiv, Int.reduceTMod, Int.reduceNeg, Int.reduceToNat, Int.reduceGT, Int.reduceGE, Int.reducePow, Nat.reduceAdd, Nat.reduceMul, Nat.reduceSub, Nat.reduceDiv, Nat.reduceMod, Nat.reducePow, Nat.reduceLT, Nat.reduceLeDiff, Nat.min_self, ge_iff_le, gt_iff_lt, Option.isNone_none, Option.isSome_none, Option.isNone_some, Option.isSome_some, Bool.and_true, Bool.true_and, Bool.and_false, Bool.false_and, not_true_eq_false, not_false_eq_true, or_true, true_or, false_or, or_false])
  refine ⟨r, ?_, hr⟩
  have hz2 := z48_eq
  have lz2 := z48_len
  have l1 := hl.len
  have l2 := rz.len
  have l3 := ND.len
  have l4 := hr.len
  simp only [ruI, ruH, List.cons_append, List.nil_append] at hb
  generalize zero48 = Z48 at *
  apply evVal_ex
  apply Exists.intro
  rw [evFun_fn (fn := a38) rfl]
  simp only [a38, ↓steps_chunk, envOf, evCode_skip, evCode_exit, evCode_seq, fs_blockS, fs_blockR, fs_blockC, fs_blockK, fs_blockB, evCode_ret, quiet, keep_nil, keep_cons, fs_cond, fs_region, fs_regionQ, quiet2_eq, lastOf_nil, lastOf_cons, List.take_succ_cons, List.take_zero, List.drop_succ_cons, List.drop_zero, Int.reduceBEq, Int.reduceBNe,  fs_nil, fs_guard, fs_move, fs_pick, fs_alloc, fs_box, fs_load, fs_store, fs_bin, fs_eqv, fs_isNil, fs_un, fs_conv, fs_convStr, fs_field, fs_index, fs_indexStr, fs_build, fs_buildSlice, fs_fieldAddr, fs_indexAddr, fs_indexSl, fs_sliceArr, fs_sliceSl, fs_sliceStr, fs_makeSlice, fs_extract, fs_mkIface, fs_mkFunc, fs_nilCheck, fs_s2ap, fs_len, fs_minmax, fs_s2b, fs_b2s, fs_append, fs_copy, fs_callW, fs_callR, fs_callv, opd_tmp, opd_const, opd_func, opds_nil, opds_cons, opdOpt_none, opdOpt_some, opdParts_nil, opdParts_cons, get_miss, vPick_t, vPick_f, vEq_agg, vEq_aggN, vEq_bool, vEq_boolN, vConv_int, vStr_s, vField_agg, vIndex_agg, vIndexStr_s, vFieldAddr_p, vIndexAddr_p, vIndexSl_s, vSliceArr_p, vSliceSl_s, vSliceSl_n, vSliceStr_s, vExtract_t, vNilCheck_p, vS2ap_s, vLen_s, vLen_str, vMin_i, vMax_i, vLoad_p, vStore_p, baseP_p, vB2s_s, vMake_i, vS2b_s, callee_f, liveAt_eq, storeAt_eq, partL_none, partL_some, natIn_none, natIn_int, bounds3_two, bin_add, bin_sub, bin_mul, bin_quo, bin_rem, bin_and, bin_or, bin_xor, bin_andNot, bin_eql, bin_neq, bin_lss, bin_leq, bin_gtr, bin_geq, bin_shl, bin_shr, bin_sadd, bin_seql, bin_sneq, un_not, un_neg, un_xor, after_some, put_some, put_none, res_nil, res_val, res_var, packed_one, packed_two, merge_nil, merge_ge, rf_tup2, rfIn_int, rfIn_bool, rfIn_u8s, rf_str, rfIn_str, ↓gate_true, gd_bool, gd_ut, gd_uf, ↓guardW_tt, ↓guardW_ff, ↓guardW_tf, ↓guardW_ft, ↓keepW_some, ↓qElseW_some, ↓get_hit, ↓Option.bind_some, ↓if_true, ↓if_false, List.nil_append, List.cons_append, List.all_nil, List.all_cons, List.isEmpty_nil, reduceCtorEq, Bool.false_eq_true, Nat.reduceEqDiff, beq_self_eq_true, bne_self_eq_false, Bool.not_true, Bool.not_false, Int.natCast_nonneg, Nat.lt_irrefl, false_and, Int.reduceEq, rf_int, rf_bool, rf_tuple_ints, rf_u8s, arr_list, toList2, Bool.and_self, Nat.not_lt_zero, Nat.sub_zero, Nat.zero_le, Nat.le_add_right, cells_agg, cells_agg_size, cells_int, cells_int_size, okV_int, okV_bool, okV_str, okV_agg, okV_ptr, okV_slice, okV_func, okV_nilFunc, okV_iface, okV_nilIface, cells_bool, cells_bool_size, cells_ptr, cells_ptr_size, cells_slice, cells_slice_size, cells_str, cells_str_size, eq_self, wrapI64_small, Int.natCast_zero, Int.natCast_one, Int.cast_ofNat_Int, List.length_nil, List.length_cons, List.getElem?_cons_zero, List.getElem?_cons_succ, List.set_cons_zero, List.set_cons_succ, Nat.zero_add, Nat.add_zero, Nat.mul_one, Nat.zero_mul, Int.toNat_natCast, Int.toNat_zero, Int.lt_irrefl, Int.le_refl, Nat.le_refl, and_self, true_and, and_true, decide_true, decide_false, Int.reduceLE, Int.reduceLT, Int.reduceAdd, Int.reduceMul, Int.reduceSub, Int.reduceTDiv, Int.reduceTMod, Int.reduceNeg, Int.reduceToNat, Int.reduceGT, Int.reduceGE, Int.reducePow, Nat.reduceAdd, Nat.reduceMul, Nat.reduceSub, Nat.reduceDiv, Nat.reduceMod, Nat.reducePow, Nat.reduceLT, Nat.reduceLeDiff, Nat.min_self, ge_iff_le, gt_iff_lt, Option.isNone_none, Option.isSome_none, Option.isNone_some, Option.isSome_some, Bool.and_true, Bool.true_and, Bool.and_false, Bool.false_and, not_true_eq_false, not_false_eq_true, or_true, true_or, false_or, or_false, hget0, hgetK, hset0, hsetK, splice_single, splice_whole, take_whole, List.getElem?_nil, List.length_append, List.append_assoc, hz2, hz, hD, hb, List.length_replicate, take_all, eV_cells, eV_size, eV_ok, eV_fold, ns_len, u8s_len, lk, l1, l2, l3, l4, hP', lz2, rf_eV]
  rfl
theorem key_eq {l : List Nat} (hl : l.length = 32) (h : ∀ x ∈ l, x < 256) : l = dig 256 32 (num 256 l) := by
  have := dig_num (B := 256) (by decide) h
  rw [hl] at this
  exact this.symm
theorem top_add {v : Nat} (hv : v < 2 ^ 255) : ∃ w, (dig 256 32 v)[31]? = some w ∧ w < 128 ∧ (dig 256 32 v).set 31 (w + 128) = dig 256 32 (v + 2 ^ 255) := by
  obtain ⟨w, hw⟩ : ∃ w, (dig 256 32 v)[31]? = some w := ⟨_, List.getElem?_eq_getElem (by rw [dig_len]; decide)⟩
  have hwv : w = v / 256 ^ 31 % 256 := by rw [dig_get (by decide)] at hw; exact (Option.some.inj hw).symm
  have e31 : (256 : Nat) ^ 31 = 452312848583266388373324160190187140051835877600158453279131187530910662656 := by decide
  have e32 : (256 : Nat) ^ 32 = 115792089237316195423570985008687907853269984665640564039457584007913129639936 := by decide
  have e255 : (2 : Nat) ^ 255 = 57896044618658097711785492504343953926634992332820282019728792003956564819968 := by decide
  have hw128 : w < 128 := by
    rw [e31] at hwv
    rw [e255] at hv
    omega
  refine ⟨w, hw, hw128, ?_⟩
  have hlt : ∀ x ∈ (dig 256 32 v).set 31 (w + 128), x < 256 := set_lt (fun x hx => dig_lt (by decide) hx) (by omega)
  refine (key_eq (by rw [List.length_set, dig_len]) hlt).trans (congrArg (dig 256 32) ?_)
  have hs := num_set (B := 256) (w + 128) hw
  have hn : num 256 (dig 256 32 v) = v := by
    rw [num_dig (by decide)]
    refine Nat.mod_eq_of_lt ?_
    rw [e32]
    rw [e255] at hv
    omega
  rw [hn, e31] at hs
  rw [e255]
  omega
theorem rencode_v {l : List Nat} {p : Go.Cv.Pt Go.Fp.P Go.Fp.d} (h : RP l p) : evVal T 33 [eV l] = some (.agg (u8s (enc p)).toArray) := by
  obtain ⟨x, y, z, rfl, h⟩ := h
  obtain ⟨i, vi, Ni, fi⟩ := rinvert_v h.nz
  obtain ⟨a, va, Na, fa⟩ := rmul_v h.ny Ni
  obtain ⟨b, vb, Nb, fb⟩ := rmul_v h.nx Ni
  have hinv := Go.Fp.iv_mul h.ne
  have fa' : nf a = p.y := by rw [fa, fi, h.y]; grobner
  have fb' : nf b = p.x := by rw [fb, fi, h.x]; grobner
  have k1 := rbytes_v Na
  have k2 := rbytes_v Nb
  rw [fa'] at k1
  rw [fb'] at k2
  obtain ⟨u0, u1, u2⟩ := tri h.nx.len h.ny.len h.nz.len
  have L1 := tL_len h.nx.len h.ny.len h.nz.len
  have li := Ni.len
  have lk : (dig 256 32 p.y.val).length = 32 := dig_len _ _ _
  have lj : (dig 256 32 p.x.val).length = 32 := dig_len _ _ _
  have lz := dig_len 256 32 0
  have hz := z32_eq
  have h0 : (dig 256 32 p.x.val)[0]? = some (p.x.val % 256) := by rw [dig_get (by decide), Nat.pow_zero, Nat.div_one]
  have h0c := u8s_get h0
  have e0 : ((p.x.val % 256 : Nat) : Int).tmod 2 = ((p.x.val % 2 : Nat) : Int) := by
    have : p.x.val % 256 % 2 = p.x.val % 2 := by omega
    rw [← this]; rfl
  obtain ⟨w, hw, hw', hset0⟩ := top_add (val_lt p.y)
  have hwc := u8s_get hw
  have hset := u8s_set (dig 256 32 p.y.val) 31 (w + 128)
  rw [hset0] at hset
  have wadd : IntKind.u8.wrap ((w : Int) + 128) = ((w + 128 : Nat) : Int) := w8n (n := w + 128) (by omega)
  have lE := dig_len 256 32 (p.y.val + 2 ^ 255)
  generalize tL x y z = P1 at *
  generalize dig 256 32 0 = Z at *
  by_cases ho : p.x.val % 2 = 1
  · have hbq : ((p.x.val % 2 : Nat) : Int) == 1 := by rw [ho]; rfl
    have hbq' : (((p.x.val % 2 : Nat) : Int) == 1) = true := hbq
    have he : enc p = dig 256 32 (p.y.val + 2 ^ 255) := by rw [enc, encN, ho, Nat.one_mul]
    rw [he]
    generalize dig 256 32 (p.y.val + 2 ^ 255) = E at *
    generalize dig 256 32 p.y.val = Y at *
    generalize dig 256 32 p.x.val = X at *
    generalize p.x.val % 2 = par at *
    generalize p.x.val % 256 = x0 at *
    apply evVal_ex
    apply Exists.intro
    rw [evFun_fn (fn := a33) rfl]
    simp only [a33, ↓steps_chunk, envOf, evCode_skip, evCode_exit, evCode_seq, fs_blockS, fs_blockR, fs_blockC, fs_blockK, fs_blockB, evCode_ret, quiet, keep_nil, keep_cons, fs_cond, fs_region, fs_regionQ, quiet2_eq, lastOf_nil, lastOf_cons, List.take_succ_cons, List.take_zero, List.drop_succ_cons, List.drop_zero, Int.reduceBEq, Int.reduceBNe,  fs_nil, fs_guard, fs_move, fs_pick, fs_alloc, fs_box, fs_load, fs_store, fs_bin, fs_eqv, fs_isNil, fs_un, fs_conv, fs_convStr, fs_field, fs_index, fs_indexStr, fs_build, fs_buildSlice, fs_fieldAddr, fs_indexAddr, fs_indexSl, fs_sliceArr, fs_sliceSl, fs_sliceStr, fs_makeSlice, fs_extract, fs_mkIface, fs_mkFunc, fs_nilCheck, fs_s2ap, fs_len, fs_minmax, fs_s2b, fs_b2s, fs_append, fs_copy, fs_callW, fs_callR, fs_callv, opd_tmp, opd_const, opd_func, opds_nil, opds_cons, opdOpt_none, opdOpt_some, opdParts_nil, opdParts_cons, get_miss, vPick_t, vPick_f, vEq_agg, vEq_aggN, vEq_bool, vEq_boolN, vConv_int, vStr_s, vField_agg, vIndex_agg, vIndexStr_s, vFieldAddr_p, vIndexAddr_p, vIndexSl_s, vSliceArr_p, vSliceSl_s, vSliceSl_n, vSliceStr_s, vExtract_t, vNilCheck_p, vS2ap_s, vLen_s, vLen_str, vMin_i, vMax_i, vLoad_p, vStore_p, baseP_p, vB2s_s, vMake_i, vS2b_s, callee_f, liveAt_eq, storeAt_eq, partL_none, partL_some, natIn_none, natIn_int, bounds3_two, bin_add, bin_sub, bin_mul, bin_quo, bin_rem, bin_and, bin_or, bin_xor, bin_andNot, bin_eql, bin_neq, bin_lss, bin_leq, bin_gtr, bin_geq, bin_shl, bin_shr, bin_sadd, bin_seql, bin_sneq, un_not, un_neg, un_xor, after_some, put_some, put_none, res_nil, res_val, res_var, packed_one, packed_two, merge_nil, merge_ge, rf_tup2, rfIn_int, rfIn_bool, rfIn_u8s, rf_str, rfIn_str, ↓gate_true, gd_bool, gd_ut, gd_uf, ↓guardW_tt, ↓guardW_ff, ↓guardW_tf, ↓guardW_ft, ↓keepW_some, ↓qElseW_some, ↓get_hit, ↓Option.bind_some, ↓if_true, ↓if_false, List.nil_append, List.cons_append, List.all_nil, List.all_cons, List.isEmpty_nil, reduceCtorEq, Bool.false_eq_true, Nat.reduceEqDiff, beq_self_eq_true, bne_self_eq_false, Bool.not_true, Bool.not_false, Int.natCast_nonneg, Nat.lt_irrefl, false_and, Int.reduceEq, rf_int, rf_bool, rf_tuple_ints, rf_u8s, arr_list, toList2, Bool.and_self, Nat.not_lt_zero, Nat.sub_zero, Nat.zero_le, Nat.le_add_right, cells_agg, cells_agg_size, cells_int, cells_int_size, okV_int, okV_bool, okV_str, okV_agg, okV_ptr, okV_slice, okV_func, okV_nilFunc, okV_iface, okV_nilIface, cells_bool, cells_bool_size, cells_ptr, cells_ptr_size, cells_slice, cells_slice_size, cells_str, cells_str_size, eq_self, wrapI64_small, Int.natCast_zero, Int.natCast_one, Int.cast_ofNat_Int, List.length_nil, List.length_cons, List.getElem?_cons_zero, List.getElem?_cons_succ, List.set_cons_zero, List.set_cons_succ, Nat.zero_add, Nat.add_zero, Nat.mul_one, Nat.zero_mul, Int.toNat_natCast, Int.toNat_zero, Int.lt_irrefl, Int.le_refl, Nat.le_refl, and_self, true_and, and_true, decide_true, decide_false, Int.reduceLE, Int.reduceLT, Int.reduceAdd, Int.reduceMul, Int.reduceSub, Int.reduceTDiv, Int.reduceTMod, Int.reduceNeg, Int.reduceToNat, Int.reduceGT, Int.reduceGE, Int.reducePow, Nat.reduceAdd, Nat.reduceMul, Nat.reduceSub, Nat.reduceDiv, Nat.reduceMod, Nat.reducePow, Nat.reduceLT, Nat.reduceLeDiff, Nat.min_self, ge_iff_le, gt_iff_lt, Option.isNone_none, Option.isSome_none, Option.isNone_some, Option.isSome_some, Bool.and_true, Bool.true_and, Bool.and_false, Bool.false_and, not_true_eq_false, not_false_eq_true, or_true, true_or, false_or, or_false, hget0, hgetK, hset0, hsetK, splice_single, splice_whole, take_whole, List.getElem?_nil, List.length_append, List.append_assoc, hz, u0, u1, u2, vi, va, vb, k1, k2, h0c, e0, hbq', hwc, wadd, hset, List.length_replicate, take_all, eV_cells, eV_size, eV_ok, eV_fold, ns_len, u8s_len, lk, lj, li, lz, lE, L1, rf_eV]
    rfl
  · have hbq' : (((p.x.val % 2 : Nat) : Int) == 1) = false := by
      rw [show p.x.val % 2 = 0 by omega]; rfl
    have he : enc p = dig 256 32 p.y.val := by rw [enc, encN, show p.x.val % 2 = 0 by omega, Nat.zero_mul, Nat.add_zero]
    rw [he]
    generalize dig 256 32 p.y.val = Y at *
    generalize dig 256 32 p.x.val = X at *
    generalize p.x.val % 2 = par at *
    generalize p.x.val % 256 = x0 at *
    apply evVal_ex
    apply Exists.intro
    rw [evFun_fn (fn := a33) rfl]
    simp only [a33, ↓steps_chunk, envOf, evCode_skip, evCode_exit, evCode_seq, fs_blockS, fs_blockR, fs_blockC, fs_blockK, fs_blockB, evCode_ret, quiet, keep_nil, keep_cons, fs_cond, fs_region, fs_regionQ, quiet2_eq, lastOf_nil, lastOf_cons, List.take_succ_cons, List.take_zero, List.drop_succ_cons, List.drop_zero, Int.reduceBEq, Int.reduceBNe,  fs_nil, fs_guard, fs_move, fs_pick, fs_alloc, fs_box, fs_load, fs_store, fs_bin, fs_eqv, fs_isNil, fs_un, fs_conv, fs_convStr, fs_field, fs_index, fs_indexStr, fs_build, fs_buildSlice, fs_fieldAddr, fs_indexAddr, fs_indexSl, fs_sliceArr, fs_sliceSl, fs_sliceStr, fs_makeSlice, fs_extract, fs_mkIface, fs_mkFunc, fs_nilCheck, fs_s2ap, fs_len, fs_minmax, fs_s2b, fs_b2s, fs_append, fs_copy, fs_callW, fs_callR, fs_callv, opd_tmp, opd_const, opd_func, opds_nil, opds_cons, opdOpt_none, opdOpt_some, opdParts_nil, opdParts_cons, get_miss, vPick_t, vPick_f, vEq_agg, vEq_aggN, vEq_bool, vEq_boolN, vConv_int, vStr_s, vField_agg, vIndex_agg, vIndexStr_s, vFieldAddr_p, vIndexAddr_p, vIndexSl_s, vSliceArr_p, vSliceSl_s, vSliceSl_n, vSliceStr_s, vExtract_t, vNilCheck_p, vS2ap_s, vLen_s, vLen_str, vMin_i, vMax_i, vLoad_p, vStore_p, baseP_p, vB2s_s, vMake_i, vS2b_s, callee_f, liveAt_eq, storeAt_eq, partL_none, partL_some, natIn_none, natIn_int, bounds3_two, bin_add, bin_sub, bin_mul, bin_quo, bin_rem, bin_and, bin_or, bin_xor, bin_andNot, bin_eql, bin_neq, bin_lss, bin_leq, bin_gtr, bin_geq, bin_shl, bin_shr, bin_sadd, bin_seql, bin_sneq, un_not, un_neg, un_xor, after_some, put_some, put_none, res_nil, res_val, res_var, packed_one, packed_two, merge_nil, merge_ge, rf_tup2, rfIn_int, rfIn_bool, rfIn_u8s, rf_str, rfIn_str, ↓gate_true, gd_bool, gd_ut, gd_uf, ↓guardW_tt, ↓guardW_ff, ↓guardW_tf, ↓guardW_ft, ↓keepW_some, ↓qElseW_some, ↓get_hit, ↓Option.bind_some, ↓if_true, ↓if_false, List.nil_append, List.cons_append, List.all_nil, List.all_cons, List.isEmpty_nil, reduceCtorEq, Bool.false_eq_true, Nat.reduceEqDiff, beq_self_eq_true, bne_self_eq_false, Bool.not_true, Bool.not_false, Int.natCast_nonneg, Nat.lt_irrefl, false_and, Int.reduceEq, rf_int, rf_bool, rf_tuple_ints, rf_u8s, arr_list, toList2, Bool.and_self, Nat.not_lt_zero, Nat.sub_zero, Nat.zero_le, Nat.le_add_right, cells_agg, cells_agg_size, cells_int, cells_int_size, okV_int, okV_bool, okV_str, okV_agg, okV_ptr, okV_slice, okV_func, okV_nilFunc, okV_iface, okV_nilIface, cells_bool, cells_bool_size, cells_ptr, cells_ptr_size, cells_slice, cells_slice_size, cells_str, cells_str_size, eq_self, wrapI64_small, Int.natCast_zero, Int.natCast_one, Int.cast_ofNat_Int, List.length_nil, List.length_cons, List.getElem?_cons_zero, List.getElem?_cons_succ, List.set_cons_zero, List.set_cons_succ, Nat.zero_add, Nat.add_zero, Nat.mul_one, Nat.zero_mul, Int.toNat_natCast, Int.toNat_zero, Int.lt_irrefl, Int.le_refl, Nat.le_refl, and_self, true_and, and_true, decide_true, decide_false, Int.reduceLE, Int.reduceLT, Int.reduceAdd, Int.reduceMul, Int.reduceSub, Int.reduceTDiv, Int.reduceTMod, Int.reduceNeg, Int.reduceToNat, Int.reduceGT, Int.reduceGE, Int.reducePow, Nat.reduceAdd, Nat.reduceMul, Nat.reduceSub, Nat.reduceDiv, Nat.reduceMod, Nat.reducePow, Nat.reduceLT, Nat.reduceLeDiff, Nat.min_self, ge_iff_le, gt_iff_lt, Option.isNone_none, Option.isSome_none, Option.isNone_some, Option.isSome_some, Bool.and_true, Bool.true_and, Bool.and_false, Bool.false_and, not_true_eq_false, not_false_eq_true, or_true, true_or, false_or, or_false, hget0, hgetK, hset0, hsetK, splice_single, splice_whole, take_whole, List.getElem?_nil, List.length_append, List.append_assoc, hz, u0, u1, u2, vi, va, vb, k1, k2, h0c, e0, hbq', List.length_replicate, take_all, eV_cells, eV_size, eV_ok, eV_fold, ns_len, u8s_len, lk, lj, li, lz, L1, rf_eV]
    rfl
end Go.Ev.Ytaceeoghjgggjaa

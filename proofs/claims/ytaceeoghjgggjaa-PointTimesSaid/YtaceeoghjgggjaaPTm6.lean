/- What the law leans on, part 6. -/
import Derived.Test.YtaceeoghjgggjaaPTm5
set_option linter.unusedSimpArgs false
set_option linter.unusedVariables false
set_option linter.unusedSimpArgs false
set_option linter.unusedVariables false
namespace Go.Ev.Ytaceeoghjgggjaa
open Go Go.Ev
attribute [local congr] bind_congr2 ite_congr2 qElse_congr gate_congr guardV_congr
set_option maxRecDepth 100000
def hmI (n : List Nat) (i : Int) (c : Nat) (j : Int) (ex : Env) : St := ⟨[(0, .pointer (some ⟨0, 0, none⟩)), (1, .pointer (some ⟨1, 0, none⟩)), (2, .int .i64 i), (3, .int .u64 c), (4, .int .i64 j)] ++ ex, [⟨ns .u64 zero16, true, true, true, 1⟩, ⟨ns .u64 n, true, true, true, 1⟩], []⟩
theorem hm_block {n : List Nat} {i : Int} (hn : Nm n) :
    evCode T 0 (.block 2 (.loop a89_l0)) (hmI n i 0 15 []) = some (.normal, hmI (dig 65536 16 (num 65536 n / 2)) i (num 65536 n % 2) (-1) [(16, .bool false)]) := by
  have hD : Nm (dig 65536 16 (num 65536 n / 2)) := Nm.dig _
  obtain ⟨D, hDd⟩ : ∃ D, D = dig 65536 16 (num 65536 n / 2) := ⟨_, rfl⟩
  rw [← hDd] at hD ⊢
  have hlt := hn.num_lt
  obtain ⟨st, hb, rfl⟩ := block_inv (T := T) (base := 0) (id := 2) (body := a89_l0)
    (fun j st => st = hmI (n.take (16 - j) ++ D.drop (16 - j)) i (num 65536 n / 65536 ^ (16 - j) % 2) ((15 : Int) - j) [])
    (Q := fun st => st = hmI D i (num 65536 n % 2) (-1) [(16, .bool false)])
    16 (s := hmI n i 0 15 []) (by
      rw [Nat.sub_zero, List.take_of_length_le (by rw [hn.len]; omega), List.drop_of_length_le (by rw [hD.len]; omega), List.append_nil, Nat.div_eq_of_lt hlt]; rfl)
    (fun j st hj hs => by
      subst hs
      obtain ⟨m, hm⟩ : ∃ m, 16 - j = m + 1 := ⟨15 - j, by omega⟩
      rw [hm, show (15 : Int) - j = (m : Int) by omega, show 16 - (j + 1) = m by omega, show (15 : Int) - ((j + 1 : Nat) : Int) = (m : Int) - 1 by omega]
      refine ⟨_, ?_, rfl⟩
      obtain ⟨x, hx⟩ : ∃ x, n[m]? = some x := ⟨_, List.getElem?_eq_getElem (by rw [hn.len]; omega)⟩
      have hx' := hn.lt x (List.mem_of_getElem? hx)
      have hxv := num_get (B := 65536) (by decide) hn.lt hx
      obtain ⟨c, hc⟩ : ∃ c, c = num 65536 n / 65536 ^ (m + 1) % 2 := ⟨_, rfl⟩
      rw [← hc]
      have hc2 : num 65536 n / 65536 ^ m / 65536 % 2 = c := by rw [hc, Nat.pow_succ, Nat.div_div_eq_div_mul]
      have hxl : (n.take (m + 1) ++ D.drop (m + 1))[m]? = some x := by
        rw [List.getElem?_append_left (by rw [List.length_take, hn.len]; omega), List.getElem?_take, if_pos (by omega)]; exact hx
      have hdg : D[m]? = some ((x + c * 65536) / 2) := by
        rw [hDd, dig_get (by omega)]
        congr 1
        rw [Nat.div_div_eq_div_mul, Nat.mul_comm 2, ← Nat.div_div_eq_div_mul]
        generalize num 65536 n / 65536 ^ m = q at *
        omega
      have hcn : num 65536 n / 65536 ^ m % 2 = (x + c * 65536) % 2 := by
        generalize num 65536 n / 65536 ^ m = q at *
        omega
      rw [hcn]
      have hstep : (n.take (m + 1) ++ D.drop (m + 1)).set m ((x + c * 65536) / 2) = n.take m ++ D.drop m := by
        rw [List.set_append_left _ _ (by rw [List.length_take, hn.len]; omega), List.take_add_one, hx]
        rw [List.set_append_right _ _ (by rw [List.length_take]; omega)]
        have e : (n.take m).length = m := by rw [List.length_take, hn.len]; omega
        rw [e, Nat.sub_self, List.drop_eq_getElem?_toList_append (i := m), hdg]
        simp
      have hset := ns_set .u64 (n.take (m + 1) ++ D.drop (m + 1)) m ((x + c * 65536) / 2)
      rw [hstep] at hset
      have hlen : (n.take (m + 1) ++ D.drop (m + 1)).length = 16 := by rw [List.length_append, List.length_take, List.length_drop, hn.len, hD.len]; omega
      have hxc := ns_get (k := .u64) hxl
      have hcb : c < 2 := by rw [hc]; exact Nat.mod_lt _ (by decide)
      have w1 : IntKind.i64.wrap ((m : Int) - 1) = (m : Int) - 1 := wrapI64_small (by omega) (by omega)
      have w2 : IntKind.u64.wrap ((c : Int) * 65536) = ((c * 65536 : Nat) : Int) := w64_mul (b := 65536) (by omega)
      have w3 : IntKind.u64.wrap ((x : Int) + ((c * 65536 : Nat) : Int)) = ((x + c * 65536 : Nat) : Int) := w64_add (by omega)
      have w4 : IntKind.u64.wrap (((x + c * 65536 : Nat) : Int).tdiv 2) = (((x + c * 65536) / 2 : Nat) : Int) := w64n (n := (x + c * 65536) / 2) (by omega)
      have w5 : ((x + c * 65536 : Nat) : Int).tmod 2 = (((x + c * 65536) % 2 : Nat) : Int) := rfl
      have e1 : ((0 : Int) ≤ (m : Int)) = True := eq_true (by omega)
      have e2 : ((m : Int) < 16) = True := eq_true (by omega)
      have e4 : (m ≤ 15) = True := eq_true (by omega)
      clear hc hc2 hcn hdg hstep
      generalize n.take (m + 1) ++ D.drop (m + 1) = A1 at *
      generalize n.take m ++ D.drop m = A2 at *
      generalize (x + c * 65536) / 2 = u at *
      generalize (x + c * 65536) % 2 = u2 at *
      generalize x + c * 65536 = v at *
      generalize c * 65536 = v2 at *
      simp only [hmI, a89_l0, envOf, evCode_skip, evCode_exit, evCode_seq, fs_blockS, fs_blockR, fs_blockC, fs_blockK, fs_blockB, evCode_ret, quiet, keep_nil, keep_cons, fs_cond, fs_region, fs_regionQ, quiet2_eq, lastOf_nil, lastOf_cons, List.take_succ_cons, List.take_zero, List.drop_succ_cons, List.drop_zero, Int.reduceBEq, Int.reduceBNe,  fs_nil, fs_guard, fs_move, fs_pick, fs_alloc, fs_box, fs_load, fs_store, fs_bin, fs_eqv, fs_isNil, fs_un, fs_conv, fs_convStr, fs_field, fs_index, fs_indexStr, fs_build, fs_buildSlice, fs_fieldAddr, fs_indexAddr, fs_indexSl, fs_sliceArr, fs_sliceSl, fs_sliceStr, fs_makeSlice, fs_extract, fs_mkIface, fs_mkFunc, fs_nilCheck, fs_s2ap, fs_len, fs_minmax, fs_s2b, fs_b2s, fs_append, fs_copy, fs_callW, fs_callR, fs_callv, opd_tmp, opd_const, opd_func, opds_nil, opds_cons, opdOpt_none, opdOpt_some, opdParts_nil, opdParts_cons, get_miss, vPick_t, vPick_f, vEq_agg, vEq_aggN, vEq_bool, vEq_boolN, vConv_int, vStr_s, vField_agg, vIndex_agg, vIndexStr_s, vFieldAddr_p, vIndexAddr_p, vIndexSl_s, vSliceArr_p, vSliceSl_s, vSliceSl_n, vSliceStr_s, vExtract_t, vNilCheck_p, vS2ap_s, vLen_s, vLen_str, vMin_i, vMax_i, vLoad_p, vStore_p, baseP_p, vB2s_s, vMake_i, vS2b_s, callee_f, liveAt_eq, storeAt_eq, partL_none, partL_some, natIn_none, natIn_int, bounds3_two, bin_add, bin_sub, bin_mul, bin_quo, bin_rem, bin_and, bin_or, bin_xor, bin_andNot, bin_eql, bin_neq, bin_lss, bin_leq, bin_gtr, bin_geq, bin_shl, bin_shr, bin_sadd, bin_seql, bin_sneq, un_not, un_neg, un_xor, after_some, put_some, put_none, res_nil, res_val, res_var, packed_one, packed_two, merge_nil, merge_ge, rf_tup2, rfIn_int, rfIn_bool, rfIn_u8s, rf_str, rfIn_str, ↓gate_true, gd_bool, gd_ut, gd_uf, ↓guardV_tt, ↓guardV_ff, ↓guardV_tf, ↓guardV_ft, ↓keepV_some, ↓qElse_some, ↓get_hit, ↓Option.bind_some, ↓if_true, ↓if_false, List.nil_append, List.cons_append, List.all_nil, List.all_cons, List.isEmpty_nil, reduceCtorEq, Bool.false_eq_true, Nat.reduceEqDiff, beq_self_eq_true, bne_self_eq_false, Bool.not_true, Bool.not_false, Int.natCast_nonneg, Nat.lt_irrefl, false_and, Int.reduceEq, rf_int, rf_bool, rf_tuple_ints, rf_u8s, arr_list, toList2, Bool.and_self, Nat.not_lt_zero, Nat.sub_zero, Nat.zero_le, Nat.le_add_right, cells_agg, cells_agg_size, cells_int, cells_int_size, okV_int, okV_bool, okV_str, okV_agg, okV_ptr, okV_slice, okV_func, okV_nilFunc, okV_iface, okV_nilIface, cells_bool, cells_bool_size, cells_ptr, cells_ptr_size, cells_slice, cells_slice_size, cells_str, cells_str_size, eq_self, wrapI64_small, Int.natCast_zero, Int.natCast_one, Int.cast_ofNat_Int, List.length_nil, List.length_cons, List.getElem?_cons_zero, List.getElem?_cons_succ, List.set_cons_zero, List.set_cons_succ, Nat.zero_add, Nat.add_zero, Nat.mul_one, Nat.zero_mul, Int.toNat_natCast, Int.toNat_zero, Int.lt_irrefl, Int.le_refl, Nat.le_refl, and_self, true_and, and_true, decide_true, decide_false, Int.reduceLE, Int.reduceLT, Int.reduceAdd, Int.reduceMul, Int.reduceSub, Int.reduceTDiv, Int.reduceTMod, Int.reduceNeg, Int.reduceToNat, Int.reduceGT, Int.reduceGE, Int.reducePow, Nat.reduceAdd, Nat.reduceMul, Nat.reduceSub, Nat.reduceDiv, Nat.reduceMod, Nat.reducePow, Nat.reduceLT, Nat.reduceLeDiff, Nat.min_self, ge_iff_le, gt_iff_lt, Option.isNone_none, Option.isSome_none, Option.isNone_some, Option.isSome_some, Bool.and_true, Bool.true_and, Bool.and_false, Bool.false_and, not_true_eq_false, not_false_eq_true, or_true, true_or, false_or, or_false, hget0, hgetK, hset0, hsetK, splice_single, splice_whole, take_whole, List.getElem?_nil, List.length_append, List.append_assoc, hxc, w1, w2, w3, w4, w5, e1, e2, e4, hset, ns_len, hlen])
    (fun st hs => by
      subst hs
      have e : ((0 : Int) ≤ -1) = False := by decide
      refine ⟨_, ?_, rfl⟩
      rw [show (15 : Int) - ((16 : Nat) : Int) = -1 by omega, Nat.sub_self, List.take_zero, List.drop_zero, List.nil_append, Nat.pow_zero, Nat.div_one]
      simp only [hmI, a89_l0, envOf, evCode_skip, evCode_exit, evCode_seq, fs_blockS, fs_blockR, fs_blockC, fs_blockK, fs_blockB, evCode_ret, quiet, keep_nil, keep_cons, fs_cond, fs_region, fs_regionQ, quiet2_eq, lastOf_nil, lastOf_cons, List.take_succ_cons, List.take_zero, List.drop_succ_cons, List.drop_zero, Int.reduceBEq, Int.reduceBNe,  fs_nil, fs_guard, fs_move, fs_pick, fs_alloc, fs_box, fs_load, fs_store, fs_bin, fs_eqv, fs_isNil, fs_un, fs_conv, fs_convStr, fs_field, fs_index, fs_indexStr, fs_build, fs_buildSlice, fs_fieldAddr, fs_indexAddr, fs_indexSl, fs_sliceArr, fs_sliceSl, fs_sliceStr, fs_makeSlice, fs_extract, fs_mkIface, fs_mkFunc, fs_nilCheck, fs_s2ap, fs_len, fs_minmax, fs_s2b, fs_b2s, fs_append, fs_copy, fs_callW, fs_callR, fs_callv, opd_tmp, opd_const, opd_func, opds_nil, opds_cons, opdOpt_none, opdOpt_some, opdParts_nil, opdParts_cons, get_miss, vPick_t, vPick_f, vEq_agg, vEq_aggN, vEq_bool, vEq_boolN, vConv_int, vStr_s, vField_agg, vIndex_agg, vIndexStr_s, vFieldAddr_p, vIndexAddr_p, vIndexSl_s, vSliceArr_p, vSliceSl_s, vSliceSl_n, vSliceStr_s, vExtract_t, vNilCheck_p, vS2ap_s, vLen_s, vLen_str, vMin_i, vMax_i, vLoad_p, vStore_p, baseP_p, vB2s_s, vMake_i, vS2b_s, callee_f, liveAt_eq, storeAt_eq, partL_none, partL_some, natIn_none, natIn_int, bounds3_two, bin_add, bin_sub, bin_mul, bin_quo, bin_rem, bin_and, bin_or, bin_xor, bin_andNot, bin_eql, bin_neq, bin_lss, bin_leq, bin_gtr, bin_geq, bin_shl, bin_shr, bin_sadd, bin_seql, bin_sneq, un_not, un_neg, un_xor, after_some, put_some, put_none, res_nil, res_val, res_var, packed_one, packed_two, merge_nil, merge_ge, rf_tup2, rfIn_int, rfIn_bool, rfIn_u8s, rf_str, rfIn_str, ↓gate_true, gd_bool, gd_ut, gd_uf, ↓guardV_tt, ↓guardV_ff, ↓guardV_tf, ↓guardV_ft, ↓keepV_some, ↓qElse_some, ↓get_hit, ↓Option.bind_some, ↓if_true, ↓if_false, List.nil_append, List.cons_append, List.all_nil, List.all_cons, List.isEmpty_nil, reduceCtorEq, Bool.false_eq_true, Nat.reduceEqDiff, beq_self_eq_true, bne_self_eq_false, Bool.not_true, Bool.not_false, Int.natCast_nonneg, Nat.lt_irrefl, false_and, Int.reduceEq, rf_int, rf_bool, rf_tuple_ints, rf_u8s, arr_list, toList2, Bool.and_self, Nat.not_lt_zero, Nat.sub_zero, Nat.zero_le, Nat.le_add_right, cells_agg, cells_agg_size, cells_int, cells_int_size, okV_int, okV_bool, okV_str, okV_agg, okV_ptr, okV_slice, okV_func, okV_nilFunc, okV_iface, okV_nilIface, cells_bool, cells_bool_size, cells_ptr, cells_ptr_size, cells_slice, cells_slice_size, cells_str, cells_str_size, eq_self, wrapI64_small, Int.natCast_zero, Int.natCast_one, Int.cast_ofNat_Int, List.length_nil, List.length_cons, List.getElem?_cons_zero, List.getElem?_cons_succ, List.set_cons_zero, List.set_cons_succ, Nat.zero_add, Nat.add_zero, Nat.mul_one, Nat.zero_mul, Int.toNat_natCast, Int.toNat_zero, Int.lt_irrefl, Int.le_refl, Nat.le_refl, and_self, true_and, and_true, decide_true, decide_false, Int.reduceLE, Int.reduceLT, Int.reduceAdd, Int.reduceMul, Int.reduceSub, Int.reduceTDiv, Int.reduceTMod, Int.reduceNeg, Int.reduceToNat, Int.reduceGT, Int.reduceGE, Int.reducePow, Nat.reduceAdd, Nat.reduceMul, Nat.reduceSub, Nat.reduceDiv, Nat.reduceMod, Nat.reducePow, Nat.reduceLT, Nat.reduceLeDiff, Nat.min_self, ge_iff_le, gt_iff_lt, Option.isNone_none, Option.isSome_none, Option.isNone_some, Option.isSome_some, Bool.and_true, Bool.true_and, Bool.and_false, Bool.false_and, not_true_eq_false, not_false_eq_true, or_true, true_or, false_or, or_false, e])
  exact hb
def hmO (n : List Nat) (i : Int) (ex : Env) : St := ⟨[(0, .pointer (some ⟨0, 0, none⟩)), (1, .pointer (some ⟨1, 0, none⟩)), (2, .int .i64 i)] ++ ex, [⟨ns .u64 zero16, true, true, true, 1⟩, ⟨ns .u64 n, true, true, true, 1⟩], []⟩
theorem hm_outer {n : List Nat} (hn : Nm n) :
    evCode T 0 (.block 0 (.loop a89_l1)) (hmO n 0 []) = some (.normal, hmO (dig 65536 16 (num 65536 n / 2 ^ 2)) 2 [(12, .bool false)]) := by
  obtain ⟨st, hb, rfl⟩ := block_inv (T := T) (base := 0) (id := 0) (body := a89_l1)
    (fun i st => ∃ ex, st = hmO (dig 65536 16 (num 65536 n / 2 ^ i)) i ex)
    (Q := fun st => st = hmO (dig 65536 16 (num 65536 n / 2 ^ 2)) 2 [(12, .bool false)])
    2 (s := hmO n 0 []) ⟨[], by rw [Nat.pow_zero, Nat.div_one, ← hn.eq]; rfl⟩
    (fun i st hi hs => by
      obtain ⟨ex, rfl⟩ := hs
      have hN := Nm.dig (num 65536 n / 2 ^ i)
      have hlt : num 65536 n / 2 ^ i < 2 ^ 256 := Nat.lt_of_le_of_lt (Nat.div_le_self _ _) hn.num_lt
      have hb := hm_block (i := (i : Int)) hN
      rw [nm_dig hlt, Nat.div_div_eq_div_mul, ← Nat.pow_succ] at hb
      simp only [hmI, List.cons_append, List.nil_append, Int.natCast_zero] at hb
      have w1 : IntKind.i64.wrap ((i : Int) + 1) = ((i + 1 : Nat) : Int) := wi_add (b := 1) (by omega)
      have e1 : ((i : Int) < 2) = True := eq_true (by omega)
      refine ⟨_, ?_, [], rfl⟩
      generalize dig 65536 16 (num 65536 n / 2 ^ i) = A at *
      generalize dig 65536 16 (num 65536 n / 2 ^ (i + 1)) = A' at *
      simp only [hmO, a89_l1, envOf, evCode_skip, evCode_exit, evCode_seq, fs_blockS, fs_blockR, fs_blockC, fs_blockK, fs_blockB, evCode_ret, quiet, keep_nil, keep_cons, fs_cond, fs_region, fs_regionQ, quiet2_eq, lastOf_nil, lastOf_cons, List.take_succ_cons, List.take_zero, List.drop_succ_cons, List.drop_zero, Int.reduceBEq, Int.reduceBNe,  fs_nil, fs_guard, fs_move, fs_pick, fs_alloc, fs_box, fs_load, fs_store, fs_bin, fs_eqv, fs_isNil, fs_un, fs_conv, fs_convStr, fs_field, fs_index, fs_indexStr, fs_build, fs_buildSlice, fs_fieldAddr, fs_indexAddr, fs_indexSl, fs_sliceArr, fs_sliceSl, fs_sliceStr, fs_makeSlice, fs_extract, fs_mkIface, fs_mkFunc, fs_nilCheck, fs_s2ap, fs_len, fs_minmax, fs_s2b, fs_b2s, fs_append, fs_copy, fs_callW, fs_callR, fs_callv, opd_tmp, opd_const, opd_func, opds_nil, opds_cons, opdOpt_none, opdOpt_some, opdParts_nil, opdParts_cons, get_miss, vPick_t, vPick_f, vEq_agg, vEq_aggN, vEq_bool, vEq_boolN, vConv_int, vStr_s, vField_agg, vIndex_agg, vIndexStr_s, vFieldAddr_p, vIndexAddr_p, vIndexSl_s, vSliceArr_p, vSliceSl_s, vSliceSl_n, vSliceStr_s, vExtract_t, vNilCheck_p, vS2ap_s, vLen_s, vLen_str, vMin_i, vMax_i, vLoad_p, vStore_p, baseP_p, vB2s_s, vMake_i, vS2b_s, callee_f, liveAt_eq, storeAt_eq, partL_none, partL_some, natIn_none, natIn_int, bounds3_two, bin_add, bin_sub, bin_mul, bin_quo, bin_rem, bin_and, bin_or, bin_xor, bin_andNot, bin_eql, bin_neq, bin_lss, bin_leq, bin_gtr, bin_geq, bin_shl, bin_shr, bin_sadd, bin_seql, bin_sneq, un_not, un_neg, un_xor, after_some, put_some, put_none, res_nil, res_val, res_var, packed_one, packed_two, merge_nil, merge_ge, rf_tup2, rfIn_int, rfIn_bool, rfIn_u8s, rf_str, rfIn_str, ↓gate_true, gd_bool, gd_ut, gd_uf, ↓guardV_tt, ↓guardV_ff, ↓guardV_tf, ↓guardV_ft, ↓keepV_some, ↓qElse_some, ↓get_hit, ↓Option.bind_some, ↓if_true, ↓if_false, List.nil_append, List.cons_append, List.all_nil, List.all_cons, List.isEmpty_nil, reduceCtorEq, Bool.false_eq_true, Nat.reduceEqDiff, beq_self_eq_true, bne_self_eq_false, Bool.not_true, Bool.not_false, Int.natCast_nonneg, Nat.lt_irrefl, false_and, Int.reduceEq, rf_int, rf_bool, rf_tuple_ints, rf_u8s, arr_list, toList2, Bool.and_self, Nat.not_lt_zero, Nat.sub_zero, Nat.zero_le, Nat.le_add_right, cells_agg, cells_agg_size, cells_int, cells_int_size, okV_int, okV_bool, okV_str, okV_agg, okV_ptr, okV_slice, okV_func, okV_nilFunc, okV_iface, okV_nilIface, cells_bool, cells_bool_size, cells_ptr, cells_ptr_size, cells_slice, cells_slice_size, cells_str, cells_str_size, eq_self, wrapI64_small, Int.natCast_zero, Int.natCast_one, Int.cast_ofNat_Int, List.length_nil, List.length_cons, List.getElem?_cons_zero, List.getElem?_cons_succ, List.set_cons_zero, List.set_cons_succ, Nat.zero_add, Nat.add_zero, Nat.mul_one, Nat.zero_mul, Int.toNat_natCast, Int.toNat_zero, Int.lt_irrefl, Int.le_refl, Nat.le_refl, and_self, true_and, and_true, decide_true, decide_false, Int.reduceLE, Int.reduceLT, Int.reduceAdd, Int.reduceMul, Int.reduceSub, Int.reduceTDiv, Int.reduceTMod, Int.reduceNeg, Int.reduceToNat, Int.reduceGT, Int.reduceGE, Int.reducePow, Nat.reduceAdd, Nat.reduceMul, Nat.reduceSub, Nat.reduceDiv, Nat.reduceMod, Nat.reducePow, Nat.reduceLT, Nat.reduceLeDiff, Nat.min_self, ge_iff_le, gt_iff_lt, Option.isNone_none, Option.isSome_none, Option.isNone_some, Option.isSome_some, Bool.and_true, Bool.true_and, Bool.and_false, Bool.false_and, not_true_eq_false, not_false_eq_true, or_true, true_or, false_or, or_false, hget0, hgetK, hset0, hsetK, splice_single, splice_whole, take_whole, List.getElem?_nil, List.length_append, List.append_assoc, hb, w1, e1])
    (fun st hs => by
      obtain ⟨ex, rfl⟩ := hs
      refine ⟨_, ?_, rfl⟩
      generalize dig 65536 16 (num 65536 n / 2 ^ 2) = A at *
      simp only [hmO, a89_l1, envOf, evCode_skip, evCode_exit, evCode_seq, fs_blockS, fs_blockR, fs_blockC, fs_blockK, fs_blockB, evCode_ret, quiet, keep_nil, keep_cons, fs_cond, fs_region, fs_regionQ, quiet2_eq, lastOf_nil, lastOf_cons, List.take_succ_cons, List.take_zero, List.drop_succ_cons, List.drop_zero, Int.reduceBEq, Int.reduceBNe,  fs_nil, fs_guard, fs_move, fs_pick, fs_alloc, fs_box, fs_load, fs_store, fs_bin, fs_eqv, fs_isNil, fs_un, fs_conv, fs_convStr, fs_field, fs_index, fs_indexStr, fs_build, fs_buildSlice, fs_fieldAddr, fs_indexAddr, fs_indexSl, fs_sliceArr, fs_sliceSl, fs_sliceStr, fs_makeSlice, fs_extract, fs_mkIface, fs_mkFunc, fs_nilCheck, fs_s2ap, fs_len, fs_minmax, fs_s2b, fs_b2s, fs_append, fs_copy, fs_callW, fs_callR, fs_callv, opd_tmp, opd_const, opd_func, opds_nil, opds_cons, opdOpt_none, opdOpt_some, opdParts_nil, opdParts_cons, get_miss, vPick_t, vPick_f, vEq_agg, vEq_aggN, vEq_bool, vEq_boolN, vConv_int, vStr_s, vField_agg, vIndex_agg, vIndexStr_s, vFieldAddr_p, vIndexAddr_p, vIndexSl_s, vSliceArr_p, vSliceSl_s, vSliceSl_n, vSliceStr_s, vExtract_t, vNilCheck_p, vS2ap_s, vLen_s, vLen_str, vMin_i, vMax_i, vLoad_p, vStore_p, baseP_p, vB2s_s, vMake_i, vS2b_s, callee_f, liveAt_eq, storeAt_eq, partL_none, partL_some, natIn_none, natIn_int, bounds3_two, bin_add, bin_sub, bin_mul, bin_quo, bin_rem, bin_and, bin_or, bin_xor, bin_andNot, bin_eql, bin_neq, bin_lss, bin_leq, bin_gtr, bin_geq, bin_shl, bin_shr, bin_sadd, bin_seql, bin_sneq, un_not, un_neg, un_xor, after_some, put_some, put_none, res_nil, res_val, res_var, packed_one, packed_two, merge_nil, merge_ge, rf_tup2, rfIn_int, rfIn_bool, rfIn_u8s, rf_str, rfIn_str, ↓gate_true, gd_bool, gd_ut, gd_uf, ↓guardV_tt, ↓guardV_ff, ↓guardV_tf, ↓guardV_ft, ↓keepV_some, ↓qElse_some, ↓get_hit, ↓Option.bind_some, ↓if_true, ↓if_false, List.nil_append, List.cons_append, List.all_nil, List.all_cons, List.isEmpty_nil, reduceCtorEq, Bool.false_eq_true, Nat.reduceEqDiff, beq_self_eq_true, bne_self_eq_false, Bool.not_true, Bool.not_false, Int.natCast_nonneg, Nat.lt_irrefl, false_and, Int.reduceEq, rf_int, rf_bool, rf_tuple_ints, rf_u8s, arr_list, toList2, Bool.and_self, Nat.not_lt_zero, Nat.sub_zero, Nat.zero_le, Nat.le_add_right, cells_agg, cells_agg_size, cells_int, cells_int_size, okV_int, okV_bool, okV_str, okV_agg, okV_ptr, okV_slice, okV_func, okV_nilFunc, okV_iface, okV_nilIface, cells_bool, cells_bool_size, cells_ptr, cells_ptr_size, cells_slice, cells_slice_size, cells_str, cells_str_size, eq_self, wrapI64_small, Int.natCast_zero, Int.natCast_one, Int.cast_ofNat_Int, List.length_nil, List.length_cons, List.getElem?_cons_zero, List.getElem?_cons_succ, List.set_cons_zero, List.set_cons_succ, Nat.zero_add, Nat.add_zero, Nat.mul_one, Nat.zero_mul, Int.toNat_natCast, Int.toNat_zero, Int.lt_irrefl, Int.le_refl, Nat.le_refl, and_self, true_and, and_true, decide_true, decide_false, Int.reduceLE, Int.reduceLT, Int.reduceAdd, Int.reduceMul, Int.reduceSub, Int.reduceTDiv, Int.reduceTMod, Int.reduceNeg, Int.reduceToNat, Int.reduceGT, Int.reduceGE, Int.reducePow, Nat.reduceAdd, Nat.reduceMul, Nat.reduceSub, Nat.reduceDiv, Nat.reduceMod, Nat.reducePow, Nat.reduceLT, Nat.reduceLeDiff, Nat.min_self, ge_iff_le, gt_iff_lt, Option.isNone_none, Option.isSome_none, Option.isNone_some, Option.isSome_some, Bool.and_true, Bool.true_and, Bool.and_false, Bool.false_and, not_true_eq_false, not_false_eq_true, or_true, true_or, false_or, or_false, hget0, hgetK, hset0, hsetK, splice_single, splice_whole, take_whole, List.getElem?_nil, List.length_append, List.append_assoc])
  exact hb
def hrI (a n : List Nat) (i : Int) (c : Nat) (j : Int) (ex : Env) : St := ⟨[(1, .pointer (some ⟨0, 0, none⟩)), (2, .pointer (some ⟨1, 0, none⟩)), (4, .pointer (some ⟨2, 0, none⟩)), (5, .int .i64 i), (6, .int .u64 c), (7, .int .i64 j)] ++ ex, [⟨ns .u64 a, true, true, true, 1⟩, ⟨ns .u64 zero16, true, true, true, 1⟩, ⟨ns .u64 n, true, true, true, 1⟩], []⟩
theorem hr_block {a n : List Nat} {i : Int} (hn : Nm n) :
    evCode T 0 (.block 2 (.loop a68_l0)) (hrI a n i 0 15 []) = some (.normal, hrI a (dig 65536 16 (num 65536 n / 2)) i (num 65536 n % 2) (-1) [(20, .bool false)]) := by
  have hD : Nm (dig 65536 16 (num 65536 n / 2)) := Nm.dig _
  obtain ⟨D, hDd⟩ : ∃ D, D = dig 65536 16 (num 65536 n / 2) := ⟨_, rfl⟩
  rw [← hDd] at hD ⊢
  have hlt := hn.num_lt
  obtain ⟨st, hb, rfl⟩ := block_inv (T := T) (base := 0) (id := 2) (body := a68_l0)
    (fun j st => st = hrI a (n.take (16 - j) ++ D.drop (16 - j)) i (num 65536 n / 65536 ^ (16 - j) % 2) ((15 : Int) - j) [])
    (Q := fun st => st = hrI a D i (num 65536 n % 2) (-1) [(20, .bool false)])
    16 (s := hrI a n i 0 15 []) (by
      rw [Nat.sub_zero, List.take_of_length_le (by rw [hn.len]; omega), List.drop_of_length_le (by rw [hD.len]; omega), List.append_nil, Nat.div_eq_of_lt hlt]; rfl)
    (fun j st hj hs => by
      subst hs
      obtain ⟨m, hm⟩ : ∃ m, 16 - j = m + 1 := ⟨15 - j, by omega⟩
      rw [hm, show (15 : Int) - j = (m : Int) by omega, show 16 - (j + 1) = m by omega, show (15 : Int) - ((j + 1 : Nat) : Int) = (m : Int) - 1 by omega]
      refine ⟨_, ?_, rfl⟩
      obtain ⟨x, hx⟩ : ∃ x, n[m]? = some x := ⟨_, List.getElem?_eq_getElem (by rw [hn.len]; omega)⟩
      have hx' := hn.lt x (List.mem_of_getElem? hx)
      have hxv := num_get (B := 65536) (by decide) hn.lt hx
      obtain ⟨c, hc⟩ : ∃ c, c = num 65536 n / 65536 ^ (m + 1) % 2 := ⟨_, rfl⟩
      rw [← hc]
      have hc2 : num 65536 n / 65536 ^ m / 65536 % 2 = c := by rw [hc, Nat.pow_succ, Nat.div_div_eq_div_mul]
      have hxl : (n.take (m + 1) ++ D.drop (m + 1))[m]? = some x := by
        rw [List.getElem?_append_left (by rw [List.length_take, hn.len]; omega), List.getElem?_take, if_pos (by omega)]; exact hx
      have hdg : D[m]? = some ((x + c * 65536) / 2) := by
        rw [hDd, dig_get (by omega)]
        congr 1
        rw [Nat.div_div_eq_div_mul, Nat.mul_comm 2, ← Nat.div_div_eq_div_mul]
        generalize num 65536 n / 65536 ^ m = q at *
        omega
      have hcn : num 65536 n / 65536 ^ m % 2 = (x + c * 65536) % 2 := by
        generalize num 65536 n / 65536 ^ m = q at *
        omega
      rw [hcn]
      have hstep : (n.take (m + 1) ++ D.drop (m + 1)).set m ((x + c * 65536) / 2) = n.take m ++ D.drop m := by
        rw [List.set_append_left _ _ (by rw [List.length_take, hn.len]; omega), List.take_add_one, hx]
        rw [List.set_append_right _ _ (by rw [List.length_take]; omega)]
        have e : (n.take m).length = m := by rw [List.length_take, hn.len]; omega
        rw [e, Nat.sub_self, List.drop_eq_getElem?_toList_append (i := m), hdg]
        simp
      have hset := ns_set .u64 (n.take (m + 1) ++ D.drop (m + 1)) m ((x + c * 65536) / 2)
      rw [hstep] at hset
      have hlen : (n.take (m + 1) ++ D.drop (m + 1)).length = 16 := by rw [List.length_append, List.length_take, List.length_drop, hn.len, hD.len]; omega
      have hxc := ns_get (k := .u64) hxl
      have hcb : c < 2 := by rw [hc]; exact Nat.mod_lt _ (by decide)
      have w1 : IntKind.i64.wrap ((m : Int) - 1) = (m : Int) - 1 := wrapI64_small (by omega) (by omega)
      have w2 : IntKind.u64.wrap ((c : Int) * 65536) = ((c * 65536 : Nat) : Int) := w64_mul (b := 65536) (by omega)
      have w3 : IntKind.u64.wrap ((x : Int) + ((c * 65536 : Nat) : Int)) = ((x + c * 65536 : Nat) : Int) := w64_add (by omega)
      have w4 : IntKind.u64.wrap (((x + c * 65536 : Nat) : Int).tdiv 2) = (((x + c * 65536) / 2 : Nat) : Int) := w64n (n := (x + c * 65536) / 2) (by omega)
      have w5 : ((x + c * 65536 : Nat) : Int).tmod 2 = (((x + c * 65536) % 2 : Nat) : Int) := rfl
      have e1 : ((0 : Int) ≤ (m : Int)) = True := eq_true (by omega)
      have e2 : ((m : Int) < 16) = True := eq_true (by omega)
      have e4 : (m ≤ 15) = True := eq_true (by omega)
      clear hc hc2 hcn hdg hstep
      generalize n.take (m + 1) ++ D.drop (m + 1) = A1 at *
      generalize n.take m ++ D.drop m = A2 at *
      generalize (x + c * 65536) / 2 = u at *
      generalize (x + c * 65536) % 2 = u2 at *
      generalize x + c * 65536 = v at *
      generalize c * 65536 = v2 at *
      simp only [hrI, a68_l0, envOf, evCode_skip, evCode_exit, evCode_seq, fs_blockS, fs_blockR, fs_blockC, fs_blockK, fs_blockB, evCode_ret, quiet, keep_nil, keep_cons, fs_cond, fs_region, fs_regionQ, quiet2_eq, lastOf_nil, lastOf_cons, List.take_succ_cons, List.take_zero, List.drop_succ_cons, List.drop_zero, Int.reduceBEq, Int.reduceBNe,  fs_nil, fs_guard, fs_move, fs_pick, fs_alloc, fs_box, fs_load, fs_store, fs_bin, fs_eqv, fs_isNil, fs_un, fs_conv, fs_convStr, fs_field, fs_index, fs_indexStr, fs_build, fs_buildSlice, fs_fieldAddr, fs_indexAddr, fs_indexSl, fs_sliceArr, fs_sliceSl, fs_sliceStr, fs_makeSlice, fs_extract, fs_mkIface, fs_mkFunc, fs_nilCheck, fs_s2ap, fs_len, fs_minmax, fs_s2b, fs_b2s, fs_append, fs_copy, fs_callW, fs_callR, fs_callv, opd_tmp, opd_const, opd_func, opds_nil, opds_cons, opdOpt_none, opdOpt_some, opdParts_nil, opdParts_cons, get_miss, vPick_t, vPick_f, vEq_agg, vEq_aggN, vEq_bool, vEq_boolN, vConv_int, vStr_s, vField_agg, vIndex_agg, vIndexStr_s, vFieldAddr_p, vIndexAddr_p, vIndexSl_s, vSliceArr_p, vSliceSl_s, vSliceSl_n, vSliceStr_s, vExtract_t, vNilCheck_p, vS2ap_s, vLen_s, vLen_str, vMin_i, vMax_i, vLoad_p, vStore_p, baseP_p, vB2s_s, vMake_i, vS2b_s, callee_f, liveAt_eq, storeAt_eq, partL_none, partL_some, natIn_none, natIn_int, bounds3_two, bin_add, bin_sub, bin_mul, bin_quo, bin_rem, bin_and, bin_or, bin_xor, bin_andNot, bin_eql, bin_neq, bin_lss, bin_leq, bin_gtr, bin_geq, bin_shl, bin_shr, bin_sadd, bin_seql, bin_sneq, un_not, un_neg, un_xor, after_some, put_some, put_none, res_nil, res_val, res_var, packed_one, packed_two, merge_nil, merge_ge, rf_tup2, rfIn_int, rfIn_bool, rfIn_u8s, rf_str, rfIn_str, ↓gate_true, gd_bool, gd_ut, gd_uf, ↓guardV_tt, ↓guardV_ff, ↓guardV_tf, ↓guardV_ft, ↓keepV_some, ↓qElse_some, ↓get_hit, ↓Option.bind_some, ↓if_true, ↓if_false, List.nil_append, List.cons_append, List.all_nil, List.all_cons, List.isEmpty_nil, reduceCtorEq, Bool.false_eq_true, Nat.reduceEqDiff, beq_self_eq_true, bne_self_eq_false, Bool.not_true, Bool.not_false, Int.natCast_nonneg, Nat.lt_irrefl, false_and, Int.reduceEq, rf_int, rf_bool, rf_tuple_ints, rf_u8s, arr_list, toList2, Bool.and_self, Nat.not_lt_zero, Nat.sub_zero, Nat.zero_le, Nat.le_add_right, cells_agg, cells_agg_size, cells_int, cells_int_size, okV_int, okV_bool, okV_str, okV_agg, okV_ptr, okV_slice, okV_func, okV_nilFunc, okV_iface, okV_nilIface, cells_bool, cells_bool_size, cells_ptr, cells_ptr_size, cells_slice, cells_slice_size, cells_str, cells_str_size, eq_self, wrapI64_small, Int.natCast_zero, Int.natCast_one, Int.cast_ofNat_Int, List.length_nil, List.length_cons, List.getElem?_cons_zero, List.getElem?_cons_succ, List.set_cons_zero, List.set_cons_succ, Nat.zero_add, Nat.add_zero, Nat.mul_one, Nat.zero_mul, Int.toNat_natCast, Int.toNat_zero, Int.lt_irrefl, Int.le_refl, Nat.le_refl, and_self, true_and, and_true, decide_true, decide_false, Int.reduceLE, Int.reduceLT, Int.reduceAdd, Int.reduceMul, Int.reduceSub, Int.reduceTDiv, Int.reduceTMod, Int.reduceNeg, Int.reduceToNat, Int.reduceGT, Int.reduceGE, Int.reducePow, Nat.reduceAdd, Nat.reduceMul, Nat.reduceSub, Nat.reduceDiv, Nat.reduceMod, Nat.reducePow, Nat.reduceLT, Nat.reduceLeDiff, Nat.min_self, ge_iff_le, gt_iff_lt, Option.isNone_none, Option.isSome_none, Option.isNone_some, Option.isSome_some, Bool.and_true, Bool.true_and, Bool.and_false, Bool.false_and, not_true_eq_false, not_false_eq_true, or_true, true_or, false_or, or_false, hget0, hgetK, hset0, hsetK, splice_single, splice_whole, take_whole, List.getElem?_nil, List.length_append, List.append_assoc, hxc, w1, w2, w3, w4, w5, e1, e2, e4, hset, ns_len, hlen])
    (fun st hs => by
      subst hs
      have e : ((0 : Int) ≤ -1) = False := by decide
      refine ⟨_, ?_, rfl⟩
      rw [show (15 : Int) - ((16 : Nat) : Int) = -1 by omega, Nat.sub_self, List.take_zero, List.drop_zero, List.nil_append, Nat.pow_zero, Nat.div_one]
      simp only [hrI, a68_l0, envOf, evCode_skip, evCode_exit, evCode_seq, fs_blockS, fs_blockR, fs_blockC, fs_blockK, fs_blockB, evCode_ret, quiet, keep_nil, keep_cons, fs_cond, fs_region, fs_regionQ, quiet2_eq, lastOf_nil, lastOf_cons, List.take_succ_cons, List.take_zero, List.drop_succ_cons, List.drop_zero, Int.reduceBEq, Int.reduceBNe,  fs_nil, fs_guard, fs_move, fs_pick, fs_alloc, fs_box, fs_load, fs_store, fs_bin, fs_eqv, fs_isNil, fs_un, fs_conv, fs_convStr, fs_field, fs_index, fs_indexStr, fs_build, fs_buildSlice, fs_fieldAddr, fs_indexAddr, fs_indexSl, fs_sliceArr, fs_sliceSl, fs_sliceStr, fs_makeSlice, fs_extract, fs_mkIface, fs_mkFunc, fs_nilCheck, fs_s2ap, fs_len, fs_minmax, fs_s2b, fs_b2s, fs_append, fs_copy, fs_callW, fs_callR, fs_callv, opd_tmp, opd_const, opd_func, opds_nil, opds_cons, opdOpt_none, opdOpt_some, opdParts_nil, opdParts_cons, get_miss, vPick_t, vPick_f, vEq_agg, vEq_aggN, vEq_bool, vEq_boolN, vConv_int, vStr_s, vField_agg, vIndex_agg, vIndexStr_s, vFieldAddr_p, vIndexAddr_p, vIndexSl_s, vSliceArr_p, vSliceSl_s, vSliceSl_n, vSliceStr_s, vExtract_t, vNilCheck_p, vS2ap_s, vLen_s, vLen_str, vMin_i, vMax_i, vLoad_p, vStore_p, baseP_p, vB2s_s, vMake_i, vS2b_s, callee_f, liveAt_eq, storeAt_eq, partL_none, partL_some, natIn_none, natIn_int, bounds3_two, bin_add, bin_sub, bin_mul, bin_quo, bin_rem, bin_and, bin_or, bin_xor, bin_andNot, bin_eql, bin_neq, bin_lss, bin_leq, bin_gtr, bin_geq, bin_shl, bin_shr, bin_sadd, bin_seql, bin_sneq, un_not, un_neg, un_xor, after_some, put_some, put_none, res_nil, res_val, res_var, packed_one, packed_two, merge_nil, merge_ge, rf_tup2, rfIn_int, rfIn_bool, rfIn_u8s, rf_str, rfIn_str, ↓gate_true, gd_bool, gd_ut, gd_uf, ↓guardV_tt, ↓guardV_ff, ↓guardV_tf, ↓guardV_ft, ↓keepV_some, ↓qElse_some, ↓get_hit, ↓Option.bind_some, ↓if_true, ↓if_false, List.nil_append, List.cons_append, List.all_nil, List.all_cons, List.isEmpty_nil, reduceCtorEq, Bool.false_eq_true, Nat.reduceEqDiff, beq_self_eq_true, bne_self_eq_false, Bool.not_true, Bool.not_false, Int.natCast_nonneg, Nat.lt_irrefl, false_and, Int.reduceEq, rf_int, rf_bool, rf_tuple_ints, rf_u8s, arr_list, toList2, Bool.and_self, Nat.not_lt_zero, Nat.sub_zero, Nat.zero_le, Nat.le_add_right, cells_agg, cells_agg_size, cells_int, cells_int_size, okV_int, okV_bool, okV_str, okV_agg, okV_ptr, okV_slice, okV_func, okV_nilFunc, okV_iface, okV_nilIface, cells_bool, cells_bool_size, cells_ptr, cells_ptr_size, cells_slice, cells_slice_size, cells_str, cells_str_size, eq_self, wrapI64_small, Int.natCast_zero, Int.natCast_one, Int.cast_ofNat_Int, List.length_nil, List.length_cons, List.getElem?_cons_zero, List.getElem?_cons_succ, List.set_cons_zero, List.set_cons_succ, Nat.zero_add, Nat.add_zero, Nat.mul_one, Nat.zero_mul, Int.toNat_natCast, Int.toNat_zero, Int.lt_irrefl, Int.le_refl, Nat.le_refl, and_self, true_and, and_true, decide_true, decide_false, Int.reduceLE, Int.reduceLT, Int.reduceAdd, Int.reduceMul, Int.reduceSub, Int.reduceTDiv, Int.reduceTMod, Int.reduceNeg, Int.reduceToNat, Int.reduceGT, Int.reduceGE, Int.reducePow, Nat.reduceAdd, Nat.reduceMul, Nat.reduceSub, Nat.reduceDiv, Nat.reduceMod, Nat.reducePow, Nat.reduceLT, Nat.reduceLeDiff, Nat.min_self, ge_iff_le, gt_iff_lt, Option.isNone_none, Option.isSome_none, Option.isNone_some, Option.isSome_some, Bool.and_true, Bool.true_and, Bool.and_false, Bool.false_and, not_true_eq_false, not_false_eq_true, or_true, true_or, false_or, or_false, e])
  exact hb
def hrO (a n : List Nat) (i : Int) (ex : Env) : St := ⟨[(1, .pointer (some ⟨0, 0, none⟩)), (2, .pointer (some ⟨1, 0, none⟩)), (4, .pointer (some ⟨2, 0, none⟩)), (5, .int .i64 i)] ++ ex, [⟨ns .u64 a, true, true, true, 1⟩, ⟨ns .u64 zero16, true, true, true, 1⟩, ⟨ns .u64 n, true, true, true, 1⟩], []⟩
theorem hr_outer {a n : List Nat} (hn : Nm n) :
    evCode T 0 (.block 0 (.loop a68_l1)) (hrO a n 0 []) = some (.normal, hrO a (dig 65536 16 (num 65536 n / 2 ^ 3)) 3 [(16, .bool false)]) := by
  obtain ⟨st, hb, rfl⟩ := block_inv (T := T) (base := 0) (id := 0) (body := a68_l1)
    (fun i st => ∃ ex, st = hrO a (dig 65536 16 (num 65536 n / 2 ^ i)) i ex)
    (Q := fun st => st = hrO a (dig 65536 16 (num 65536 n / 2 ^ 3)) 3 [(16, .bool false)])
    3 (s := hrO a n 0 []) ⟨[], by rw [Nat.pow_zero, Nat.div_one, ← hn.eq]; rfl⟩
    (fun i st hi hs => by
      obtain ⟨ex, rfl⟩ := hs
      have hN := Nm.dig (num 65536 n / 2 ^ i)
      have hlt : num 65536 n / 2 ^ i < 2 ^ 256 := Nat.lt_of_le_of_lt (Nat.div_le_self _ _) hn.num_lt
      have hb := hr_block (a := a) (i := (i : Int)) hN
      rw [nm_dig hlt, Nat.div_div_eq_div_mul, ← Nat.pow_succ] at hb
      simp only [hrI, List.cons_append, List.nil_append, Int.natCast_zero] at hb
      have w1 : IntKind.i64.wrap ((i : Int) + 1) = ((i + 1 : Nat) : Int) := wi_add (b := 1) (by omega)
      have e1 : ((i : Int) < 3) = True := eq_true (by omega)
      refine ⟨_, ?_, [], rfl⟩
      generalize dig 65536 16 (num 65536 n / 2 ^ i) = A at *
      generalize dig 65536 16 (num 65536 n / 2 ^ (i + 1)) = A' at *
      simp only [hrO, a68_l1, envOf, evCode_skip, evCode_exit, evCode_seq, fs_blockS, fs_blockR, fs_blockC, fs_blockK, fs_blockB, evCode_ret, quiet, keep_nil, keep_cons, fs_cond, fs_region, fs_regionQ, quiet2_eq, lastOf_nil, lastOf_cons, List.take_succ_cons, List.take_zero, List.drop_succ_cons, List.drop_zero, Int.reduceBEq, Int.reduceBNe,  fs_nil, fs_guard, fs_move, fs_pick, fs_alloc, fs_box, fs_load, fs_store, fs_bin, fs_eqv, fs_isNil, fs_un, fs_conv, fs_convStr, fs_field, fs_index, fs_indexStr, fs_build, fs_buildSlice, fs_fieldAddr, fs_indexAddr, fs_indexSl, fs_sliceArr, fs_sliceSl, fs_sliceStr, fs_makeSlice, fs_extract, fs_mkIface, fs_mkFunc, fs_nilCheck, fs_s2ap, fs_len, fs_minmax, fs_s2b, fs_b2s, fs_append, fs_copy, fs_callW, fs_callR, fs_callv, opd_tmp, opd_const, opd_func, opds_nil, opds_cons, opdOpt_none, opdOpt_some, opdParts_nil, opdParts_cons, get_miss, vPick_t, vPick_f, vEq_agg, vEq_aggN, vEq_bool, vEq_boolN, vConv_int, vStr_s, vField_agg, vIndex_agg, vIndexStr_s, vFieldAddr_p, vIndexAddr_p, vIndexSl_s, vSliceArr_p, vSliceSl_s, vSliceSl_n, vSliceStr_s, vExtract_t, vNilCheck_p, vS2ap_s, vLen_s, vLen_str, vMin_i, vMax_i, vLoad_p, vStore_p, baseP_p, vB2s_s, vMake_i, vS2b_s, callee_f, liveAt_eq, storeAt_eq, partL_none, partL_some, natIn_none, natIn_int, bounds3_two, bin_add, bin_sub, bin_mul, bin_quo, bin_rem, bin_and, bin_or, bin_xor, bin_andNot, bin_eql, bin_neq, bin_lss, bin_leq, bin_gtr, bin_geq, bin_shl, bin_shr, bin_sadd, bin_seql, bin_sneq, un_not, un_neg, un_xor, after_some, put_some, put_none, res_nil, res_val, res_var, packed_one, packed_two, merge_nil, merge_ge, rf_tup2, rfIn_int, rfIn_bool, rfIn_u8s, rf_str, rfIn_str, ↓gate_true, gd_bool, gd_ut, gd_uf, ↓guardV_tt, ↓guardV_ff, ↓guardV_tf, ↓guardV_ft, ↓keepV_some, ↓qElse_some, ↓get_hit, ↓Option.bind_some, ↓if_true, ↓if_false, List.nil_append, List.cons_append, List.all_nil, List.all_cons, List.isEmpty_nil, reduceCtorEq, Bool.false_eq_true, Nat.reduceEqDiff, beq_self_eq_true, bne_self_eq_false, Bool.not_true, Bool.not_false, Int.natCast_nonneg, Nat.lt_irrefl, false_and, Int.reduceEq, rf_int, rf_bool, rf_tuple_ints, rf_u8s, arr_list, toList2, Bool.and_self, Nat.not_lt_zero, Nat.sub_zero, Nat.zero_le, Nat.le_add_right, cells_agg, cells_agg_size, cells_int, cells_int_size, okV_int, okV_bool, okV_str, okV_agg, okV_ptr, okV_slice, okV_func, okV_nilFunc, okV_iface, okV_nilIface, cells_bool, cells_bool_size, cells_ptr, cells_ptr_size, cells_slice, cells_slice_size, cells_str, cells_str_size, eq_self, wrapI64_small, Int.natCast_zero, Int.natCast_one, Int.cast_ofNat_Int, List.length_nil, List.length_cons, List.getElem?_cons_zero, List.getElem?_cons_succ, List.set_cons_zero, List.set_cons_succ, Nat.zero_add, Nat.add_zero, Nat.mul_one, Nat.zero_mul, Int.toNat_natCast, Int.toNat_zero, Int.lt_irrefl, Int.le_refl, Nat.le_refl, and_self, true_and, and_true, decide_true, decide_false, Int.reduceLE, Int.reduceLT, Int.reduceAdd, Int.reduceMul, Int.reduceSub, Int.reduceTDiv, Int.reduceTMod, Int.reduceNeg, Int.reduceToNat, Int.reduceGT, Int.reduceGE, Int.reducePow, Nat.reduceAdd, Nat.reduceMul, Nat.reduceSub, Nat.reduceDiv, Nat.reduceMod, Nat.reducePow, Nat.reduceLT, Nat.reduceLeDiff, Nat.min_self, ge_iff_le, gt_iff_lt, Option.isNone_none, Option.isSome_none, Option.isNone_some, Option.isSome_some, Bool.and_true, Bool.true_and, Bool.and_false, Bool.false_and, not_true_eq_false, not_false_eq_true, or_true, true_or, false_or, or_false, hget0, hgetK, hset0, hsetK, splice_single, splice_whole, take_whole, List.getElem?_nil, List.length_append, List.append_assoc, hb, w1, e1])
    (fun st hs => by
      obtain ⟨ex, rfl⟩ := hs
      refine ⟨_, ?_, rfl⟩
      generalize dig 65536 16 (num 65536 n / 2 ^ 3) = A at *
      simp only [hrO, a68_l1, envOf, evCode_skip, evCode_exit, evCode_seq, fs_blockS, fs_blockR, fs_blockC, fs_blockK, fs_blockB, evCode_ret, quiet, keep_nil, keep_cons, fs_cond, fs_region, fs_regionQ, quiet2_eq, lastOf_nil, lastOf_cons, List.take_succ_cons, List.take_zero, List.drop_succ_cons, List.drop_zero, Int.reduceBEq, Int.reduceBNe,  fs_nil, fs_guard, fs_move, fs_pick, fs_alloc, fs_box, fs_load, fs_store, fs_bin, fs_eqv, fs_isNil, fs_un, fs_conv, fs_convStr, fs_field, fs_index, fs_indexStr, fs_build, fs_buildSlice, fs_fieldAddr, fs_indexAddr, fs_indexSl, fs_sliceArr, fs_sliceSl, fs_sliceStr, fs_makeSlice, fs_extract, fs_mkIface, fs_mkFunc, fs_nilCheck, fs_s2ap, fs_len, fs_minmax, fs_s2b, fs_b2s, fs_append, fs_copy, fs_callW, fs_callR, fs_callv, opd_tmp, opd_const, opd_func, opds_nil, opds_cons, opdOpt_none, opdOpt_some, opdParts_nil, opdParts_cons, get_miss, vPick_t, vPick_f, vEq_agg, vEq_aggN, vEq_bool, vEq_boolN, vConv_int, vStr_s, vField_agg, vIndex_agg, vIndexStr_s, vFieldAddr_p, vIndexAddr_p, vIndexSl_s, vSliceArr_p, vSliceSl_s, vSliceSl_n, vSliceStr_s, vExtract_t, vNilCheck_p, vS2ap_s, vLen_s, vLen_str, vMin_i, vMax_i, vLoad_p, vStore_p, baseP_p, vB2s_s, vMake_i, vS2b_s, callee_f, liveAt_eq, storeAt_eq, partL_none, partL_some, natIn_none, natIn_int, bounds3_two, bin_add, bin_sub, bin_mul, bin_quo, bin_rem, bin_and, bin_or, bin_xor, bin_andNot, bin_eql, bin_neq, bin_lss, bin_leq, bin_gtr, bin_geq, bin_shl, bin_shr, bin_sadd, bin_seql, bin_sneq, un_not, un_neg, un_xor, after_some, put_some, put_none, res_nil, res_val, res_var, packed_one, packed_two, merge_nil, merge_ge, rf_tup2, rfIn_int, rfIn_bool, rfIn_u8s, rf_str, rfIn_str, ↓gate_true, gd_bool, gd_ut, gd_uf, ↓guardV_tt, ↓guardV_ff, ↓guardV_tf, ↓guardV_ft, ↓keepV_some, ↓qElse_some, ↓get_hit, ↓Option.bind_some, ↓if_true, ↓if_false, List.nil_append, List.cons_append, List.all_nil, List.all_cons, List.isEmpty_nil, reduceCtorEq, Bool.false_eq_true, Nat.reduceEqDiff, beq_self_eq_true, bne_self_eq_false, Bool.not_true, Bool.not_false, Int.natCast_nonneg, Nat.lt_irrefl, false_and, Int.reduceEq, rf_int, rf_bool, rf_tuple_ints, rf_u8s, arr_list, toList2, Bool.and_self, Nat.not_lt_zero, Nat.sub_zero, Nat.zero_le, Nat.le_add_right, cells_agg, cells_agg_size, cells_int, cells_int_size, okV_int, okV_bool, okV_str, okV_agg, okV_ptr, okV_slice, okV_func, okV_nilFunc, okV_iface, okV_nilIface, cells_bool, cells_bool_size, cells_ptr, cells_ptr_size, cells_slice, cells_slice_size, cells_str, cells_str_size, eq_self, wrapI64_small, Int.natCast_zero, Int.natCast_one, Int.cast_ofNat_Int, List.length_nil, List.length_cons, List.getElem?_cons_zero, List.getElem?_cons_succ, List.set_cons_zero, List.set_cons_succ, Nat.zero_add, Nat.add_zero, Nat.mul_one, Nat.zero_mul, Int.toNat_natCast, Int.toNat_zero, Int.lt_irrefl, Int.le_refl, Nat.le_refl, and_self, true_and, and_true, decide_true, decide_false, Int.reduceLE, Int.reduceLT, Int.reduceAdd, Int.reduceMul, Int.reduceSub, Int.reduceTDiv, Int.reduceTMod, Int.reduceNeg, Int.reduceToNat, Int.reduceGT, Int.reduceGE, Int.reducePow, Nat.reduceAdd, Nat.reduceMul, Nat.reduceSub, Nat.reduceDiv, Nat.reduceMod, Nat.reducePow, Nat.reduceLT, Nat.reduceLeDiff, Nat.min_self, ge_iff_le, gt_iff_lt, Option.isNone_none, Option.isSome_none, Option.isNone_some, Option.isSome_some, Bool.and_true, Bool.true_and, Bool.and_false, Bool.false_and, not_true_eq_false, not_false_eq_true, or_true, true_or, false_or, or_false, hget0, hgetK, hset0, hsetK, splice_single, splice_whole, take_whole, List.getElem?_nil, List.length_append, List.append_assoc])
  exact hb
end Go.Ev.Ytaceeoghjgggjaa
set_option linter.unusedSimpArgs false
set_option linter.unusedVariables false
namespace Go.Ev.Ytaceeoghjgggjaa
open Go Go.Ev
attribute [local congr] bind_congr2 ite_congr2 qElse_congr gate_congr guardV_congr
set_option maxRecDepth 100000
def primeM : List Nat := dig 65536 16 (Go.Fp.P - 1)
def primeT : List Nat := dig 65536 16 (Go.Fp.P + 3)
theorem primeM_nm : Nm primeM := Nm.dig _
theorem primeT_nm : Nm primeT := Nm.dig _
theorem prime_get : primeL[0]? = some 65517 := by decide +kernel
theorem prime_setM : (ns .u64 primeL).set 0 (.int .u64 65516) = ns .u64 primeM := by
  have h : primeL.set 0 65516 = primeM := by decide +kernel
  have := ns_set .u64 primeL 0 65516
  rw [h] at this; exact this
theorem prime_setT : (ns .u64 primeL).set 0 (.int .u64 65520) = ns .u64 primeT := by
  have h : primeL.set 0 65520 = primeT := by decide +kernel
  have := ns_set .u64 primeL 0 65520
  rw [h] at this; exact this
theorem two_nf : nf (smallL 2) = Go.Fp.fp 2 := by unfold nf; rw [smallL_num (by decide)]
theorem half_two : Go.Fp.pow (Go.Fp.fp 2) ((Go.Fp.P - 1) / 2) = Go.Fp.fp (Go.Fp.P - 1) := Go.Fp.pow_test (f := 256) (by decide +kernel) (by decide +kernel)
theorem fp_m1 : Go.Fp.fp (Go.Fp.P - 1) = -1 := by decide +kernel
theorem quarterR : (Go.Fp.P - 1) / 2 = (Go.Fp.P - 1) / 4 + (Go.Fp.P - 1) / 4 := by decide +kernel
theorem rminusOne_v : ∃ r, evVal T 89 [] = some (eV r) ∧ Nm r ∧ nf r * nf r = -1 := by
  have hp := rprime_v
  have h2 := rsmall_v 2 (by decide)
  have ho := hm_outer primeM_nm
  have hn : num 65536 primeM / 2 ^ 2 = (Go.Fp.P - 1) / 4 := by decide +kernel
  rw [hn] at ho
  have hE := Nm.dig ((Go.Fp.P - 1) / 4)
  have hEn := nm_dig (v := (Go.Fp.P - 1) / 4) (by decide +kernel)
  obtain ⟨r, hr, r1, r2⟩ := rpower_v (smallL_nm 2) hE
  rw [hEn, two_nf] at r2
  refine ⟨r, ?_, r1, by rw [r2, ← Go.Fp.pow_add, ← quarterR, half_two, fp_m1]⟩
  have g0 := ns_get (k := .u64) prime_get
  have s0 := prime_setM
  have lp := primeL_nm.len
  have lm := primeM_nm.len
  have ls := (smallL_nm 2).len
  have lE := hE.len
  have lr := r1.len
  have hz := z16_eq
  have lz := z16_len
  have w1 : IntKind.u64.wrap 65516 = 65516 := by decide
  simp only [Int.cast_ofNat_Int] at h2 g0
  simp only [hmO, List.cons_append, List.nil_append, Int.natCast_zero] at ho
  generalize primeL = PL at *
  generalize primeM = PM at *
  generalize smallL 2 = S at *
  generalize dig 65536 16 ((Go.Fp.P - 1) / 4) = E at *
  generalize zero16 = Z at *
  apply evVal_ex
  apply Exists.intro
  rw [evFun_fn (fn := a89) rfl]
  simp only [a89, ↓steps_chunk, envOf, evCode_skip, evCode_exit, evCode_seq, fs_blockS, fs_blockR, fs_blockC, fs_blockK, fs_blockB, evCode_ret, quiet, keep_nil, keep_cons, fs_cond, fs_region, fs_regionQ, quiet2_eq, lastOf_nil, lastOf_cons, List.take_succ_cons, List.take_zero, List.drop_succ_cons, List.drop_zero, Int.reduceBEq, Int.reduceBNe,  fs_nil, fs_guard, fs_move, fs_pick, fs_alloc, fs_box, fs_load, fs_store, fs_bin, fs_eqv, fs_isNil, fs_un, fs_conv, fs_convStr, fs_field, fs_index, fs_indexStr, fs_build, fs_buildSlice, fs_fieldAddr, fs_indexAddr, fs_indexSl, fs_sliceArr, fs_sliceSl, fs_sliceStr, fs_makeSlice, fs_extract, fs_mkIface, fs_mkFunc, fs_nilCheck, fs_s2ap, fs_len, fs_minmax, fs_s2b, fs_b2s, fs_append, fs_copy, fs_callW, fs_callR, fs_callv, opd_tmp, opd_const, opd_func, opds_nil, opds_cons, opdOpt_none, opdOpt_some, opdParts_nil, opdParts_cons, get_miss, vPick_t, vPick_f, vEq_agg, vEq_aggN, vEq_bool, vEq_boolN, vConv_int, vStr_s, vField_agg, vIndex_agg, vIndexStr_s, vFieldAddr_p, vIndexAddr_p, vIndexSl_s, vSliceArr_p, vSliceSl_s, vSliceSl_n, vSliceStr_s, vExtract_t, vNilCheck_p, vS2ap_s, vLen_s, vLen_str, vMin_i, vMax_i, vLoad_p, vStore_p, baseP_p, vB2s_s, vMake_i, vS2b_s, callee_f, liveAt_eq, storeAt_eq, partL_none, partL_some, natIn_none, natIn_int, bounds3_two, bin_add, bin_sub, bin_mul, bin_quo, bin_rem, bin_and, bin_or, bin_xor, bin_andNot, bin_eql, bin_neq, bin_lss, bin_leq, bin_gtr, bin_geq, bin_shl, bin_shr, bin_sadd, bin_seql, bin_sneq, un_not, un_neg, un_xor, after_some, put_some, put_none, res_nil, res_val, res_var, packed_one, packed_two, merge_nil, merge_ge, rf_tup2, rfIn_int, rfIn_bool, rfIn_u8s, rf_str, rfIn_str, ↓gate_true, gd_bool, gd_ut, gd_uf, ↓guardW_tt, ↓guardW_ff, ↓guardW_tf, ↓guardW_ft, ↓keepW_some, ↓qElseW_some, ↓get_hit, ↓Option.bind_some, ↓if_true, ↓if_false, List.nil_append, List.cons_append, List.all_nil, List.all_cons, List.isEmpty_nil, reduceCtorEq, Bool.false_eq_true, Nat.reduceEqDiff, beq_self_eq_true, bne_self_eq_false, Bool.not_true, Bool.not_false, Int.natCast_nonneg, Nat.lt_irrefl, false_and, Int.reduceEq, rf_int, rf_bool, rf_tuple_ints, rf_u8s, arr_list, toList2, Bool.and_self, Nat.not_lt_zero, Nat.sub_zero, Nat.zero_le, Nat.le_add_right, cells_agg, cells_agg_size, cells_int, cells_int_size, okV_int, okV_bool, okV_str, okV_agg, okV_ptr, okV_slice, okV_func, okV_nilFunc, okV_iface, okV_nilIface, cells_bool, cells_bool_size, cells_ptr, cells_ptr_size, cells_slice, cells_slice_size, cells_str, cells_str_size, eq_self, wrapI64_small, Int.natCast_zero, Int.natCast_one, Int.cast_ofNat_Int, List.length_nil, List.length_cons, List.getElem?_cons_zero, List.getElem?_cons_succ, List.set_cons_zero, List.set_cons_succ, Nat.zero_add, Nat.add_zero, Nat.mul_one, Nat.zero_mul, Int.toNat_natCast, Int.toNat_zero, Int.lt_irrefl, Int.le_refl, Nat.le_refl, and_self, true_and, and_true, decide_true, decide_false, Int.reduceLE, Int.reduceLT, Int.reduceAdd, Int.reduceMul, Int.reduceSub, Int.reduceTDiv, Int.reduceTMod, Int.reduceNeg, Int.reduceToNat, Int.reduceGT, Int.reduceGE, Int.reducePow, Nat.reduceAdd, Nat.reduceMul, Nat.reduceSub, Nat.reduceDiv, Nat.reduceMod, Nat.reducePow, Nat.reduceLT, Nat.reduceLeDiff, Nat.min_self, ge_iff_le, gt_iff_lt, Option.isNone_none, Option.isSome_none, Option.isNone_some, Option.isSome_some, Bool.and_true, Bool.true_and, Bool.and_false, Bool.false_and, not_true_eq_false, not_false_eq_true, or_true, true_or, false_or, or_false, hget0, hgetK, hset0, hsetK, splice_single, splice_whole, take_whole, List.getElem?_nil, List.length_append, List.append_assoc, hz, hp, h2, g0, w1, s0, ho, hr, List.length_replicate, take_all, eV_cells, eV_size, eV_ok, eV_fold, ns_len, lp, lm, ls, lE, lr, lz, rf_eV]
  rfl
theorem canon_beq (a b : List Nat) : (dig 65536 16 (num 65536 a % Go.Fp.P) == dig 65536 16 (num 65536 b % Go.Fp.P)) = decide (nf a = nf b) := by
  have h1 := Nat.mod_lt (num 65536 a) P_pos
  have h2 := Nat.mod_lt (num 65536 b) P_pos
  have h3 := P_lt2
  rw [dig16_eq (by omega) (by omega)]
  by_cases h : nf a = nf b
  · rw [decide_eq_true h, decide_eq_true (Go.Fp.fp_eq.1 h)]
  · rw [decide_eq_false h, decide_eq_false (fun e => h (Go.Fp.fp_eq.2 e))]
theorem canon_nf (a : List Nat) : nf (dig 65536 16 (num 65536 a % Go.Fp.P)) = nf a := by
  have h1 := Nat.mod_lt (num 65536 a) P_pos
  have h3 := P_lt2
  unfold nf
  rw [nm_dig (by omega), Go.Fp.fp_mod]
theorem p_eighth : (Go.Fp.P + 3) / 8 + (Go.Fp.P + 3) / 8 = (Go.Fp.P - 1) / 4 + 1 := by decide +kernel
theorem fe_neg_mul (a : Go.Fp.Fe) : -1 * a = -a := by grobner
theorem fe_one_mul (a : Go.Fp.Fe) : 1 * a = a := by grobner
theorem fe_four (x m : Go.Fp.Fe) : x * m * (x * m) = x * x * (m * m) := by grobner
theorem fe_negneg (a : Go.Fp.Fe) : -a * -1 = a := by grobner
theorem eighth_root {a s : Go.Fp.Fe} (h : s * s = a) : Go.Fp.pow a ((Go.Fp.P + 3) / 8) * Go.Fp.pow a ((Go.Fp.P + 3) / 8) = a ∨ Go.Fp.pow a ((Go.Fp.P + 3) / 8) * Go.Fp.pow a ((Go.Fp.P + 3) / 8) = -a := by
  have e : Go.Fp.pow a ((Go.Fp.P + 3) / 8) * Go.Fp.pow a ((Go.Fp.P + 3) / 8) = Go.Fp.pow a ((Go.Fp.P - 1) / 4) * a := by
    rw [← Go.Fp.pow_add, p_eighth, Go.Fp.pow]
  rcases Go.Fp.pow_half s with h1 | h1
  · rw [h, quarterR, Go.Fp.pow_add] at h1
    have h2 : Go.Fp.pow a ((Go.Fp.P - 1) / 4) * Go.Fp.pow a ((Go.Fp.P - 1) / 4) = 1 * 1 := by rw [h1]; exact (fe_one_mul 1).symm
    rw [e]
    rcases sq_eq h2 with h3 | h3
    · left; rw [h3, fe_one_mul]
    · right; rw [h3, fe_neg_mul]
  · have ha : a = 0 := by rw [← h, h1]; grobner
    left
    rw [e, ha]; grobner
theorem rroot_v {a : List Nat} (ha : Nm a) : ∃ r ok, evVal T 68 [eV a] = some (.tuple #[eV r, .bool ok]) ∧ Nm r ∧ num 65536 r < Go.Fp.P ∧ (ok = true → nf r * nf r = nf a) ∧ (ok = false → ∀ x : Go.Fp.Fe, x * x ≠ nf a) := by
  have hp := rprime_v
  have ho := hr_outer (a := a) primeT_nm
  have hn : num 65536 primeT / 2 ^ 3 = (Go.Fp.P + 3) / 8 := by decide +kernel
  rw [hn] at ho
  have hE := Nm.dig ((Go.Fp.P + 3) / 8)
  have hEn := nm_dig (v := (Go.Fp.P + 3) / 8) (by decide +kernel)
  obtain ⟨x, hx, x1, x2⟩ := rpower_v ha hE
  rw [hEn] at x2
  obtain ⟨q, hq, q1, q2⟩ := rmul_v x1 x1
  obtain ⟨m, hm, m1, m2⟩ := rminusOne_v
  obtain ⟨y, hy, y1, y2⟩ := rmul_v x1 m1
  obtain ⟨t, ht, t1, t2⟩ := rmul_v y1 y1
  have cq := rcanon_v q1
  have ca := rcanon_v ha
  have cx := rcanon_v x1
  have cy := rcanon_v y1
  have ct := rcanon_v t1
  have b1 := canon_beq q a
  have b2 := canon_beq t a
  have nq := Nm.dig (num 65536 q % Go.Fp.P)
  have na := Nm.dig (num 65536 a % Go.Fp.P)
  have nx := Nm.dig (num 65536 x % Go.Fp.P)
  have ny := Nm.dig (num 65536 y % Go.Fp.P)
  have nt := Nm.dig (num 65536 t % Go.Fp.P)
  have v1 := vEq_eVN nq.len na.len
  have v2 := vEq_eV nq.len na.len
  have v3 := vEq_eV nt.len na.len
  rw [b1] at v1 v2
  rw [b2] at v3
  have g0 := ns_get (k := .u64) prime_get
  have s0 := prime_setT
  have lp := primeL_nm.len
  have lm := primeT_nm.len
  have lE := hE.len
  have la := ha.len
  have lx := x1.len
  have ly := y1.len
  have lq := nx.len
  have ly2 := ny.len
  have hz := z16_eq
  have lz := z16_len
  have w1 : IntKind.u64.wrap 65520 = 65520 := by decide
  have rft : ∀ (r : List Nat) (c : Bool), rf (Value.tuple #[eV r, .bool c]) = true := fun r c => rf_tup2 (a := eV r) (b := .bool c) (rf_eV r) rfl
  simp only [Int.cast_ofNat_Int] at g0
  simp only [hrO, List.cons_append, List.nil_append, Int.natCast_zero] at ho
  have hPl := P_lt2
  have ltx : num 65536 (dig 65536 16 (num 65536 x % Go.Fp.P)) < Go.Fp.P := by
    have := Nat.mod_lt (num 65536 x) P_pos
    rw [nm_dig (by omega)]; exact this
  have lty : num 65536 (dig 65536 16 (num 65536 y % Go.Fp.P)) < Go.Fp.P := by
    have := Nat.mod_lt (num 65536 y) P_pos
    rw [nm_dig (by omega)]; exact this
  have fx := canon_nf x
  have fy := canon_nf y
  by_cases h : nf q = nf a
  · rw [decide_eq_true h] at v1 v2
    refine ⟨dig 65536 16 (num 65536 x % Go.Fp.P), true, ?_, nx, ltx, fun _ => by rw [fx, ← q2, h], fun h => absurd h (by decide)⟩
    generalize dig 65536 16 (num 65536 q % Go.Fp.P) = CQ at *
    generalize dig 65536 16 (num 65536 a % Go.Fp.P) = CA at *
    generalize dig 65536 16 (num 65536 x % Go.Fp.P) = CX at *
    generalize primeL = PL at *
    generalize primeT = PM at *
    generalize dig 65536 16 ((Go.Fp.P + 3) / 8) = E at *
    generalize zero16 = Z at *
    apply evVal_ex
    apply Exists.intro
    rw [evFun_fn (fn := a68) rfl]
    simp only [a68, ↓steps_chunk, envOf, evCode_skip, evCode_exit, evCode_seq, fs_blockS, fs_blockR, fs_blockC, fs_blockK, fs_blockB, evCode_ret, quiet, keep_nil, keep_cons, fs_cond, fs_region, fs_regionQ, quiet2_eq, lastOf_nil, lastOf_cons, List.take_succ_cons, List.take_zero, List.drop_succ_cons, List.drop_zero, Int.reduceBEq, Int.reduceBNe,  fs_nil, fs_guard, fs_move, fs_pick, fs_alloc, fs_box, fs_load, fs_store, fs_bin, fs_eqv, fs_isNil, fs_un, fs_conv, fs_convStr, fs_field, fs_index, fs_indexStr, fs_build, fs_buildSlice, fs_fieldAddr, fs_indexAddr, fs_indexSl, fs_sliceArr, fs_sliceSl, fs_sliceStr, fs_makeSlice, fs_extract, fs_mkIface, fs_mkFunc, fs_nilCheck, fs_s2ap, fs_len, fs_minmax, fs_s2b, fs_b2s, fs_append, fs_copy, fs_callW, fs_callR, fs_callv, opd_tmp, opd_const, opd_func, opds_nil, opds_cons, opdOpt_none, opdOpt_some, opdParts_nil, opdParts_cons, get_miss, vPick_t, vPick_f, vEq_agg, vEq_aggN, vEq_bool, vEq_boolN, vConv_int, vStr_s, vField_agg, vIndex_agg, vIndexStr_s, vFieldAddr_p, vIndexAddr_p, vIndexSl_s, vSliceArr_p, vSliceSl_s, vSliceSl_n, vSliceStr_s, vExtract_t, vNilCheck_p, vS2ap_s, vLen_s, vLen_str, vMin_i, vMax_i, vLoad_p, vStore_p, baseP_p, vB2s_s, vMake_i, vS2b_s, callee_f, liveAt_eq, storeAt_eq, partL_none, partL_some, natIn_none, natIn_int, bounds3_two, bin_add, bin_sub, bin_mul, bin_quo, bin_rem, bin_and, bin_or, bin_xor, bin_andNot, bin_eql, bin_neq, bin_lss, bin_leq, bin_gtr, bin_geq, bin_shl, bin_shr, bin_sadd, bin_seql, bin_sneq, un_not, un_neg, un_xor, after_some, put_some, put_none, res_nil, res_val, res_var, packed_one, packed_two, merge_nil, merge_ge, rf_tup2, rfIn_int, rfIn_bool, rfIn_u8s, rf_str, rfIn_str, ↓gate_true, gd_bool, gd_ut, gd_uf, ↓guardW_tt, ↓guardW_ff, ↓guardW_tf, ↓guardW_ft, ↓keepW_some, ↓qElseW_some, ↓get_hit, ↓Option.bind_some, ↓if_true, ↓if_false, List.nil_append, List.cons_append, List.all_nil, List.all_cons, List.isEmpty_nil, reduceCtorEq, Bool.false_eq_true, Nat.reduceEqDiff, beq_self_eq_true, bne_self_eq_false, Bool.not_true, Bool.not_false, Int.natCast_nonneg, Nat.lt_irrefl, false_and, Int.reduceEq, rf_int, rf_bool, rf_tuple_ints, rf_u8s, arr_list, toList2, Bool.and_self, Nat.not_lt_zero, Nat.sub_zero, Nat.zero_le, Nat.le_add_right, cells_agg, cells_agg_size, cells_int, cells_int_size, okV_int, okV_bool, okV_str, okV_agg, okV_ptr, okV_slice, okV_func, okV_nilFunc, okV_iface, okV_nilIface, cells_bool, cells_bool_size, cells_ptr, cells_ptr_size, cells_slice, cells_slice_size, cells_str, cells_str_size, eq_self, wrapI64_small, Int.natCast_zero, Int.natCast_one, Int.cast_ofNat_Int, List.length_nil, List.length_cons, List.getElem?_cons_zero, List.getElem?_cons_succ, List.set_cons_zero, List.set_cons_succ, Nat.zero_add, Nat.add_zero, Nat.mul_one, Nat.zero_mul, Int.toNat_natCast, Int.toNat_zero, Int.lt_irrefl, Int.le_refl, Nat.le_refl, and_self, true_and, and_true, decide_true, decide_false, Int.reduceLE, Int.reduceLT, Int.reduceAdd, Int.reduceMul, Int.reduceSub, Int.reduceTDiv, Int.reduceTMod, Int.reduceNeg, Int.reduceToNat, Int.reduceGT, Int.reduceGE, Int.reducePow, Nat.reduceAdd, Nat.reduceMul, Nat.reduceSub, Nat.reduceDiv, Nat.reduceMod, Nat.reducePow, Nat.reduceLT, Nat.reduceLeDiff, Nat.min_self, ge_iff_le, gt_iff_lt, Option.isNone_none, Option.isSome_none, Option.isNone_some, Option.isSome_some, Bool.and_true, Bool.true_and, Bool.and_false, Bool.false_and, not_true_eq_false, not_false_eq_true, or_true, true_or, false_or, or_false, hget0, hgetK, hset0, hsetK, splice_single, splice_whole, take_whole, List.getElem?_nil, List.length_append, List.append_assoc, hz, hp, g0, w1, s0, ho, hx, hq, cq, ca, cx, v1, v2, List.length_replicate, take_all, eV_cells, eV_size, eV_ok, eV_fold, ns_len, lp, lm, lE, la, lx, lq, lz, rft, rf_eV]
    rfl
  · rw [decide_eq_false h] at v1 v2
    refine ⟨dig 65536 16 (num 65536 y % Go.Fp.P), decide (nf t = nf a), ?_, ny, lty, ?_, ?_⟩
    · generalize decide (nf t = nf a) = ok at *
      generalize dig 65536 16 (num 65536 q % Go.Fp.P) = CQ at *
      generalize dig 65536 16 (num 65536 a % Go.Fp.P) = CA at *
      generalize dig 65536 16 (num 65536 y % Go.Fp.P) = CY at *
      generalize dig 65536 16 (num 65536 t % Go.Fp.P) = CT at *
      generalize primeL = PL at *
      generalize primeT = PM at *
      generalize dig 65536 16 ((Go.Fp.P + 3) / 8) = E at *
      generalize zero16 = Z at *
      apply evVal_ex
      apply Exists.intro
      rw [evFun_fn (fn := a68) rfl]
      simp only [a68, ↓steps_chunk, envOf, evCode_skip, evCode_exit, evCode_seq, fs_blockS, fs_blockR, fs_blockC, fs_blockK, fs_blockB, evCode_ret, quiet, keep_nil, keep_cons, fs_cond, fs_region, fs_regionQ, quiet2_eq, lastOf_nil, lastOf_cons, List.take_succ_cons, List.take_zero, List.drop_succ_cons, List.drop_zero, Int.reduceBEq, Int.reduceBNe,  fs_nil, fs_guard, fs_move, fs_pick, fs_alloc, fs_box, fs_load, fs_store, fs_bin, fs_eqv, fs_isNil, fs_un, fs_conv, fs_convStr, fs_field, fs_index, fs_indexStr, fs_build, fs_buildSlice, fs_fieldAddr, fs_indexAddr, fs_indexSl, fs_sliceArr, fs_sliceSl, fs_sliceStr, fs_makeSlice, fs_extract, fs_mkIface, fs_mkFunc, fs_nilCheck, fs_s2ap, fs_len, fs_minmax, fs_s2b, fs_b2s, fs_append, fs_copy, fs_callW, fs_callR, fs_callv, opd_tmp, opd_const, opd_func, opds_nil, opds_cons, opdOpt_none, opdOpt_some, opdParts_nil, opdParts_cons, get_miss, vPick_t, vPick_f, vEq_agg, vEq_aggN, vEq_bool, vEq_boolN, vConv_int, vStr_s, vField_agg, vIndex_agg, vIndexStr_s, vFieldAddr_p, vIndexAddr_p, vIndexSl_s, vSliceArr_p, vSliceSl_s, vSliceSl_n, vSliceStr_s, vExtract_t, vNilCheck_p, vS2ap_s, vLen_s, vLen_str, vMin_i, vMax_i, vLoad_p, vStore_p, baseP_p, vB2s_s, vMake_i, vS2b_s, callee_f, liveAt_eq, storeAt_eq, partL_none, partL_some, natIn_none, natIn_int, bounds3_two, bin_add, bin_sub, bin_mul, bin_quo, bin_rem, bin_and, bin_or, bin_xor, bin_andNot, bin_eql, bin_neq, bin_lss, bin_leq, bin_gtr, bin_geq, bin_shl, bin_shr, bin_sadd, bin_seql, bin_sneq, un_not, un_neg, un_xor, after_some, put_some, put_none, res_nil, res_val, res_var, packed_one, packed_two, merge_nil, merge_ge, rf_tup2, rfIn_int, rfIn_bool, rfIn_u8s, rf_str, rfIn_str, ↓gate_true, gd_bool, gd_ut, gd_uf, ↓guardW_tt, ↓guardW_ff, ↓guardW_tf, ↓guardW_ft, ↓keepW_some, ↓qElseW_some, ↓get_hit, ↓Option.bind_some, ↓if_true, ↓if_false, List.nil_append, List.cons_append, List.all_nil, List.all_cons, List.isEmpty_nil, reduceCtorEq, Bool.false_eq_true, Nat.reduceEqDiff, beq_self_eq_true, bne_self_eq_false, Bool.not_true, Bool.not_false, Int.natCast_nonneg, Nat.lt_irrefl, false_and, Int.reduceEq, rf_int, rf_bool, rf_tuple_ints, rf_u8s, arr_list, toList2, Bool.and_self, Nat.not_lt_zero, Nat.sub_zero, Nat.zero_le, Nat.le_add_right, cells_agg, cells_agg_size, cells_int, cells_int_size, okV_int, okV_bool, okV_str, okV_agg, okV_ptr, okV_slice, okV_func, okV_nilFunc, okV_iface, okV_nilIface, cells_bool, cells_bool_size, cells_ptr, cells_ptr_size, cells_slice, cells_slice_size, cells_str, cells_str_size, eq_self, wrapI64_small, Int.natCast_zero, Int.natCast_one, Int.cast_ofNat_Int, List.length_nil, List.length_cons, List.getElem?_cons_zero, List.getElem?_cons_succ, List.set_cons_zero, List.set_cons_succ, Nat.zero_add, Nat.add_zero, Nat.mul_one, Nat.zero_mul, Int.toNat_natCast, Int.toNat_zero, Int.lt_irrefl, Int.le_refl, Nat.le_refl, and_self, true_and, and_true, decide_true, decide_false, Int.reduceLE, Int.reduceLT, Int.reduceAdd, Int.reduceMul, Int.reduceSub, Int.reduceTDiv, Int.reduceTMod, Int.reduceNeg, Int.reduceToNat, Int.reduceGT, Int.reduceGE, Int.reducePow, Nat.reduceAdd, Nat.reduceMul, Nat.reduceSub, Nat.reduceDiv, Nat.reduceMod, Nat.reducePow, Nat.reduceLT, Nat.reduceLeDiff, Nat.min_self, ge_iff_le, gt_iff_lt, Option.isNone_none, Option.isSome_none, Option.isNone_some, Option.isSome_some, Bool.and_true, Bool.true_and, Bool.and_false, Bool.false_and, not_true_eq_false, not_false_eq_true, or_true, true_or, false_or, or_false, hget0, hgetK, hset0, hsetK, splice_single, splice_whole, take_whole, List.getElem?_nil, List.length_append, List.append_assoc, hz, hp, g0, w1, s0, ho, hx, hq, hm, hy, ht, cq, ca, cy, ct, v1, v3, List.length_replicate, take_all, eV_cells, eV_size, eV_ok, eV_fold, ns_len, lp, lm, lE, la, lx, ly, ly2, lz, rft, rf_eV]
      rfl
    · intro ht'
      rw [fy, ← t2]
      exact of_decide_eq_true ht'
    · intro ht' s hs
      have ht'' := of_decide_eq_false ht'
      rcases eighth_root hs with h1 | h1
      · exact h (by rw [q2, x2, h1])
      · apply ht''
        rw [t2, y2, fe_four, m2, x2, h1, fe_negneg]
end Go.Ev.Ytaceeoghjgggjaa
set_option linter.unusedSimpArgs false
set_option linter.unusedVariables false
namespace Go.Ev.Ytaceeoghjgggjaa
open Go Go.Ev
attribute [local congr] bind_congr2 ite_congr2 qElse_congr gate_congr guardV_congr
set_option maxRecDepth 100000
theorem vEq_key {k l : List Nat} (lk : k.length = 32) (ll : l.length = 32) : vEq (some (List.replicate 32 true)) true (.agg (u8s k).toArray) (.agg (u8s l).toArray) = some (.bool (!(k == l))) := by
  rw [vEq_aggN, cellsEq_u8 lk ll]
  rfl
theorem z48_fill : fillL (ns .u64 zero48) [] = some (ns .u64 zero48) := rfl
theorem nf_val {r : List Nat} (h : num 65536 r < Go.Fp.P) : (nf r).val = num 65536 r := Nat.mod_eq_of_lt h
theorem fe_mul_one (a : Go.Fp.Fe) : a * 1 = a := by grobner
theorem fe_negsq (a : Go.Fp.Fe) : -a * -a = a * a := by grobner
theorem iv_cancel {u v : Go.Fp.Fe} (hv : v ≠ 0) {x : Go.Fp.Fe} (h : x * x = u * Go.Fp.iv v) : v * (x * x) = u := by
  have := Go.Fp.iv_mul hv
  rw [h]
  generalize Go.Fp.iv v = w at *
  clear h hv
  grobner
theorem iv_back {u v : Go.Fp.Fe} (hv : v ≠ 0) {x : Go.Fp.Fe} (h : v * (x * x) = u) : x * x = u * Go.Fp.iv v := by
  have := Go.Fp.iv_mul hv
  rw [← h]
  generalize Go.Fp.iv v = w at *
  clear h hv
  grobner
theorem rdecode_v {k : List Nat} (lk : k.length = 32) (xk : ∀ x ∈ k, x < 256) :
    (∃ l p, evVal T 32 [.agg (u8s k).toArray] = some (decV l 0) ∧ RP l p ∧ enc p = k) ∨ (∃ l, evVal T 32 [.agg (u8s k).toArray] = some (decV l 60) ∧ l.length = 48 ∧ ∀ p, enc p ≠ k) := by
  obtain ⟨w, hw, hw', ht, hm, xm, lm⟩ := key_top lk xk
  have ha : w &&& 127 = w % 128 := Nat.and_two_pow_sub_one_eq_mod w 7
  rw [ha] at hm xm lm
  have hwc := u8s_get hw
  have hset := u8s_set k 31 (w % 128)
  have hrem : (w : Int).tmod 128 = ((w % 128 : Nat) : Int) := rfl
  have hof := rof_v lm xm
  rw [hm] at hof
  rw [Nat.mod_mod] at hof
  have hkey : ∀ p : Go.Cv.Pt Go.Fp.P Go.Fp.d, enc p = k ↔ p.y.val = num 256 k % 2 ^ 255 ∧ p.x.val % 2 = num 256 k / 2 ^ 255 := fun p => by rw [enc_key lk xk, enc_parts]
  rw [← ht] at hkey
  have hVlt : num 256 k % 2 ^ 255 < 2 ^ 255 := Nat.mod_lt _ (by decide)
  have hkm := key_eq lm xm
  rw [hm] at hkm
  generalize k.set 31 (w % 128) = km at *
  generalize num 256 k % 2 ^ 255 = V at *
  have NY := Nm.dig V
  have hYn := nm_dig (v := V) (Nat.lt_trans hVlt (by decide))
  have fy : nf (dig 65536 16 V) = Go.Fp.fp V := by unfold nf; rw [hYn]
  have hby := rbytes_v NY
  rw [fy] at hby
  have lB := dig_len 256 32 (Go.Fp.fp V).val
  have heq := vEq_key lB lm
  have hbk : (dig 256 32 (Go.Fp.fp V).val == km) = decide (V < Go.Fp.P) := by
    rw [hkm, key_inj (Nat.lt_trans (Go.Fp.fp V).isLt (by decide)) (Nat.lt_trans hVlt (by decide))]
    by_cases h : V < Go.Fp.P
    · rw [decide_eq_true h, decide_eq_true (show (Go.Fp.fp V).val = V from Nat.mod_eq_of_lt h)]
    · have : ¬ (Go.Fp.fp V).val = V := fun e => h (by rw [← e]; exact (Go.Fp.fp V).isLt)
      rw [decide_eq_false h, decide_eq_false this]
  rw [hbk] at heq
  have hz := z16_eq
  have lz := z16_len
  have hf := z16_fill
  have hz2 := z48_eq
  have lz2 := z48_len
  have hf2 := z48_fill
  have lY := NY.len
  have hge : decide ((128 : Int) ≤ (w : Int)) = decide (w / 128 = 1) := by
    by_cases h : w / 128 = 1
    · rw [decide_eq_true h, decide_eq_true (by omega)]
    · rw [decide_eq_false h, decide_eq_false (by omega)]
  generalize dig 65536 16 V = Y at *
  generalize dig 256 32 (Go.Fp.fp V).val = BY at *
  clear hbk hkm
  by_cases hV : V < Go.Fp.P
  · rw [decide_eq_true hV] at heq
    have hYv : (Go.Fp.fp V).val = V := Nat.mod_eq_of_lt hV
    have s1 := rsmall_v 1 (by decide)
    have N1 := smallL_nm 1
    have f1 := rone_nf
    have l1 := N1.len
    simp only [Int.natCast_one] at s1
    obtain ⟨yy, hyy, Nyy, fyy⟩ := rmul_v NY NY
    obtain ⟨D, hD, ND, fD⟩ := rd_v
    obtain ⟨uu, huu, Nuu, fuu⟩ := rsub_v Nyy N1
    obtain ⟨dy, hdy, Ndy, fdy⟩ := rmul_v ND Nyy
    obtain ⟨vv, hvv, Nvv, fvv⟩ := radd_v Ndy N1
    obtain ⟨iw, hiw, Niw, fiw⟩ := rinvert_v Nvv
    obtain ⟨aa, haa, Naa, faa⟩ := rmul_v Nuu Niw
    obtain ⟨r, ok, hr, Nr, ltr, hok, hno⟩ := rroot_v Naa
    obtain ⟨nr, hnr, Nnr, fnr⟩ := rneg_v Nr
    have hu : nf uu = Go.Fp.fp V * Go.Fp.fp V - 1 := by rw [fuu, fyy, fy, f1]
    have hv : nf vv = Go.Fp.d * (Go.Fp.fp V * Go.Fp.fp V) + 1 := by rw [fvv, fdy, fD, fyy, fy, f1]
    have hvn : nf vv ≠ 0 := by rw [hv]; exact den_ne _
    have hyp : ∀ p : Go.Cv.Pt Go.Fp.P Go.Fp.d, enc p = k → p.y = Go.Fp.fp V := fun p hp => Fin.ext (by rw [hYv]; exact ((hkey p).1 hp).1)
    have hxx : ∀ p : Go.Cv.Pt Go.Fp.P Go.Fp.d, enc p = k → p.x * p.x = nf aa := fun p hp => by
      have := x_sq p
      rw [hyp p hp] at this
      rw [faa, fiw]
      exact iv_back hvn (by rw [hu, hv]; exact this)
    have rft : ∀ b : Bool, rf (Value.tuple #[eV r, .bool b]) = true := fun b => rf_tup2 (a := eV r) (b := .bool b) (rf_eV r) rfl
    have lyy := Nyy.len
    have lr := Nr.len
    have lnr := Nnr.len
    have hq0 := vEq_eV lr lz
    have hq0' : (r == zero16) = decide (nf r = 0) := by
      by_cases h : nf r = 0
      · have h2 := nf_zero_iff.1 h
        rw [Nat.mod_eq_of_lt ltr] at h2
        have : r = zero16 := Nr.inj zero16_nm (by rw [h2, zero16_num])
        rw [decide_eq_true h, this]; simp
      · have : ¬ r = zero16 := fun e => h (by rw [e]; unfold nf; rw [zero16_num]; rfl)
        rw [decide_eq_false h, beq_eq_false_iff_ne.2 this]
    rw [hq0'] at hq0
    obtain ⟨r0, hr0⟩ : ∃ r0, r[0]? = some r0 := ⟨_, List.getElem?_eq_getElem (by rw [lr]; decide)⟩
    have hr0c := ns_get (k := .u64) hr0
    have hr0v := num_get (B := 65536) (by decide) Nr.lt hr0
    rw [Nat.pow_zero, Nat.div_one] at hr0v
    have hpar : r0 % 2 = (nf r).val % 2 := by rw [nf_val ltr, ← hr0v]; omega
    have hr2 : (r0 : Int).tmod 2 = (((nf r).val % 2 : Nat) : Int) := by rw [← hpar]; rfl
    generalize zero16 = Z at *
    obtain ⟨Z48, hz48⟩ : ∃ Z, zero48 = Z := ⟨_, rfl⟩
    rw [hz48] at hz2 lz2 hf2
    cases ok with
    | false =>
      refine .inr ⟨Z48, ?_, lz2, fun p hp => hno rfl p.x (hxx p hp)⟩
      generalize smallL 1 = S1 at *
      apply evVal_ex
      apply Exists.intro
      rw [evFun_fn (fn := a32) rfl]
      simp only [a32, ↓steps_chunk, envOf, evCode_skip, evCode_exit, evCode_seq, fs_blockS, fs_blockR, fs_blockC, fs_blockK, fs_blockB, evCode_ret, quiet, keep_nil, keep_cons, fs_cond, fs_region, fs_regionQ, quiet2_eq, lastOf_nil, lastOf_cons, List.take_succ_cons, List.take_zero, List.drop_succ_cons, List.drop_zero, Int.reduceBEq, Int.reduceBNe,  fs_nil, fs_guard, fs_move, fs_pick, fs_alloc, fs_box, fs_load, fs_store, fs_bin, fs_eqv, fs_isNil, fs_un, fs_conv, fs_convStr, fs_field, fs_index, fs_indexStr, fs_build, fs_buildSlice, fs_fieldAddr, fs_indexAddr, fs_indexSl, fs_sliceArr, fs_sliceSl, fs_sliceStr, fs_makeSlice, fs_extract, fs_mkIface, fs_mkFunc, fs_nilCheck, fs_s2ap, fs_len, fs_minmax, fs_s2b, fs_b2s, fs_append, fs_copy, fs_callW, fs_callR, fs_callv, opd_tmp, opd_const, opd_func, opds_nil, opds_cons, opdOpt_none, opdOpt_some, opdParts_nil, opdParts_cons, get_miss, vPick_t, vPick_f, vEq_agg, vEq_aggN, vEq_bool, vEq_boolN, vConv_int, vStr_s, vField_agg, vIndex_agg, vIndexStr_s, vFieldAddr_p, vIndexAddr_p, vIndexSl_s, vSliceArr_p, vSliceSl_s, vSliceSl_n, vSliceStr_s, vExtract_t, vNilCheck_p, vS2ap_s, vLen_s, vLen_str, vMin_i, vMax_i, vLoad_p, vStore_p, baseP_p, vB2s_s, vMake_i, vS2b_s, callee_f, liveAt_eq, storeAt_eq, partL_none, partL_some, natIn_none, natIn_int, bounds3_two, bin_add, bin_sub, bin_mul, bin_quo, bin_rem, bin_and, bin_or, bin_xor, bin_andNot, bin_eql, bin_neq, bin_lss, bin_leq, bin_gtr, bin_geq, bin_shl, bin_shr, bin_sadd, bin_seql, bin_sneq, un_not, un_neg, un_xor, after_some, put_some, put_none, res_nil, res_val, res_var, packed_one, packed_two, merge_nil, merge_ge, rf_tup2, rfIn_int, rfIn_bool, rfIn_u8s, rf_str, rfIn_str, ↓gate_true, gd_bool, gd_ut, gd_uf, ↓guardW_tt, ↓guardW_ff, ↓guardW_tf, ↓guardW_ft, ↓keepW_some, ↓qElseW_some, ↓get_hit, ↓Option.bind_some, ↓if_true, ↓if_false, List.nil_append, List.cons_append, List.all_nil, List.all_cons, List.isEmpty_nil, reduceCtorEq, Bool.false_eq_true, Nat.reduceEqDiff, beq_self_eq_true, bne_self_eq_false, Bool.not_true, Bool.not_false, Int.natCast_nonneg, Nat.lt_irrefl, false_and, Int.reduceEq, rf_int, rf_bool, rf_tuple_ints, rf_u8s, arr_list, toList2, Bool.and_self, Nat.not_lt_zero, Nat.sub_zero, Nat.zero_le, Nat.le_add_right, cells_agg, cells_agg_size, cells_int, cells_int_size, okV_int, okV_bool, okV_str, okV_agg, okV_ptr, okV_slice, okV_func, okV_nilFunc, okV_iface, okV_nilIface, cells_bool, cells_bool_size, cells_ptr, cells_ptr_size, cells_slice, cells_slice_size, cells_str, cells_str_size, eq_self, wrapI64_small, Int.natCast_zero, Int.natCast_one, Int.cast_ofNat_Int, List.length_nil, List.length_cons, List.getElem?_cons_zero, List.getElem?_cons_succ, List.set_cons_zero, List.set_cons_succ, Nat.zero_add, Nat.add_zero, Nat.mul_one, Nat.zero_mul, Int.toNat_natCast, Int.toNat_zero, Int.lt_irrefl, Int.le_refl, Nat.le_refl, and_self, true_and, and_true, decide_true, decide_false, Int.reduceLE, Int.reduceLT, Int.reduceAdd, Int.reduceMul, Int.reduceSub, Int.reduceTDiv, Int.reduceTMod, Int.reduceNeg, Int.reduceToNat, Int.reduceGT, Int.reduceGE, Int.reducePow, Nat.reduceAdd, Nat.reduceMul, Nat.reduceSub, Nat.reduceDiv, Nat.reduceMod, Nat.reducePow, Nat.reduceLT, Nat.reduceLeDiff, Nat.min_self, ge_iff_le, gt_iff_lt, Option.isNone_none, Option.isSome_none, Option.isNone_some, Option.isSome_some, Bool.and_true, Bool.true_and, Bool.and_false, Bool.false_and, not_true_eq_false, not_false_eq_true, or_true, true_or, false_or, or_false, hget0, hgetK, hset0, hsetK, splice_single, splice_whole, take_whole, List.getElem?_nil, List.length_append, List.append_assoc, decV, hz, hf, hz2, hf2, hwc, hset, hrem, hge, hof, hby, heq, s1, hyy, hD, huu, hdy, hvv, hiw, haa, hr, List.length_replicate, take_all, eV_cells, eV_size, eV_ok, eV_fold, ns_len, u8s_len, lk, lm, lz, lz2, lY, l1, lyy, lr, lB, rft, rf_eV]
      rfl
    | true =>
      have hroot := hok rfl
      rw [faa, fiw] at hroot
      have hroot1 := iv_cancel hvn hroot
      have h255 : (nf r).val % 2 < 2 := Nat.mod_lt _ (by decide)
      have hbq : ((((nf r).val % 2 : Nat) : Int) == 1) = decide ((nf r).val % 2 = 1) := by
        by_cases h : (nf r).val % 2 = 1
        · rw [h]; rfl
        · rw [show (nf r).val % 2 = 0 by omega]; rfl
      have bft : (false == true) = false := rfl
      have btf : (true == false) = false := rfl
      have fin : ∀ X : List Nat, Nm X → nf X * nf X = nf r * nf r → (nf X).val % 2 = w / 128 → ∃ p, RP (tL X Y (smallL 1)) p ∧ enc p = k := fun X NX hX hp =>
        ⟨⟨nf X, Go.Fp.fp V, on_of hu hv (by rw [hX]; exact hroot1)⟩, ⟨X, Y, _, rfl, NX, NY, N1, by rw [f1]; exact Go.Fp.one_ne, by rw [f1]; exact (fe_mul_one _).symm, by rw [f1, fy]; exact (fe_mul_one _).symm⟩, (hkey _).2 ⟨hYv, hp⟩⟩
      have hfr := fillT lr lY l1
      have hfn := fillT lnr lY l1
      have lTr := tL_len lr lY l1
      have lTn := tL_len lnr lY l1
      rw [hz48] at hfr hfn
      have hneg : nf nr * nf nr = nf r * nf r := by rw [fnr]; exact fe_negsq _
      have hnpar : nf r ≠ 0 → (nf nr).val % 2 ≠ (nf r).val % 2 := fun h => by rw [fnr]; exact par_neg h
      have hnl := Nat.mod_lt (nf nr).val (by decide : 0 < 2)
      have hw2 : w / 128 < 2 := by omega
      by_cases hb : w / 128 = 1
      · rw [decide_eq_true hb] at hge
        by_cases h0 : nf r = 0
        · rw [decide_eq_true h0] at hq0
          refine .inr ⟨Z48, ?_, lz2, fun p hp => ?_⟩
          · generalize smallL 1 = S1 at *
            apply evVal_ex
            apply Exists.intro
            rw [evFun_fn (fn := a32) rfl]
            simp only [a32, ↓steps_chunk, envOf, evCode_skip, evCode_exit, evCode_seq, fs_blockS, fs_blockR, fs_blockC, fs_blockK, fs_blockB, evCode_ret, quiet, keep_nil, keep_cons, fs_cond, fs_region, fs_regionQ, quiet2_eq, lastOf_nil, lastOf_cons, List.take_succ_cons, List.take_zero, List.drop_succ_cons, List.drop_zero, Int.reduceBEq, Int.reduceBNe,  fs_nil, fs_guard, fs_move, fs_pick, fs_alloc, fs_box, fs_load, fs_store, fs_bin, fs_eqv, fs_isNil, fs_un, fs_conv, fs_convStr, fs_field, fs_index, fs_indexStr, fs_build, fs_buildSlice, fs_fieldAddr, fs_indexAddr, fs_indexSl, fs_sliceArr, fs_sliceSl, fs_sliceStr, fs_makeSlice, fs_extract, fs_mkIface, fs_mkFunc, fs_nilCheck, fs_s2ap, fs_len, fs_minmax, fs_s2b, fs_b2s, fs_append, fs_copy, fs_callW, fs_callR, fs_callv, opd_tmp, opd_const, opd_func, opds_nil, opds_cons, opdOpt_none, opdOpt_some, opdParts_nil, opdParts_cons, get_miss, vPick_t, vPick_f, vEq_agg, vEq_aggN, vEq_bool, vEq_boolN, vConv_int, vStr_s, vField_agg, vIndex_agg, vIndexStr_s, vFieldAddr_p, vIndexAddr_p, vIndexSl_s, vSliceArr_p, vSliceSl_s, vSliceSl_n, vSliceStr_s, vExtract_t, vNilCheck_p, vS2ap_s, vLen_s, vLen_str, vMin_i, vMax_i, vLoad_p, vStore_p, baseP_p, vB2s_s, vMake_i, vS2b_s, callee_f, liveAt_eq, storeAt_eq, partL_none, partL_some, natIn_none, natIn_int, bounds3_two, bin_add, bin_sub, bin_mul, bin_quo, bin_rem, bin_and, bin_or, bin_xor, bin_andNot, bin_eql, bin_neq, bin_lss, bin_leq, bin_gtr, bin_geq, bin_shl, bin_shr, bin_sadd, bin_seql, bin_sneq, un_not, un_neg, un_xor, after_some, put_some, put_none, res_nil, res_val, res_var, packed_one, packed_two, merge_nil, merge_ge, rf_tup2, rfIn_int, rfIn_bool, rfIn_u8s, rf_str, rfIn_str, ↓gate_true, gd_bool, gd_ut, gd_uf, ↓guardW_tt, ↓guardW_ff, ↓guardW_tf, ↓guardW_ft, ↓keepW_some, ↓qElseW_some, ↓get_hit, ↓Option.bind_some, ↓if_true, ↓if_false, List.nil_append, List.cons_append, List.all_nil, List.all_cons, List.isEmpty_nil, reduceCtorEq, Bool.false_eq_true, Nat.reduceEqDiff, beq_self_eq_true, bne_self_eq_false, Bool.not_true, Bool.not_false, Int.natCast_nonneg, Nat.lt_irrefl, false_and, Int.reduceEq, rf_int, rf_bool, rf_tuple_ints, rf_u8s, arr_list, toList2, Bool.and_self, Nat.not_lt_zero, Nat.sub_zero, Nat.zero_le, Nat.le_add_right, cells_agg, cells_agg_size, cells_int, cells_int_size, okV_int, okV_bool, okV_str, okV_agg, okV_ptr, okV_slice, okV_func, okV_nilFunc, okV_iface, okV_nilIface, cells_bool, cells_bool_size, cells_ptr, cells_ptr_size, cells_slice, cells_slice_size, cells_str, cells_str_size, eq_self, wrapI64_small, Int.natCast_zero, Int.natCast_one, Int.cast_ofNat_Int, List.length_nil, List.length_cons, List.getElem?_cons_zero, List.getElem?_cons_succ, List.set_cons_zero, List.set_cons_succ, Nat.zero_add, Nat.add_zero, Nat.mul_one, Nat.zero_mul, Int.toNat_natCast, Int.toNat_zero, Int.lt_irrefl, Int.le_refl, Nat.le_refl, and_self, true_and, and_true, decide_true, decide_false, Int.reduceLE, Int.reduceLT, Int.reduceAdd, Int.reduceMul, Int.reduceSub, Int.reduceTDiv, Int.reduceTMod, Int.reduceNeg, Int.reduceToNat, Int.reduceGT, Int.reduceGE, Int.reducePow, Nat.reduceAdd, Nat.reduceMul, Nat.reduceSub, Nat.reduceDiv, Nat.reduceMod, Nat.reducePow, Nat.reduceLT, Nat.reduceLeDiff, Nat.min_self, ge_iff_le, gt_iff_lt, Option.isNone_none, Option.isSome_none, Option.isNone_some, Option.isSome_some, Bool.and_true, Bool.true_and, Bool.and_false, Bool.false_and, not_true_eq_false, not_false_eq_true, or_true, true_or, false_or, or_false, hget0, hgetK, hset0, hsetK, splice_single, splice_whole, take_whole, List.getElem?_nil, List.length_append, List.append_assoc, decV, hz, hf, hz2, hf2, hwc, hset, hrem, hge, hof, hby, heq, s1, hyy, hD, huu, hdy, hvv, hiw, haa, hr, hq0,  List.length_replicate, take_all, eV_cells, eV_size, eV_ok, eV_fold, ns_len, u8s_len, lk, lm, lz, lz2, lY, l1, lyy, lr, lnr, lB,  rft, rf_eV]
            rfl
          · have h2 := ((hkey p).1 hp).2
            have h3 := hxx p hp
            rw [faa, fiw, ← hroot, h0] at h3
            rcases sq_eq h3 with h5 | h5
            · rw [h5, hb] at h2; exact absurd h2 (by decide)
            · rw [h5, hb] at h2; exact absurd h2 (by decide)
        · rw [decide_eq_false h0] at hq0
          by_cases hp1 : (nf r).val % 2 = 1
          · rw [decide_eq_true hp1] at hbq
            obtain ⟨p, rp, he⟩ := fin r Nr rfl (by rw [hb]; exact hp1)
            refine .inl ⟨_, p, ?_, rp, he⟩
            generalize tL r Y (smallL 1) = R at *
            generalize smallL 1 = S1 at *
            apply evVal_ex
            apply Exists.intro
            rw [evFun_fn (fn := a32) rfl]
            simp only [a32, ↓steps_chunk, envOf, evCode_skip, evCode_exit, evCode_seq, fs_blockS, fs_blockR, fs_blockC, fs_blockK, fs_blockB, evCode_ret, quiet, keep_nil, keep_cons, fs_cond, fs_region, fs_regionQ, quiet2_eq, lastOf_nil, lastOf_cons, List.take_succ_cons, List.take_zero, List.drop_succ_cons, List.drop_zero, Int.reduceBEq, Int.reduceBNe,  fs_nil, fs_guard, fs_move, fs_pick, fs_alloc, fs_box, fs_load, fs_store, fs_bin, fs_eqv, fs_isNil, fs_un, fs_conv, fs_convStr, fs_field, fs_index, fs_indexStr, fs_build, fs_buildSlice, fs_fieldAddr, fs_indexAddr, fs_indexSl, fs_sliceArr, fs_sliceSl, fs_sliceStr, fs_makeSlice, fs_extract, fs_mkIface, fs_mkFunc, fs_nilCheck, fs_s2ap, fs_len, fs_minmax, fs_s2b, fs_b2s, fs_append, fs_copy, fs_callW, fs_callR, fs_callv, opd_tmp, opd_const, opd_func, opds_nil, opds_cons, opdOpt_none, opdOpt_some, opdParts_nil, opdParts_cons, get_miss, vPick_t, vPick_f, vEq_agg, vEq_aggN, vEq_bool, vEq_boolN, vConv_int, vStr_s, vField_agg, vIndex_agg, vIndexStr_s, vFieldAddr_p, vIndexAddr_p, vIndexSl_s, vSliceArr_p, vSliceSl_s, vSliceSl_n, vSliceStr_s, vExtract_t, vNilCheck_p, vS2ap_s, vLen_s, vLen_str, vMin_i, vMax_i, vLoad_p, vStore_p, baseP_p, vB2s_s, vMake_i, vS2b_s, callee_f, liveAt_eq, storeAt_eq, partL_none, partL_some, natIn_none, natIn_int, bounds3_two, bin_add, bin_sub, bin_mul, bin_quo, bin_rem, bin_and, bin_or, bin_xor, bin_andNot, bin_eql, bin_neq, bin_lss, bin_leq, bin_gtr, bin_geq, bin_shl, bin_shr, bin_sadd, bin_seql, bin_sneq, un_not, un_neg, un_xor, after_some, put_some, put_none, res_nil, res_val, res_var, packed_one, packed_two, merge_nil, merge_ge, rf_tup2, rfIn_int, rfIn_bool, rfIn_u8s, rf_str, rfIn_str, ↓gate_true, gd_bool, gd_ut, gd_uf, ↓guardW_tt, ↓guardW_ff, ↓guardW_tf, ↓guardW_ft, ↓keepW_some, ↓qElseW_some, ↓get_hit, ↓Option.bind_some, ↓if_true, ↓if_false, List.nil_append, List.cons_append, List.all_nil, List.all_cons, List.isEmpty_nil, reduceCtorEq, Bool.false_eq_true, Nat.reduceEqDiff, beq_self_eq_true, bne_self_eq_false, Bool.not_true, Bool.not_false, Int.natCast_nonneg, Nat.lt_irrefl, false_and, Int.reduceEq, rf_int, rf_bool, rf_tuple_ints, rf_u8s, arr_list, toList2, Bool.and_self, Nat.not_lt_zero, Nat.sub_zero, Nat.zero_le, Nat.le_add_right, cells_agg, cells_agg_size, cells_int, cells_int_size, okV_int, okV_bool, okV_str, okV_agg, okV_ptr, okV_slice, okV_func, okV_nilFunc, okV_iface, okV_nilIface, cells_bool, cells_bool_size, cells_ptr, cells_ptr_size, cells_slice, cells_slice_size, cells_str, cells_str_size, eq_self, wrapI64_small, Int.natCast_zero, Int.natCast_one, Int.cast_ofNat_Int, List.length_nil, List.length_cons, List.getElem?_cons_zero, List.getElem?_cons_succ, List.set_cons_zero, List.set_cons_succ, Nat.zero_add, Nat.add_zero, Nat.mul_one, Nat.zero_mul, Int.toNat_natCast, Int.toNat_zero, Int.lt_irrefl, Int.le_refl, Nat.le_refl, and_self, true_and, and_true, decide_true, decide_false, Int.reduceLE, Int.reduceLT, Int.reduceAdd, Int.reduceMul, Int.reduceSub, Int.reduceTDiv, Int.reduceTMod, Int.reduceNeg, Int.reduceToNat, Int.reduceGT, Int.reduceGE, Int.reducePow, Nat.reduceAdd, Nat.reduceMul, Nat.reduceSub, Nat.reduceDiv, Nat.reduceMod, Nat.reducePow, Nat.reduceLT, Nat.reduceLeDiff, Nat.min_self, ge_iff_le, gt_iff_lt, Option.isNone_none, Option.isSome_none, Option.isNone_some, Option.isSome_some, Bool.and_true, Bool.true_and, Bool.and_false, Bool.false_and, not_true_eq_false, not_false_eq_true, or_true, true_or, false_or, or_false, hget0, hgetK, hset0, hsetK, splice_single, splice_whole, take_whole, List.getElem?_nil, List.length_append, List.append_assoc, decV, hz, hf, hz2, hf2, hwc, hset, hrem, hge, hof, hby, heq, s1, hyy, hD, huu, hdy, hvv, hiw, haa, hr, hq0, bft, btf, hr0c, hr2, hbq, hfr, List.length_replicate, take_all, eV_cells, eV_size, eV_ok, eV_fold, ns_len, u8s_len, lk, lm, lz, lz2, lY, l1, lyy, lr, lnr, lB, lTr, rft, rf_eV]
            rfl
          · rw [decide_eq_false hp1] at hbq
            obtain ⟨p, rp, he⟩ := fin nr Nnr hneg (by have := hnpar h0; omega)
            refine .inl ⟨_, p, ?_, rp, he⟩
            generalize tL nr Y (smallL 1) = R at *
            generalize smallL 1 = S1 at *
            apply evVal_ex
            apply Exists.intro
            rw [evFun_fn (fn := a32) rfl]
            simp only [a32, ↓steps_chunk, envOf, evCode_skip, evCode_exit, evCode_seq, fs_blockS, fs_blockR, fs_blockC, fs_blockK, fs_blockB, evCode_ret, quiet, keep_nil, keep_cons, fs_cond, fs_region, fs_regionQ, quiet2_eq, lastOf_nil, lastOf_cons, List.take_succ_cons, List.take_zero, List.drop_succ_cons, List.drop_zero, Int.reduceBEq, Int.reduceBNe,  fs_nil, fs_guard, fs_move, fs_pick, fs_alloc, fs_box, fs_load, fs_store, fs_bin, fs_eqv, fs_isNil, fs_un, fs_conv, fs_convStr, fs_field, fs_index, fs_indexStr, fs_build, fs_buildSlice, fs_fieldAddr, fs_indexAddr, fs_indexSl, fs_sliceArr, fs_sliceSl, fs_sliceStr, fs_makeSlice, fs_extract, fs_mkIface, fs_mkFunc, fs_nilCheck, fs_s2ap, fs_len, fs_minmax, fs_s2b, fs_b2s, fs_append, fs_copy, fs_callW, fs_callR, fs_callv, opd_tmp, opd_const, opd_func, opds_nil, opds_cons, opdOpt_none, opdOpt_some, opdParts_nil, opdParts_cons, get_miss, vPick_t, vPick_f, vEq_agg, vEq_aggN, vEq_bool, vEq_boolN, vConv_int, vStr_s, vField_agg, vIndex_agg, vIndexStr_s, vFieldAddr_p, vIndexAddr_p, vIndexSl_s, vSliceArr_p, vSliceSl_s, vSliceSl_n, vSliceStr_s, vExtract_t, vNilCheck_p, vS2ap_s, vLen_s, vLen_str, vMin_i, vMax_i, vLoad_p, vStore_p, baseP_p, vB2s_s, vMake_i, vS2b_s, callee_f, liveAt_eq, storeAt_eq, partL_none, partL_some, natIn_none, natIn_int, bounds3_two, bin_add, bin_sub, bin_mul, bin_quo, bin_rem, bin_and, bin_or, bin_xor, bin_andNot, bin_eql, bin_neq, bin_lss, bin_leq, bin_gtr, bin_geq, bin_shl, bin_shr, bin_sadd, bin_seql, bin_sneq, un_not, un_neg, un_xor, after_some, put_some, put_none, res_nil, res_val, res_var, packed_one, packed_two, merge_nil, merge_ge, rf_tup2, rfIn_int, rfIn_bool, rfIn_u8s, rf_str, rfIn_str, ↓gate_true, gd_bool, gd_ut, gd_uf, ↓guardW_tt, ↓guardW_ff, ↓guardW_tf, ↓guardW_ft, ↓keepW_some, ↓qElseW_some, ↓get_hit, ↓Option.bind_some, ↓if_true, ↓if_false, List.nil_append, List.cons_append, List.all_nil, List.all_cons, List.isEmpty_nil, reduceCtorEq, Bool.false_eq_true, Nat.reduceEqDiff, beq_self_eq_true, bne_self_eq_false, Bool.not_true, Bool.not_false, Int.natCast_nonneg, Nat.lt_irrefl, false_and, Int.reduceEq, rf_int, rf_bool, rf_tuple_ints, rf_u8s, arr_list, toList2, Bool.and_self, Nat.not_lt_zero, Nat.sub_zero, Nat.zero_le, Nat.le_add_right, cells_agg, cells_agg_size, cells_int, cells_int_size, okV_int, okV_bool, okV_str, okV_agg, okV_ptr, okV_slice, okV_func, okV_nilFunc, okV_iface, okV_nilIface, cells_bool, cells_bool_size, cells_ptr, cells_ptr_size, cells_slice, cells_slice_size, cells_str, cells_str_size, eq_self, wrapI64_small, Int.natCast_zero, Int.natCast_one, Int.cast_ofNat_Int, List.length_nil, List.length_cons, List.getElem?_cons_zero, List.getElem?_cons_succ, List.set_cons_zero, List.set_cons_succ, Nat.zero_add, Nat.add_zero, Nat.mul_one, Nat.zero_mul, Int.toNat_natCast, Int.toNat_zero, Int.lt_irrefl, Int.le_refl, Nat.le_refl, and_self, true_and, and_true, decide_true, decide_false, Int.reduceLE, Int.reduceLT, Int.reduceAdd, Int.reduceMul, Int.reduceSub, Int.reduceTDiv, Int.reduceTMod, Int.reduceNeg, Int.reduceToNat, Int.reduceGT, Int.reduceGE, Int.reducePow, Nat.reduceAdd, Nat.reduceMul, Nat.reduceSub, Nat.reduceDiv, Nat.reduceMod, Nat.reducePow, Nat.reduceLT, Nat.reduceLeDiff, Nat.min_self, ge_iff_le, gt_iff_lt, Option.isNone_none, Option.isSome_none, Option.isNone_some, Option.isSome_some, Bool.and_true, Bool.true_and, Bool.and_false, Bool.false_and, not_true_eq_false, not_false_eq_true, or_true, true_or, false_or, or_false, hget0, hgetK, hset0, hsetK, splice_single, splice_whole, take_whole, List.getElem?_nil, List.length_append, List.append_assoc, decV, hz, hf, hz2, hf2, hwc, hset, hrem, hge, hof, hby, heq, s1, hyy, hD, huu, hdy, hvv, hiw, haa, hr, hq0, bft, btf, hr0c, hr2, hbq, hnr, hfn, List.length_replicate, take_all, eV_cells, eV_size, eV_ok, eV_fold, ns_len, u8s_len, lk, lm, lz, lz2, lY, l1, lyy, lr, lnr, lB, lTn, rft, rf_eV]
            rfl
      · rw [decide_eq_false hb] at hge
        by_cases hp1 : (nf r).val % 2 = 1
        · rw [decide_eq_true hp1] at hbq
          have h0 : nf r ≠ 0 := fun h => by rw [h] at hp1; exact absurd hp1 (by decide)
          rw [decide_eq_false h0] at hq0
          obtain ⟨p, rp, he⟩ := fin nr Nnr hneg (by have := hnpar h0; omega)
          refine .inl ⟨_, p, ?_, rp, he⟩
          generalize tL nr Y (smallL 1) = R at *
          generalize smallL 1 = S1 at *
          apply evVal_ex
          apply Exists.intro
          rw [evFun_fn (fn := a32) rfl]
          simp only [a32, ↓steps_chunk, envOf, evCode_skip, evCode_exit, evCode_seq, fs_blockS, fs_blockR, fs_blockC, fs_blockK, fs_blockB, evCode_ret, quiet, keep_nil, keep_cons, fs_cond, fs_region, fs_regionQ, quiet2_eq, lastOf_nil, lastOf_cons, List.take_succ_cons, List.take_zero, List.drop_succ_cons, List.drop_zero, Int.reduceBEq, Int.reduceBNe,  fs_nil, fs_guard, fs_move, fs_pick, fs_alloc, fs_box, fs_load, fs_store, fs_bin, fs_eqv, fs_isNil, fs_un, fs_conv, fs_convStr, fs_field, fs_index, fs_indexStr, fs_build, fs_buildSlice, fs_fieldAddr, fs_indexAddr, fs_indexSl, fs_sliceArr, fs_sliceSl, fs_sliceStr, fs_makeSlice, fs_extract, fs_mkIface, fs_mkFunc, fs_nilCheck, fs_s2ap, fs_len, fs_minmax, fs_s2b, fs_b2s, fs_append, fs_copy, fs_callW, fs_callR, fs_callv, opd_tmp, opd_const, opd_func, opds_nil, opds_cons, opdOpt_none, opdOpt_some, opdParts_nil, opdParts_cons, get_miss, vPick_t, vPick_f, vEq_agg, vEq_aggN, vEq_bool, vEq_boolN, vConv_int, vStr_s, vField_agg, vIndex_agg, vIndexStr_s, vFieldAddr_p, vIndexAddr_p, vIndexSl_s, vSliceArr_p, vSliceSl_s, vSliceSl_n, vSliceStr_s, vExtract_t, vNilCheck_p, vS2ap_s, vLen_s, vLen_str, vMin_i, vMax_i, vLoad_p, vStore_p, baseP_p, vB2s_s, vMake_i, vS2b_s, callee_f, liveAt_eq, storeAt_eq, partL_none, partL_some, natIn_none, natIn_int, bounds3_two, bin_add, bin_sub, bin_mul, bin_quo, bin_rem, bin_and, bin_or, bin_xor, bin_andNot, bin_eql, bin_neq, bin_lss, bin_leq, bin_gtr, bin_geq, bin_shl, bin_shr, bin_sadd, bin_seql, bin_sneq, un_not, un_neg, un_xor, after_some, put_some, put_none, res_nil, res_val, res_var, packed_one, packed_two, merge_nil, merge_ge, rf_tup2, rfIn_int, rfIn_bool, rfIn_u8s, rf_str, rfIn_str, ↓gate_true, gd_bool, gd_ut, gd_uf, ↓guardW_tt, ↓guardW_ff, ↓guardW_tf, ↓guardW_ft, ↓keepW_some, ↓qElseW_some, ↓get_hit, ↓Option.bind_some, ↓if_true, ↓if_false, List.nil_append, List.cons_append, List.all_nil, List.all_cons, List.isEmpty_nil, reduceCtorEq, Bool.false_eq_true, Nat.reduceEqDiff, beq_self_eq_true, bne_self_eq_false, Bool.not_true, Bool.not_false, Int.natCast_nonneg, Nat.lt_irrefl, false_and, Int.reduceEq, rf_int, rf_bool, rf_tuple_ints, rf_u8s, arr_list, toList2, Bool.and_self, Nat.not_lt_zero, Nat.sub_zero, Nat.zero_le, Nat.le_add_right, cells_agg, cells_agg_size, cells_int, cells_int_size, okV_int, okV_bool, okV_str, okV_agg, okV_ptr, okV_slice, okV_func, okV_nilFunc, okV_iface, okV_nilIface, cells_bool, cells_bool_size, cells_ptr, cells_ptr_size, cells_slice, cells_slice_size, cells_str, cells_str_size, eq_self, wrapI64_small, Int.natCast_zero, Int.natCast_one, Int.cast_ofNat_Int, List.length_nil, List.length_cons, List.getElem?_cons_zero, List.getElem?_cons_succ, List.set_cons_zero, List.set_cons_succ, Nat.zero_add, Nat.add_zero, Nat.mul_one, Nat.zero_mul, Int.toNat_natCast, Int.toNat_zero, Int.lt_irrefl, Int.le_refl, Nat.le_refl, and_self, true_and, and_true, decide_true, decide_false, Int.reduceLE, Int.reduceLT, Int.reduceAdd, Int.reduceMul, Int.reduceSub, Int.reduceTDiv, Int.reduceTMod, Int.reduceNeg, Int.reduceToNat, Int.reduceGT, Int.reduceGE, Int.reducePow, Nat.reduceAdd, Nat.reduceMul, Nat.reduceSub, Nat.reduceDiv, Nat.reduceMod, Nat.reducePow, Nat.reduceLT, Nat.reduceLeDiff, Nat.min_self, ge_iff_le, gt_iff_lt, Option.isNone_none, Option.isSome_none, Option.isNone_some, Option.isSome_some, Bool.and_true, Bool.true_and, Bool.and_false, Bool.false_and, not_true_eq_false, not_false_eq_true, or_true, true_or, false_or, or_false, hget0, hgetK, hset0, hsetK, splice_single, splice_whole, take_whole, List.getElem?_nil, List.length_append, List.append_assoc, decV, hz, hf, hz2, hf2, hwc, hset, hrem, hge, hof, hby, heq, s1, hyy, hD, huu, hdy, hvv, hiw, haa, hr, hq0, bft, btf, hr0c, hr2, hbq, hnr, hfn, List.length_replicate, take_all, eV_cells, eV_size, eV_ok, eV_fold, ns_len, u8s_len, lk, lm, lz, lz2, lY, l1, lyy, lr, lnr, lB, lTn, rft, rf_eV]
          rfl
        · rw [decide_eq_false hp1] at hbq
          obtain ⟨p, rp, he⟩ := fin r Nr rfl (by omega)
          refine .inl ⟨_, p, ?_, rp, he⟩
          generalize tL r Y (smallL 1) = R at *
          generalize decide (nf r = 0) = zq at *
          cases zq with
          | false =>
            generalize smallL 1 = S1 at *
            apply evVal_ex
            apply Exists.intro
            rw [evFun_fn (fn := a32) rfl]
            simp only [a32, ↓steps_chunk, envOf, evCode_skip, evCode_exit, evCode_seq, fs_blockS, fs_blockR, fs_blockC, fs_blockK, fs_blockB, evCode_ret, quiet, keep_nil, keep_cons, fs_cond, fs_region, fs_regionQ, quiet2_eq, lastOf_nil, lastOf_cons, List.take_succ_cons, List.take_zero, List.drop_succ_cons, List.drop_zero, Int.reduceBEq, Int.reduceBNe,  fs_nil, fs_guard, fs_move, fs_pick, fs_alloc, fs_box, fs_load, fs_store, fs_bin, fs_eqv, fs_isNil, fs_un, fs_conv, fs_convStr, fs_field, fs_index, fs_indexStr, fs_build, fs_buildSlice, fs_fieldAddr, fs_indexAddr, fs_indexSl, fs_sliceArr, fs_sliceSl, fs_sliceStr, fs_makeSlice, fs_extract, fs_mkIface, fs_mkFunc, fs_nilCheck, fs_s2ap, fs_len, fs_minmax, fs_s2b, fs_b2s, fs_append, fs_copy, fs_callW, fs_callR, fs_callv, opd_tmp, opd_const, opd_func, opds_nil, opds_cons, opdOpt_none, opdOpt_some, opdParts_nil, opdParts_cons, get_miss, vPick_t, vPick_f, vEq_agg, vEq_aggN, vEq_bool, vEq_boolN, vConv_int, vStr_s, vField_agg, vIndex_agg, vIndexStr_s, vFieldAddr_p, vIndexAddr_p, vIndexSl_s, vSliceArr_p, vSliceSl_s, vSliceSl_n, vSliceStr_s, vExtract_t, vNilCheck_p, vS2ap_s, vLen_s, vLen_str, vMin_i, vMax_i, vLoad_p, vStore_p, baseP_p, vB2s_s, vMake_i, vS2b_s, callee_f, liveAt_eq, storeAt_eq, partL_none, partL_some, natIn_none, natIn_int, bounds3_two, bin_add, bin_sub, bin_mul, bin_quo, bin_rem, bin_and, bin_or, bin_xor, bin_andNot, bin_eql, bin_neq, bin_lss, bin_leq, bin_gtr, bin_geq, bin_shl, bin_shr, bin_sadd, bin_seql, bin_sneq, un_not, un_neg, un_xor, after_some, put_some, put_none, res_nil, res_val, res_var, packed_one, packed_two, merge_nil, merge_ge, rf_tup2, rfIn_int, rfIn_bool, rfIn_u8s, rf_str, rfIn_str, ↓gate_true, gd_bool, gd_ut, gd_uf, ↓guardW_tt, ↓guardW_ff, ↓guardW_tf, ↓guardW_ft, ↓keepW_some, ↓qElseW_some, ↓get_hit, ↓Option.bind_some, ↓if_true, ↓if_false, List.nil_append, List.cons_append, List.all_nil, List.all_cons, List.isEmpty_nil, reduceCtorEq, Bool.false_eq_true, Nat.reduceEqDiff, beq_self_eq_true, bne_self_eq_false, Bool.not_true, Bool.not_false, Int.natCast_nonneg, Nat.lt_irrefl, false_and, Int.reduceEq, rf_int, rf_bool, rf_tuple_ints, rf_u8s, arr_list, toList2, Bool.and_self, Nat.not_lt_zero, Nat.sub_zero, Nat.zero_le, Nat.le_add_right, cells_agg, cells_agg_size, cells_int, cells_int_size, okV_int, okV_bool, okV_str, okV_agg, okV_ptr, okV_slice, okV_func, okV_nilFunc, okV_iface, okV_nilIface, cells_bool, cells_bool_size, cells_ptr, cells_ptr_size, cells_slice, cells_slice_size, cells_str, cells_str_size, eq_self, wrapI64_small, Int.natCast_zero, Int.natCast_one, Int.cast_ofNat_Int, List.length_nil, List.length_cons, List.getElem?_cons_zero, List.getElem?_cons_succ, List.set_cons_zero, List.set_cons_succ, Nat.zero_add, Nat.add_zero, Nat.mul_one, Nat.zero_mul, Int.toNat_natCast, Int.toNat_zero, Int.lt_irrefl, Int.le_refl, Nat.le_refl, and_self, true_and, and_true, decide_true, decide_false, Int.reduceLE, Int.reduceLT, Int.reduceAdd, Int.reduceMul, Int.reduceSub, Int.reduceTDiv, Int.reduceTMod, Int.reduceNeg, Int.reduceToNat, Int.reduceGT, Int.reduceGE, Int.reducePow, Nat.reduceAdd, Nat.reduceMul, Nat.reduceSub, Nat.reduceDiv, Nat.reduceMod, Nat.reducePow, Nat.reduceLT, Nat.reduceLeDiff, Nat.min_self, ge_iff_le, gt_iff_lt, Option.isNone_none, Option.isSome_none, Option.isNone_some, Option.isSome_some, Bool.and_true, Bool.true_and, Bool.and_false, Bool.false_and, not_true_eq_false, not_false_eq_true, or_true, true_or, false_or, or_false, hget0, hgetK, hset0, hsetK, splice_single, splice_whole, take_whole, List.getElem?_nil, List.length_append, List.append_assoc, decV, hz, hf, hz2, hf2, hwc, hset, hrem, hge, hof, hby, heq, s1, hyy, hD, huu, hdy, hvv, hiw, haa, hr, hq0, bft, btf, hr0c, hr2, hbq, hfr, List.length_replicate, take_all, eV_cells, eV_size, eV_ok, eV_fold, ns_len, u8s_len, lk, lm, lz, lz2, lY, l1, lyy, lr, lnr, lB, lTr, rft, rf_eV]
            rfl
          | true =>
            generalize smallL 1 = S1 at *
            apply evVal_ex
            apply Exists.intro
            rw [evFun_fn (fn := a32) rfl]
            simp only [a32, ↓steps_chunk, envOf, evCode_skip, evCode_exit, evCode_seq, fs_blockS, fs_blockR, fs_blockC, fs_blockK, fs_blockB, evCode_ret, quiet, keep_nil, keep_cons, fs_cond, fs_region, fs_regionQ, quiet2_eq, lastOf_nil, lastOf_cons, List.take_succ_cons, List.take_zero, List.drop_succ_cons, List.drop_zero, Int.reduceBEq, Int.reduceBNe,  fs_nil, fs_guard, fs_move, fs_pick, fs_alloc, fs_box, fs_load, fs_store, fs_bin, fs_eqv, fs_isNil, fs_un, fs_conv, fs_convStr, fs_field, fs_index, fs_indexStr, fs_build, fs_buildSlice, fs_fieldAddr, fs_indexAddr, fs_indexSl, fs_sliceArr, fs_sliceSl, fs_sliceStr, fs_makeSlice, fs_extract, fs_mkIface, fs_mkFunc, fs_nilCheck, fs_s2ap, fs_len, fs_minmax, fs_s2b, fs_b2s, fs_append, fs_copy, fs_callW, fs_callR, fs_callv, opd_tmp, opd_const, opd_func, opds_nil, opds_cons, opdOpt_none, opdOpt_some, opdParts_nil, opdParts_cons, get_miss, vPick_t, vPick_f, vEq_agg, vEq_aggN, vEq_bool, vEq_boolN, vConv_int, vStr_s, vField_agg, vIndex_agg, vIndexStr_s, vFieldAddr_p, vIndexAddr_p, vIndexSl_s, vSliceArr_p, vSliceSl_s, vSliceSl_n, vSliceStr_s, vExtract_t, vNilCheck_p, vS2ap_s, vLen_s, vLen_str, vMin_i, vMax_i, vLoad_p, vStore_p, baseP_p, vB2s_s, vMake_i, vS2b_s, callee_f, liveAt_eq, storeAt_eq, partL_none, partL_some, natIn_none, natIn_int, bounds3_two, bin_add, bin_sub, bin_mul, bin_quo, bin_rem, bin_and, bin_or, bin_xor, bin_andNot, bin_eql, bin_neq, bin_lss, bin_leq, bin_gtr, bin_geq, bin_shl, bin_shr, bin_sadd, bin_seql, bin_sneq, un_not, un_neg, un_xor, after_some, put_some, put_none, res_nil, res_val, res_var, packed_one, packed_two, merge_nil, merge_ge, rf_tup2, rfIn_int, rfIn_bool, rfIn_u8s, rf_str, rfIn_str, ↓gate_true, gd_bool, gd_ut, gd_uf, ↓guardW_tt, ↓guardW_ff, ↓guardW_tf, ↓guardW_ft, ↓keepW_some, ↓qElseW_some, ↓get_hit, ↓Option.bind_some, ↓if_true, ↓if_false, List.nil_append, List.cons_append, List.all_nil, List.all_cons, List.isEmpty_nil, reduceCtorEq, Bool.false_eq_true, Nat.reduceEqDiff, beq_self_eq_true, bne_self_eq_false, Bool.not_true, Bool.not_false, Int.natCast_nonneg, Nat.lt_irrefl, false_and, Int.reduceEq, rf_int, rf_bool, rf_tuple_ints, rf_u8s, arr_list, toList2, Bool.and_self, Nat.not_lt_zero, Nat.sub_zero, Nat.zero_le, Nat.le_add_right, cells_agg, cells_agg_size, cells_int, cells_int_size, okV_int, okV_bool, okV_str, okV_agg, okV_ptr, okV_slice, okV_func, okV_nilFunc, okV_iface, okV_nilIface, cells_bool, cells_bool_size, cells_ptr, cells_ptr_size, cells_slice, cells_slice_size, cells_str, cells_str_size, eq_self, wrapI64_small, Int.natCast_zero, Int.natCast_one, Int.cast_ofNat_Int, List.length_nil, List.length_cons, List.getElem?_cons_zero, List.getElem?_cons_succ, List.set_cons_zero, List.set_cons_succ, Nat.zero_add, Nat.add_zero, Nat.mul_one, Nat.zero_mul, Int.toNat_natCast, Int.toNat_zero, Int.lt_irrefl, Int.le_refl, Nat.le_refl, and_self, true_and, and_true, decide_true, decide_false, Int.reduceLE, Int.reduceLT, Int.reduceAdd, Int.reduceMul, Int.reduceSub, Int.reduceTDiv, Int.reduceTMod, Int.reduceNeg, Int.reduceToNat, Int.reduceGT, Int.reduceGE, Int.reducePow, Nat.reduceAdd, Nat.reduceMul, Nat.reduceSub, Nat.reduceDiv, Nat.reduceMod, Nat.reducePow, Nat.reduceLT, Nat.reduceLeDiff, Nat.min_self, ge_iff_le, gt_iff_lt, Option.isNone_none, Option.isSome_none, Option.isNone_some, Option.isSome_some, Bool.and_true, Bool.true_and, Bool.and_false, Bool.false_and, not_true_eq_false, not_false_eq_true, or_true, true_or, false_or, or_false, hget0, hgetK, hset0, hsetK, splice_single, splice_whole, take_whole, List.getElem?_nil, List.length_append, List.append_assoc, decV, hz, hf, hz2, hf2, hwc, hset, hrem, hge, hof, hby, heq, s1, hyy, hD, huu, hdy, hvv, hiw, haa, hr, hq0, bft, btf, hr0c, hr2, hbq, hfr, List.length_replicate, take_all, eV_cells, eV_size, eV_ok, eV_fold, ns_len, u8s_len, lk, lm, lz, lz2, lY, l1, lyy, lr, lnr, lB, lTr, rft, rf_eV]
            rfl
  · rw [decide_eq_false hV] at heq
    generalize zero16 = Z at *
    generalize zero48 = Z48 at *
    refine .inr ⟨Z48, ?_, lz2, fun p hp => hV ?_⟩
    · apply evVal_ex
      apply Exists.intro
      rw [evFun_fn (fn := a32) rfl]
      simp only [a32, ↓steps_chunk, envOf, evCode_skip, evCode_exit, evCode_seq, fs_blockS, fs_blockR, fs_blockC, fs_blockK, fs_blockB, evCode_ret, quiet, keep_nil, keep_cons, fs_cond, fs_region, fs_regionQ, quiet2_eq, lastOf_nil, lastOf_cons, List.take_succ_cons, List.take_zero, List.drop_succ_cons, List.drop_zero, Int.reduceBEq, Int.reduceBNe,  fs_nil, fs_guard, fs_move, fs_pick, fs_alloc, fs_box, fs_load, fs_store, fs_bin, fs_eqv, fs_isNil, fs_un, fs_conv, fs_convStr, fs_field, fs_index, fs_indexStr, fs_build, fs_buildSlice, fs_fieldAddr, fs_indexAddr, fs_indexSl, fs_sliceArr, fs_sliceSl, fs_sliceStr, fs_makeSlice, fs_extract, fs_mkIface, fs_mkFunc, fs_nilCheck, fs_s2ap, fs_len, fs_minmax, fs_s2b, fs_b2s, fs_append, fs_copy, fs_callW, fs_callR, fs_callv, opd_tmp, opd_const, opd_func, opds_nil, opds_cons, opdOpt_none, opdOpt_some, opdParts_nil, opdParts_cons, get_miss, vPick_t, vPick_f, vEq_agg, vEq_aggN, vEq_bool, vEq_boolN, vConv_int, vStr_s, vField_agg, vIndex_agg, vIndexStr_s, vFieldAddr_p, vIndexAddr_p, vIndexSl_s, vSliceArr_p, vSliceSl_s, vSliceSl_n, vSliceStr_s, vExtract_t, vNilCheck_p, vS2ap_s, vLen_s, vLen_str, vMin_i, vMax_i, vLoad_p, vStore_p, baseP_p, vB2s_s, vMake_i, vS2b_s, callee_f, liveAt_eq, storeAt_eq, partL_none, partL_some, natIn_none, natIn_int, bounds3_two, bin_add, bin_sub, bin_mul, bin_quo, bin_rem, bin_and, bin_or, bin_xor, bin_andNot, bin_eql, bin_neq, bin_lss, bin_leq, bin_gtr, bin_geq, bin_shl, bin_shr, bin_sadd, bin_seql, bin_sneq, un_not, un_neg, un_xor, after_some, put_some, put_none, res_nil, res_val, res_var, packed_one, packed_two, merge_nil, merge_ge, rf_tup2, rfIn_int, rfIn_bool, rfIn_u8s, rf_str, rfIn_str, ↓gate_true, gd_bool, gd_ut, gd_uf, ↓guardW_tt, ↓guardW_ff, ↓guardW_tf, ↓guardW_ft, ↓keepW_some, ↓qElseW_some, ↓get_hit, ↓Option.bind_some, ↓if_true, ↓if_false, List.nil_append, List.cons_append, List.all_nil, List.all_cons, List.isEmpty_nil, reduceCtorEq, Bool.false_eq_true, Nat.reduceEqDiff, beq_self_eq_true, bne_self_eq_false, Bool.not_true, Bool.not_false, Int.natCast_nonneg, Nat.lt_irrefl, false_and, Int.reduceEq, rf_int, rf_bool, rf_tuple_ints, rf_u8s, arr_list, toList2, Bool.and_self, Nat.not_lt_zero, Nat.sub_zero, Nat.zero_le, Nat.le_add_right, cells_agg, cells_agg_size, cells_int, cells_int_size, okV_int, okV_bool, okV_str, okV_agg, okV_ptr, okV_slice, okV_func, okV_nilFunc, okV_iface, okV_nilIface, cells_bool, cells_bool_size, cells_ptr, cells_ptr_size, cells_slice, cells_slice_size, cells_str, cells_str_size, eq_self, wrapI64_small, Int.natCast_zero, Int.natCast_one, Int.cast_ofNat_Int, List.length_nil, List.length_cons, List.getElem?_cons_zero, List.getElem?_cons_succ, List.set_cons_zero, List.set_cons_succ, Nat.zero_add, Nat.add_zero, Nat.mul_one, Nat.zero_mul, Int.toNat_natCast, Int.toNat_zero, Int.lt_irrefl, Int.le_refl, Nat.le_refl, and_self, true_and, and_true, decide_true, decide_false, Int.reduceLE, Int.reduceLT, Int.reduceAdd, Int.reduceMul, Int.reduceSub, Int.reduceTDiv, Int.reduceTMod, Int.reduceNeg, Int.reduceToNat, Int.reduceGT, Int.reduceGE, Int.reducePow, Nat.reduceAdd, Nat.reduceMul, Nat.reduceSub, Nat.reduceDiv, Nat.reduceMod, Nat.reducePow, Nat.reduceLT, Nat.reduceLeDiff, Nat.min_self, ge_iff_le, gt_iff_lt, Option.isNone_none, Option.isSome_none, Option.isNone_some, Option.isSome_some, Bool.and_true, Bool.true_and, Bool.and_false, Bool.false_and, not_true_eq_false, not_false_eq_true, or_true, true_or, false_or, or_false, hget0, hgetK, hset0, hsetK, splice_single, splice_whole, take_whole, List.getElem?_nil, List.length_append, List.append_assoc, decV, hz, hf, hz2, hf2, hwc, hset, hrem, hge, hof, hby, heq, List.length_replicate, take_all, eV_cells, eV_size, eV_ok, eV_fold, ns_len, u8s_len, lk, lm, lz, lz2, lY, lB, rf_eV]
      rfl
    · rw [← ((hkey p).1 hp).1]; exact p.y.isLt
theorem base_y : Go.Fp.fp 4 * Go.Fp.iv (Go.Fp.fp 5) = Go.Fp.fp byN := by
  have h0 : Go.Fp.fp 5 ≠ 0 := by decide +kernel
  have h1 := Go.Fp.iv_mul h0
  have h2 : Go.Fp.fp 5 * Go.Fp.fp byN = Go.Fp.fp 4 := by decide +kernel
  refine Go.Fp.fld.cancel h0 ?_
  rw [h2]
  generalize Go.Fp.iv (Go.Fp.fp 5) = y at *
  generalize Go.Fp.fp 5 = x at *
  generalize Go.Fp.fp 4 = z at *
  clear h0 h2
  grobner
theorem enc_base2 : enc pbase = dig 256 32 (Go.Fp.fp byN).val := by decide +kernel
theorem enc_inj {p q : Go.Cv.Pt Go.Fp.P Go.Fp.d} (h : enc p = enc q) : p = q := by
  have := enc_beq p q
  rw [h] at this
  simp at this
  exact this
theorem rbase_v : ∃ r, evVal T 37 [] = some (eV r) ∧ RP r pbase := by
  have s4 := rsmall_v 4 (by decide)
  have s5 := rsmall_v 5 (by decide)
  obtain ⟨v, hv, v1, v2⟩ := rinvert_v (smallL_nm 5)
  obtain ⟨m, hm, m1, m2⟩ := rmul_v (smallL_nm 4) v1
  have e4 : nf (smallL 4) = Go.Fp.fp 4 := by unfold nf; rw [smallL_num (by decide)]
  have e5 : nf (smallL 5) = Go.Fp.fp 5 := by unfold nf; rw [smallL_num (by decide)]
  rw [v2, e4, e5, base_y] at m2
  have hb := rbytes_v m1
  rw [m2, ← enc_base2] at hb
  have hl := enc_len pbase
  rcases rdecode_v (enc_len pbase) (enc_lt pbase) with ⟨l, p, hd, rp, he⟩ | ⟨l, hd, ll, hno⟩
  · have hpp := enc_inj he
    rw [hpp] at rp
    refine ⟨l, ?_, rp⟩
    have lr := rp.len
    have hz2 := z48_eq
    have lz2 := z48_len
    have rft : ∀ (r : List Nat) (c : Int), rf (Value.tuple #[eV r, .int .i64 c]) = true := fun r c => rf_tup2 (a := eV r) (b := .int .i64 c) (rf_eV r) rfl
    simp only [Int.cast_ofNat_Int] at s4 s5
    unfold decV at hd
    generalize enc pbase = K at *
    generalize smallL 4 = S4 at *
    generalize smallL 5 = S5 at *
    generalize zero48 = Z48 at *
    apply evVal_ex
    apply Exists.intro
    rw [evFun_fn (fn := a37) rfl]
    simp only [a37, ↓steps_chunk, envOf, evCode_skip, evCode_exit, evCode_seq, fs_blockS, fs_blockR, fs_blockC, fs_blockK, fs_blockB, evCode_ret, quiet, keep_nil, keep_cons, fs_cond, fs_region, fs_regionQ, quiet2_eq, lastOf_nil, lastOf_cons, List.take_succ_cons, List.take_zero, List.drop_succ_cons, List.drop_zero, Int.reduceBEq, Int.reduceBNe,  fs_nil, fs_guard, fs_move, fs_pick, fs_alloc, fs_box, fs_load, fs_store, fs_bin, fs_eqv, fs_isNil, fs_un, fs_conv, fs_convStr, fs_field, fs_index, fs_indexStr, fs_build, fs_buildSlice, fs_fieldAddr, fs_indexAddr, fs_indexSl, fs_sliceArr, fs_sliceSl, fs_sliceStr, fs_makeSlice, fs_extract, fs_mkIface, fs_mkFunc, fs_nilCheck, fs_s2ap, fs_len, fs_minmax, fs_s2b, fs_b2s, fs_append, fs_copy, fs_callW, fs_callR, fs_callv, opd_tmp, opd_const, opd_func, opds_nil, opds_cons, opdOpt_none, opdOpt_some, opdParts_nil, opdParts_cons, get_miss, vPick_t, vPick_f, vEq_agg, vEq_aggN, vEq_bool, vEq_boolN, vConv_int, vStr_s, vField_agg, vIndex_agg, vIndexStr_s, vFieldAddr_p, vIndexAddr_p, vIndexSl_s, vSliceArr_p, vSliceSl_s, vSliceSl_n, vSliceStr_s, vExtract_t, vNilCheck_p, vS2ap_s, vLen_s, vLen_str, vMin_i, vMax_i, vLoad_p, vStore_p, baseP_p, vB2s_s, vMake_i, vS2b_s, callee_f, liveAt_eq, storeAt_eq, partL_none, partL_some, natIn_none, natIn_int, bounds3_two, bin_add, bin_sub, bin_mul, bin_quo, bin_rem, bin_and, bin_or, bin_xor, bin_andNot, bin_eql, bin_neq, bin_lss, bin_leq, bin_gtr, bin_geq, bin_shl, bin_shr, bin_sadd, bin_seql, bin_sneq, un_not, un_neg, un_xor, after_some, put_some, put_none, res_nil, res_val, res_var, packed_one, packed_two, merge_nil, merge_ge, rf_tup2, rfIn_int, rfIn_bool, rfIn_u8s, rf_str, rfIn_str, ↓gate_true, gd_bool, gd_ut, gd_uf, ↓guardW_tt, ↓guardW_ff, ↓guardW_tf, ↓guardW_ft, ↓keepW_some, ↓qElseW_some, ↓get_hit, ↓Option.bind_some, ↓if_true, ↓if_false, List.nil_append, List.cons_append, List.all_nil, List.all_cons, List.isEmpty_nil, reduceCtorEq, Bool.false_eq_true, Nat.reduceEqDiff, beq_self_eq_true, bne_self_eq_false, Bool.not_true, Bool.not_false, Int.natCast_nonneg, Nat.lt_irrefl, false_and, Int.reduceEq, rf_int, rf_bool, rf_tuple_ints, rf_u8s, arr_list, toList2, Bool.and_self, Nat.not_lt_zero, Nat.sub_zero, Nat.zero_le, Nat.le_add_right, cells_agg, cells_agg_size, cells_int, cells_int_size, okV_int, okV_bool, okV_str, okV_agg, okV_ptr, okV_slice, okV_func, okV_nilFunc, okV_iface, okV_nilIface, cells_bool, cells_bool_size, cells_ptr, cells_ptr_size, cells_slice, cells_slice_size, cells_str, cells_str_size, eq_self, wrapI64_small, Int.natCast_zero, Int.natCast_one, Int.cast_ofNat_Int, List.length_nil, List.length_cons, List.getElem?_cons_zero, List.getElem?_cons_succ, List.set_cons_zero, List.set_cons_succ, Nat.zero_add, Nat.add_zero, Nat.mul_one, Nat.zero_mul, Int.toNat_natCast, Int.toNat_zero, Int.lt_irrefl, Int.le_refl, Nat.le_refl, and_self, true_and, and_true, decide_true, decide_false, Int.reduceLE, Int.reduceLT, Int.reduceAdd, Int.reduceMul, Int.reduceSub, Int.reduceTDiv, Int.reduceTMod, Int.reduceNeg, Int.reduceToNat, Int.reduceGT, Int.reduceGE, Int.reducePow, Nat.reduceAdd, Nat.reduceMul, Nat.reduceSub, Nat.reduceDiv, Nat.reduceMod, Nat.reducePow, Nat.reduceLT, Nat.reduceLeDiff, Nat.min_self, ge_iff_le, gt_iff_lt, Option.isNone_none, Option.isSome_none, Option.isNone_some, Option.isSome_some, Bool.and_true, Bool.true_and, Bool.and_false, Bool.false_and, not_true_eq_false, not_false_eq_true, or_true, true_or, false_or, or_false, hget0, hgetK, hset0, hsetK, splice_single, splice_whole, take_whole, List.getElem?_nil, List.length_append, List.append_assoc, hz2, s4, s5, hv, hm, hb, hd, List.length_replicate, take_all, eV_cells, eV_size, eV_ok, eV_fold, ns_len, u8s_len, lr, lz2, hl, rft, rf_eV]
    rfl
  · exact absurd rfl (hno pbase)
end Go.Ev.Ytaceeoghjgggjaa
set_option linter.unusedSimpArgs false
set_option linter.unusedVariables false
namespace Go.Ev.Ytaceeoghjgggjaa
open Go Go.Ev
attribute [local congr] bind_congr2 ite_congr2 qElse_congr gate_congr guardV_congr
set_option maxRecDepth 100000
theorem vEq_keyT {k l : List Nat} (lk : k.length = 32) (ll : l.length = 32) : vEq (some (List.replicate 32 true)) false (.agg (u8s k).toArray) (.agg (u8s l).toArray) = some (.bool (k == l)) := by
  rw [vEq_agg, cellsEq_u8 lk ll]
  rfl
theorem ptimes_ev {ka kb : List Nat} (la : ka.length = 32) (xa : ∀ x ∈ ka, x < 256) (lb : kb.length = 32) (xb : ∀ x ∈ kb, x < 256) : ∃ l, evFun T 12 [.agg (u8s ka).toArray, .agg (u8s kb).toArray] [] = some (.bool true, l, []) := by
  have hbased := based_v
  have hz20 : ∃ O, List.replicate 20 (Value.int .u64 0) = ns .u64 O ∧ O.length = 20 := ⟨List.replicate 20 0, rfl, rfl⟩
  obtain ⟨O, hz20, l0⟩ := hz20
  have hz2 := z48_eq
  have lz2 := z48_len
  have rft : ∀ (r : List Nat) (c : Int), rf (Value.tuple #[eV r, .int .i64 c]) = true := fun r c => rf_tup2 (a := eV r) (b := .int .i64 c) (rf_eV r) rfl
  generalize zero48 = Z48 at *
  rcases decode_v la xa with ⟨l, p, hD, rp, he⟩ | ⟨l, hD, ll, hno⟩
  · rcases rdecode_v la xa with ⟨m, q, hD2, rq, he2⟩ | ⟨m, hD2, lm, hno⟩
    · have hpq := enc_inj (he.trans he2.symm)
      subst hpq
      obtain ⟨M1, hM1, rM1⟩ := multiply_v rp lb xb
      obtain ⟨M2, hM2, rM2⟩ := rmultiply_v rq lb xb
      have hE := encode_v rM1
      have hE2 := rencode_v rM2
      have hq := vEq_keyT (enc_len (pmul (num 256 kb) p)) (enc_len (pmul (num 256 kb) p))
      rw [beq_self_eq_true] at hq
      have p1 := rp.len
      have p2 := rq.len
      unfold decV at hD hD2
      apply Exists.intro
      rw [evFun_fn (fn := a12) rfl]
      simp only [a12, ↓steps_chunk, envOf, evCode_skip, evCode_exit, evCode_seq, fs_blockS, fs_blockR, fs_blockC, fs_blockK, fs_blockB, evCode_ret, quiet, keep_nil, keep_cons, fs_cond, fs_region, fs_regionQ, quiet2_eq, lastOf_nil, lastOf_cons, List.take_succ_cons, List.take_zero, List.drop_succ_cons, List.drop_zero, Int.reduceBEq, Int.reduceBNe,  fs_nil, fs_guard, fs_move, fs_pick, fs_alloc, fs_box, fs_load, fs_store, fs_bin, fs_eqv, fs_isNil, fs_un, fs_conv, fs_convStr, fs_field, fs_index, fs_indexStr, fs_build, fs_buildSlice, fs_fieldAddr, fs_indexAddr, fs_indexSl, fs_sliceArr, fs_sliceSl, fs_sliceStr, fs_makeSlice, fs_extract, fs_mkIface, fs_mkFunc, fs_nilCheck, fs_s2ap, fs_len, fs_minmax, fs_s2b, fs_b2s, fs_append, fs_copy, fs_callW, fs_callR, fs_callv, opd_tmp, opd_const, opd_func, opds_nil, opds_cons, opdOpt_none, opdOpt_some, opdParts_nil, opdParts_cons, get_miss, vPick_t, vPick_f, vEq_agg, vEq_aggN, vEq_bool, vEq_boolN, vConv_int, vStr_s, vField_agg, vIndex_agg, vIndexStr_s, vFieldAddr_p, vIndexAddr_p, vIndexSl_s, vSliceArr_p, vSliceSl_s, vSliceSl_n, vSliceStr_s, vExtract_t, vNilCheck_p, vS2ap_s, vLen_s, vLen_str, vMin_i, vMax_i, vLoad_p, vStore_p, baseP_p, vB2s_s, vMake_i, vS2b_s, callee_f, liveAt_eq, storeAt_eq, partL_none, partL_some, natIn_none, natIn_int, bounds3_two, bin_add, bin_sub, bin_mul, bin_quo, bin_rem, bin_and, bin_or, bin_xor, bin_andNot, bin_eql, bin_neq, bin_lss, bin_leq, bin_gtr, bin_geq, bin_shl, bin_shr, bin_sadd, bin_seql, bin_sneq, un_not, un_neg, un_xor, after_some, put_some, put_none, res_nil, res_val, res_var, packed_one, packed_two, merge_nil, merge_ge, rf_tup2, rfIn_int, rfIn_bool, rfIn_u8s, rf_str, rfIn_str, ↓gate_true, gd_bool, gd_ut, gd_uf, ↓guardW_tt, ↓guardW_ff, ↓guardW_tf, ↓guardW_ft, ↓keepW_some, ↓qElseW_some, ↓get_hit, ↓Option.bind_some, ↓if_true, ↓if_false, List.nil_append, List.cons_append, List.all_nil, List.all_cons, List.isEmpty_nil, reduceCtorEq, Bool.false_eq_true, Nat.reduceEqDiff, beq_self_eq_true, bne_self_eq_false, Bool.not_true, Bool.not_false, Int.natCast_nonneg, Nat.lt_irrefl, false_and, Int.reduceEq, rf_int, rf_bool, rf_tuple_ints, rf_u8s, arr_list, toList2, Bool.and_self, Nat.not_lt_zero, Nat.sub_zero, Nat.zero_le, Nat.le_add_right, cells_agg, cells_agg_size, cells_int, cells_int_size, okV_int, okV_bool, okV_str, okV_agg, okV_ptr, okV_slice, okV_func, okV_nilFunc, okV_iface, okV_nilIface, cells_bool, cells_bool_size, cells_ptr, cells_ptr_size, cells_slice, cells_slice_size, cells_str, cells_str_size, eq_self, wrapI64_small, Int.natCast_zero, Int.natCast_one, Int.cast_ofNat_Int, List.length_nil, List.length_cons, List.getElem?_cons_zero, List.getElem?_cons_succ, List.set_cons_zero, List.set_cons_succ, Nat.zero_add, Nat.add_zero, Nat.mul_one, Nat.zero_mul, Int.toNat_natCast, Int.toNat_zero, Int.lt_irrefl, Int.le_refl, Nat.le_refl, and_self, true_and, and_true, decide_true, decide_false, Int.reduceLE, Int.reduceLT, Int.reduceAdd, Int.reduceMul, Int.reduceSub, Int.reduceTDiv, Int.reduceTMod, Int.reduceNeg, Int.reduceToNat, Int.reduceGT, Int.reduceGE, Int.reducePow, Nat.reduceAdd, Nat.reduceMul, Nat.reduceSub, Nat.reduceDiv, Nat.reduceMod, Nat.reducePow, Nat.reduceLT, Nat.reduceLeDiff, Nat.min_self, ge_iff_le, gt_iff_lt, Option.isNone_none, Option.isSome_none, Option.isNone_some, Option.isSome_some, Bool.and_true, Bool.true_and, Bool.and_false, Bool.false_and, not_true_eq_false, not_false_eq_true, or_true, true_or, false_or, or_false, hget0, hgetK, hset0, hsetK, splice_single, splice_whole, take_whole, List.getElem?_nil, List.length_append, List.append_assoc, hbased, hD, hD2, hM1, hM2, hE, hE2, hq, hz20, hz2, List.length_replicate, take_all, eV_cells, eV_size, eV_ok, eV_fold, ns_len, u8s_len, la, lb, l0, lz2, p1, p2, rft, rf_eV]
      rfl
    · exact absurd he (hno p)
  · rcases rdecode_v la xa with ⟨m, q, hD2, rq, he2⟩ | ⟨m, hD2, lm, -⟩
    · exact absurd he2 (hno q)
    · obtain ⟨B, hB, rB⟩ := base_v
      obtain ⟨B2, hB2, rB2⟩ := rbase_v
      obtain ⟨M1, hM1, rM1⟩ := multiply_v rB lb xb
      obtain ⟨M2, hM2, rM2⟩ := rmultiply_v rB2 lb xb
      have hE := encode_v rM1
      have hE2 := rencode_v rM2
      have hq := vEq_keyT (enc_len (pmul (num 256 kb) pbase)) (enc_len (pmul (num 256 kb) pbase))
      rw [beq_self_eq_true] at hq
      have p1 := rB.len
      have p2 := rB2.len
      unfold decV at hD hD2
      apply Exists.intro
      rw [evFun_fn (fn := a12) rfl]
      simp only [a12, ↓steps_chunk, envOf, evCode_skip, evCode_exit, evCode_seq, fs_blockS, fs_blockR, fs_blockC, fs_blockK, fs_blockB, evCode_ret, quiet, keep_nil, keep_cons, fs_cond, fs_region, fs_regionQ, quiet2_eq, lastOf_nil, lastOf_cons, List.take_succ_cons, List.take_zero, List.drop_succ_cons, List.drop_zero, Int.reduceBEq, Int.reduceBNe,  fs_nil, fs_guard, fs_move, fs_pick, fs_alloc, fs_box, fs_load, fs_store, fs_bin, fs_eqv, fs_isNil, fs_un, fs_conv, fs_convStr, fs_field, fs_index, fs_indexStr, fs_build, fs_buildSlice, fs_fieldAddr, fs_indexAddr, fs_indexSl, fs_sliceArr, fs_sliceSl, fs_sliceStr, fs_makeSlice, fs_extract, fs_mkIface, fs_mkFunc, fs_nilCheck, fs_s2ap, fs_len, fs_minmax, fs_s2b, fs_b2s, fs_append, fs_copy, fs_callW, fs_callR, fs_callv, opd_tmp, opd_const, opd_func, opds_nil, opds_cons, opdOpt_none, opdOpt_some, opdParts_nil, opdParts_cons, get_miss, vPick_t, vPick_f, vEq_agg, vEq_aggN, vEq_bool, vEq_boolN, vConv_int, vStr_s, vField_agg, vIndex_agg, vIndexStr_s, vFieldAddr_p, vIndexAddr_p, vIndexSl_s, vSliceArr_p, vSliceSl_s, vSliceSl_n, vSliceStr_s, vExtract_t, vNilCheck_p, vS2ap_s, vLen_s, vLen_str, vMin_i, vMax_i, vLoad_p, vStore_p, baseP_p, vB2s_s, vMake_i, vS2b_s, callee_f, liveAt_eq, storeAt_eq, partL_none, partL_some, natIn_none, natIn_int, bounds3_two, bin_add, bin_sub, bin_mul, bin_quo, bin_rem, bin_and, bin_or, bin_xor, bin_andNot, bin_eql, bin_neq, bin_lss, bin_leq, bin_gtr, bin_geq, bin_shl, bin_shr, bin_sadd, bin_seql, bin_sneq, un_not, un_neg, un_xor, after_some, put_some, put_none, res_nil, res_val, res_var, packed_one, packed_two, merge_nil, merge_ge, rf_tup2, rfIn_int, rfIn_bool, rfIn_u8s, rf_str, rfIn_str, ↓gate_true, gd_bool, gd_ut, gd_uf, ↓guardW_tt, ↓guardW_ff, ↓guardW_tf, ↓guardW_ft, ↓keepW_some, ↓qElseW_some, ↓get_hit, ↓Option.bind_some, ↓if_true, ↓if_false, List.nil_append, List.cons_append, List.all_nil, List.all_cons, List.isEmpty_nil, reduceCtorEq, Bool.false_eq_true, Nat.reduceEqDiff, beq_self_eq_true, bne_self_eq_false, Bool.not_true, Bool.not_false, Int.natCast_nonneg, Nat.lt_irrefl, false_and, Int.reduceEq, rf_int, rf_bool, rf_tuple_ints, rf_u8s, arr_list, toList2, Bool.and_self, Nat.not_lt_zero, Nat.sub_zero, Nat.zero_le, Nat.le_add_right, cells_agg, cells_agg_size, cells_int, cells_int_size, okV_int, okV_bool, okV_str, okV_agg, okV_ptr, okV_slice, okV_func, okV_nilFunc, okV_iface, okV_nilIface, cells_bool, cells_bool_size, cells_ptr, cells_ptr_size, cells_slice, cells_slice_size, cells_str, cells_str_size, eq_self, wrapI64_small, Int.natCast_zero, Int.natCast_one, Int.cast_ofNat_Int, List.length_nil, List.length_cons, List.getElem?_cons_zero, List.getElem?_cons_succ, List.set_cons_zero, List.set_cons_succ, Nat.zero_add, Nat.add_zero, Nat.mul_one, Nat.zero_mul, Int.toNat_natCast, Int.toNat_zero, Int.lt_irrefl, Int.le_refl, Nat.le_refl, and_self, true_and, and_true, decide_true, decide_false, Int.reduceLE, Int.reduceLT, Int.reduceAdd, Int.reduceMul, Int.reduceSub, Int.reduceTDiv, Int.reduceTMod, Int.reduceNeg, Int.reduceToNat, Int.reduceGT, Int.reduceGE, Int.reducePow, Nat.reduceAdd, Nat.reduceMul, Nat.reduceSub, Nat.reduceDiv, Nat.reduceMod, Nat.reducePow, Nat.reduceLT, Nat.reduceLeDiff, Nat.min_self, ge_iff_le, gt_iff_lt, Option.isNone_none, Option.isSome_none, Option.isNone_some, Option.isSome_some, Bool.and_true, Bool.true_and, Bool.and_false, Bool.false_and, not_true_eq_false, not_false_eq_true, or_true, true_or, false_or, or_false, hget0, hgetK, hset0, hsetK, splice_single, splice_whole, take_whole, List.getElem?_nil, List.length_append, List.append_assoc, hbased, hD, hD2, hB, hB2, hM1, hM2, hE, hE2, hq, hz20, hz2, List.length_replicate, take_all, eV_cells, eV_size, eV_ok, eV_fold, ns_len, u8s_len, la, lb, l0, lz2, ll, lm, p1, p2, rft, rf_eV]
      rfl
end Go.Ev.Ytaceeoghjgggjaa

/-
  field: Sub, Neg, Add, Product.
-/
import Derived.Test.YtaceeoghjgggjaaFW5
set_option linter.unusedSimpArgs false
set_option linter.unusedVariables false
namespace Go.Ev.Ytaceeoghjgggjaa
open Go Go.Ev
attribute [local congr] bind_congr2 ite_congr2 qElse_congr gate_congr guardV_congr
set_option maxRecDepth 100000

theorem carL_el {x0 x1 x2 x3 x4 : Nat} (h0 : x0 < 2 ^ 60) (h1 : x1 < 2 ^ 60) (h2 : x2 < 2 ^ 60) (h3 : x3 < 2 ^ 60) (h4 : x4 < 2 ^ 60) : El (carL x0 x1 x2 x3 x4) (2 ^ 52) := by
  simp only [carL]
  have c0 : x0 / 2251799813685248 < 1024 := by omega
  have c1 : (x1 + x0 / 2251799813685248) / 2251799813685248 < 1024 := by omega
  have c2 : (x2 + (x1 + x0 / 2251799813685248) / 2251799813685248) / 2251799813685248 < 1024 := by omega
  have c3 : (x3 + (x2 + (x1 + x0 / 2251799813685248) / 2251799813685248) / 2251799813685248) / 2251799813685248 < 1024 := by omega
  have c4 : (x4 + (x3 + (x2 + (x1 + x0 / 2251799813685248) / 2251799813685248) / 2251799813685248) / 2251799813685248) / 2251799813685248 < 1024 := by omega
  have m0 := Nat.mod_lt x0 (by decide : 0 < 2251799813685248)
  apply El.mk5
  · generalize (x4 + (x3 + (x2 + (x1 + x0 / 2251799813685248) / 2251799813685248) / 2251799813685248) / 2251799813685248) / 2251799813685248 = c at *
    omega
  all_goals exact Nat.lt_trans (Nat.mod_lt _ (by decide)) (by decide)
theorem carL_fe {x0 x1 x2 x3 x4 : Nat} : fe (carL x0 x1 x2 x3 x4) = fe [x0, x1, x2, x3, x4] := by
  obtain ⟨k, hk⟩ := carL_val (x0 := x0) (x1 := x1) (x2 := x2) (x3 := x3) (x4 := x4)
  exact fe_of hk

theorem sub_v {x y : List Nat} (hx : El x (2 ^ 52)) (hy : El y (2 ^ 52)) : ∃ r, evVal T 61 [eV x, eV y] = some (eV r) ∧ El r (2 ^ 52) ∧ fe r = fe x - fe y := by
  obtain ⟨x0, x1, x2, x3, x4, rfl, a0, a1, a2, a3, a4⟩ := hx.five
  obtain ⟨y0, y1, y2, y3, y4, rfl, b0, b1, b2, b3, b4⟩ := hy.five
  refine ⟨carL (x0 + (9007199254740988 - y0) - 72) (x1 + (9007199254740988 - y1)) (x2 + (9007199254740988 - y2)) (x3 + (9007199254740988 - y3)) (x4 + (9007199254740988 - y4)), ?_, carL_el (by omega) (by omega) (by omega) (by omega) (by omega), ?_⟩
  · have s0 : (9007199254740988 + (18446744073709551616 - y0 % 18446744073709551616)) % 18446744073709551616 = 9007199254740988 - y0 := by omega
    have s1 : (9007199254740988 + (18446744073709551616 - y1 % 18446744073709551616)) % 18446744073709551616 = 9007199254740988 - y1 := by omega
    have s2 : (9007199254740988 + (18446744073709551616 - y2 % 18446744073709551616)) % 18446744073709551616 = 9007199254740988 - y2 := by omega
    have s3 : (9007199254740988 + (18446744073709551616 - y3 % 18446744073709551616)) % 18446744073709551616 = 9007199254740988 - y3 := by omega
    have s4 : (9007199254740988 + (18446744073709551616 - y4 % 18446744073709551616)) % 18446744073709551616 = 9007199254740988 - y4 := by omega
    have t0 : (x0 + (9007199254740988 - y0)) % 18446744073709551616 = x0 + (9007199254740988 - y0) := by omega
    have t1 : (x1 + (9007199254740988 - y1)) % 18446744073709551616 = x1 + (9007199254740988 - y1) := by omega
    have t2 : (x2 + (9007199254740988 - y2)) % 18446744073709551616 = x2 + (9007199254740988 - y2) := by omega
    have t3 : (x3 + (9007199254740988 - y3)) % 18446744073709551616 = x3 + (9007199254740988 - y3) := by omega
    have t4 : (x4 + (9007199254740988 - y4)) % 18446744073709551616 = x4 + (9007199254740988 - y4) := by omega
    have r0 : (x0 + (9007199254740988 - y0) + 18446744073709551544) % 18446744073709551616 = x0 + (9007199254740988 - y0) - 72 := by omega
    have c1 := carried_v (x0 := x0 + (9007199254740988 - y0) - 72) (x1 := x1 + (9007199254740988 - y1)) (x2 := x2 + (9007199254740988 - y2)) (x3 := x3 + (9007199254740988 - y3)) (x4 := x4 + (9007199254740988 - y4)) (by omega) (by omega) (by omega) (by omega) (by omega)
    have hl : (carL (x0 + (9007199254740988 - y0) - 72) (x1 + (9007199254740988 - y1)) (x2 + (9007199254740988 - y2)) (x3 + (9007199254740988 - y3)) (x4 + (9007199254740988 - y4))).length = 5 := rfl
    generalize carL (x0 + (9007199254740988 - y0) - 72) (x1 + (9007199254740988 - y1)) (x2 + (9007199254740988 - y2)) (x3 + (9007199254740988 - y3)) (x4 + (9007199254740988 - y4)) = C at *
    have hz5 : List.replicate 5 (Value.int .u64 0) = [.int .u64 0, .int .u64 0, .int .u64 0, .int .u64 0, .int .u64 0] := rfl
    have hr5 : ∀ a b c d e : Int, rf (.agg [.int .u64 a, .int .u64 b, .int .u64 c, .int .u64 d, .int .u64 e].toArray) = true := fun _ _ _ _ _ => rfl
    have u0 := fun s => @evCode_loop T 0 a61_l0 s
    have v0 := fun s => @evCode_block T 0 0 (.loop a61_l0) s
    have d0 : ∀ s, evCode T 0 a61_l0 s = evCode T 0 _ s := fun s => congrArg (fun c => evCode T 0 c s) a61_l0.eq_1
    have hrC : rf (.agg (ns .u64 C).toArray) = true := rf_ns _ _
    simp only [eV, ns_cons, ns_nil] at c1 ⊢
    apply evVal_ex
    apply Exists.intro
    rw [evFun_fn (fn := a61) rfl]
    simp only [a61, envOf, evCode_skip, evCode_exit, evCode_seq, fs_blockS, fs_blockR, fs_blockC, fs_blockK, fs_blockB, evCode_ret, quiet, keep_nil, keep_cons, fs_cond, fs_region, fs_regionP, fs_nil, fs_guard, fs_move, fs_pick, fs_alloc, fs_box, fs_load, fs_store, fs_bin, fs_eqv, fs_isNil, fs_un, fs_conv, fs_convStr, fs_field, fs_index, fs_indexStr, fs_build, fs_buildSlice, fs_fieldAddr, fs_indexAddr, fs_indexSl, fs_sliceArr, fs_sliceSl, fs_sliceStr, fs_makeSlice, fs_extract, fs_mkIface, fs_mkFunc, fs_nilCheck, fs_s2ap, fs_len, fs_minmax, fs_s2b, fs_b2s, fs_append, fs_copy, fs_callW, fs_callR, fs_callv, opd_tmp, opd_const, opd_func, opds_nil, opds_cons, opdOpt_none, opdOpt_some, opdParts_nil, opdParts_cons, get_miss, vPick_t, vPick_f, vEq_agg, vEq_aggN, vEq_bool, vEq_boolN, vConv_int, vStr_s, vField_agg, vIndex_agg, vIndexStr_s, vFieldAddr_p, vIndexAddr_p, vIndexSl_s, vSliceArr_p, vSliceSl_s, vSliceSl_n, vSliceStr_s, vExtract_t, vNilCheck_p, vS2ap_s, vLen_s, vLen_str, vMin_i, vMax_i, vLoad_p, vStore_p, baseP_p, vB2s_s, vMake_i, vS2b_s, callee_f, liveAt_eq, storeAt_eq, partL_none, partL_some, natIn_none, natIn_int, bounds3_two, bin_add, bin_sub, bin_mul, bin_quo, bin_rem, bin_and, bin_or, bin_xor, bin_andNot, bin_eql, bin_neq, bin_lss, bin_leq, bin_gtr, bin_geq, bin_shl, bin_shr, bin_sadd, bin_seql, bin_sneq, un_not, un_neg, un_xor, after_some, put_some, put_none, res_nil, res_val, res_var, packed_one, packed_two, merge_nil, merge_ge, rf_tup2, rfIn_int, rfIn_bool, rfIn_u8s, rf_str, rfIn_str, ↓gate_true, ↓guardV_tt, ↓guardV_ff, ↓guardV_tf, ↓guardV_ft, ↓keepV_some, ↓qElse_some, ↓get_hit, ↓Option.bind_some, ↓if_true, ↓if_false, List.nil_append, List.cons_append, List.all_nil, List.all_cons, List.isEmpty_nil, reduceCtorEq, Bool.false_eq_true, Nat.reduceEqDiff, beq_self_eq_true, bne_self_eq_false, Bool.not_true, Bool.not_false, Int.natCast_nonneg, Nat.lt_irrefl, false_and, Int.reduceEq, rf_int, rf_bool, rf_tuple_ints, rf_u8s, arr_list, toList2, Bool.and_self, Nat.not_lt_zero, Nat.sub_zero, Nat.zero_le, Nat.le_add_right, cells_agg, cells_agg_size, cells_int, cells_int_size, okV_int, okV_bool, okV_str, okV_agg, okV_ptr, okV_slice, okV_func, okV_nilFunc, okV_iface, okV_nilIface, cells_bool, cells_bool_size, cells_ptr, cells_ptr_size, cells_slice, cells_slice_size, cells_str, cells_str_size, eq_self, wrapI64_small, Int.natCast_zero, Int.natCast_one, Int.cast_ofNat_Int, List.length_nil, List.length_cons, List.getElem?_cons_zero, List.getElem?_cons_succ, List.set_cons_zero, List.set_cons_succ, Nat.zero_add, Nat.add_zero, Nat.mul_one, Nat.zero_mul, Int.toNat_natCast, Int.toNat_zero, Int.lt_irrefl, Int.le_refl, Nat.le_refl, and_self, true_and, and_true, decide_true, decide_false, Int.reduceLE, Int.reduceLT, Int.reduceAdd, Int.reduceMul, Int.reduceSub, Int.reduceTDiv, Int.reduceTMod, Int.reduceNeg, Int.reduceToNat, Int.reduceGT, Int.reduceGE, Int.reducePow, Nat.reduceAdd, Nat.reduceMul, Nat.reduceSub, Nat.reduceDiv, Nat.reduceMod, Nat.reducePow, Nat.reduceLT, Nat.reduceLeDiff, Nat.min_self, ge_iff_le, gt_iff_lt, Option.isNone_none, Option.isSome_none, Option.isNone_some, Option.isSome_some, Bool.and_true, Bool.true_and, Bool.and_false, Bool.false_and, not_true_eq_false, not_false_eq_true, or_true, true_or, false_or, or_false, hget0, hgetK, hset0, hsetK, splice_single, splice_whole, take_whole, List.getElem?_nil, List.length_append, List.append_assoc, n_add, n_mul, n_ladd, n_addl, n_lmul, n_mull, n_fdiv, n_fdivl, n_tdiv, n_tmod, n_w64, n_w32, n_w16, n_w8, n_sub64, n_lsub64, n_subl64, n_m32, n_m51, n_m1, n_m1b, n_m7b, p64_32, p64_51, p64_13, p8_7, hz5, c1, hr5, u0, v0, d0, s0, s1, s2, s3, s4, t0, t1, t2, t3, t4, r0, ns_len, hl, hrC]
    rfl
  · rw [carL_fe]
    have e : v51 [x0 + (9007199254740988 - y0) - 72, x1 + (9007199254740988 - y1), x2 + (9007199254740988 - y2), x3 + (9007199254740988 - y3), x4 + (9007199254740988 - y4)] + v51 [y0, y1, y2, y3, y4] = v51 [x0, x1, x2, x3, x4] + 4 * Go.Fp.P := by
      simp only [v51, num, Go.Fp.P_eq]
      omega
    have h := congrArg Go.Fp.fp e
    rw [Go.Fp.fp_add, Go.Fp.fp_add, Go.Fp.fp_mulP] at h
    unfold fe
    grobner
theorem neg_v {x : List Nat} (hx : El x (2 ^ 52)) : ∃ r, evVal T 64 [eV x] = some (eV r) ∧ El r (2 ^ 52) ∧ fe r = -fe x := by
  have hz := small_el (n := 0) (by decide)
  obtain ⟨r, h1, h2, h3⟩ := sub_v hz hx
  refine ⟨r, ?_, h2, ?_⟩
  · have f0 : fillL (ns .u64 [0, 0, 0, 0, 0]) [] = some (ns .u64 [0, 0, 0, 0, 0]) := rfl
    have hz5 : List.replicate 5 (Value.int .u64 0) = ns .u64 [0, 0, 0, 0, 0] := rfl
    have l1 := hx.len
    have l2 := h2.len
    have l0 : (ns .u64 [0, 0, 0, 0, 0]).length = 5 := rfl
    apply evVal_ex
    apply Exists.intro
    rw [evFun_fn (fn := a64) rfl]
    simp only [a64, envOf, evCode_skip, evCode_exit, evCode_seq, fs_blockS, fs_blockR, fs_blockC, fs_blockK, fs_blockB, evCode_ret, quiet, keep_nil, keep_cons, fs_cond, fs_region, fs_regionP, fs_nil, fs_guard, fs_move, fs_pick, fs_alloc, fs_box, fs_load, fs_store, fs_bin, fs_eqv, fs_isNil, fs_un, fs_conv, fs_convStr, fs_field, fs_index, fs_indexStr, fs_build, fs_buildSlice, fs_fieldAddr, fs_indexAddr, fs_indexSl, fs_sliceArr, fs_sliceSl, fs_sliceStr, fs_makeSlice, fs_extract, fs_mkIface, fs_mkFunc, fs_nilCheck, fs_s2ap, fs_len, fs_minmax, fs_s2b, fs_b2s, fs_append, fs_copy, fs_callW, fs_callR, fs_callv, opd_tmp, opd_const, opd_func, opds_nil, opds_cons, opdOpt_none, opdOpt_some, opdParts_nil, opdParts_cons, get_miss, vPick_t, vPick_f, vEq_agg, vEq_aggN, vEq_bool, vEq_boolN, vConv_int, vStr_s, vField_agg, vIndex_agg, vIndexStr_s, vFieldAddr_p, vIndexAddr_p, vIndexSl_s, vSliceArr_p, vSliceSl_s, vSliceSl_n, vSliceStr_s, vExtract_t, vNilCheck_p, vS2ap_s, vLen_s, vLen_str, vMin_i, vMax_i, vLoad_p, vStore_p, baseP_p, vB2s_s, vMake_i, vS2b_s, callee_f, liveAt_eq, storeAt_eq, partL_none, partL_some, natIn_none, natIn_int, bounds3_two, bin_add, bin_sub, bin_mul, bin_quo, bin_rem, bin_and, bin_or, bin_xor, bin_andNot, bin_eql, bin_neq, bin_lss, bin_leq, bin_gtr, bin_geq, bin_shl, bin_shr, bin_sadd, bin_seql, bin_sneq, un_not, un_neg, un_xor, after_some, put_some, put_none, res_nil, res_val, res_var, packed_one, packed_two, merge_nil, merge_ge, rf_tup2, rfIn_int, rfIn_bool, rfIn_u8s, rf_str, rfIn_str, ↓gate_true, ↓guardV_tt, ↓guardV_ff, ↓guardV_tf, ↓guardV_ft, ↓keepV_some, ↓qElse_some, ↓get_hit, ↓Option.bind_some, ↓if_true, ↓if_false, List.nil_append, List.cons_append, List.all_nil, List.all_cons, List.isEmpty_nil, reduceCtorEq, Bool.false_eq_true, Nat.reduceEqDiff, beq_self_eq_true, bne_self_eq_false, Bool.not_true, Bool.not_false, Int.natCast_nonneg, Nat.lt_irrefl, false_and, Int.reduceEq, rf_int, rf_bool, rf_tuple_ints, rf_u8s, arr_list, toList2, Bool.and_self, Nat.not_lt_zero, Nat.sub_zero, Nat.zero_le, Nat.le_add_right, cells_agg, cells_agg_size, cells_int, cells_int_size, okV_int, okV_bool, okV_str, okV_agg, okV_ptr, okV_slice, okV_func, okV_nilFunc, okV_iface, okV_nilIface, cells_bool, cells_bool_size, cells_ptr, cells_ptr_size, cells_slice, cells_slice_size, cells_str, cells_str_size, eq_self, wrapI64_small, Int.natCast_zero, Int.natCast_one, Int.cast_ofNat_Int, List.length_nil, List.length_cons, List.getElem?_cons_zero, List.getElem?_cons_succ, List.set_cons_zero, List.set_cons_succ, Nat.zero_add, Nat.add_zero, Nat.mul_one, Nat.zero_mul, Int.toNat_natCast, Int.toNat_zero, Int.lt_irrefl, Int.le_refl, Nat.le_refl, and_self, true_and, and_true, decide_true, decide_false, Int.reduceLE, Int.reduceLT, Int.reduceAdd, Int.reduceMul, Int.reduceSub, Int.reduceTDiv, Int.reduceTMod, Int.reduceNeg, Int.reduceToNat, Int.reduceGT, Int.reduceGE, Int.reducePow, Nat.reduceAdd, Nat.reduceMul, Nat.reduceSub, Nat.reduceDiv, Nat.reduceMod, Nat.reducePow, Nat.reduceLT, Nat.reduceLeDiff, Nat.min_self, ge_iff_le, gt_iff_lt, Option.isNone_none, Option.isSome_none, Option.isNone_some, Option.isSome_some, Bool.and_true, Bool.true_and, Bool.and_false, Bool.false_and, not_true_eq_false, not_false_eq_true, or_true, true_or, false_or, or_false, hget0, hgetK, hset0, hsetK, splice_single, splice_whole, take_whole, List.getElem?_nil, List.length_append, List.append_assoc, f0, hz5, h1, eV_cells, eV_size, eV_ok, eV_fold, ns_len, l0, l1, l2, rf_eV]
    rfl
  · rw [h3, small_fe, Go.Fp.fp_zero]; grobner

/-- Two elements in a row. -/
def two_el (x y : List Nat) : Ob := ⟨ns .u64 (x ++ y), true, true, true, 1⟩
set_option maxHeartbeats 2000000 in
theorem add2_ev {H : List Ob} {id : Nat} {x y : List Nat} (hx : El x (2 ^ 52)) (hy : El y (2 ^ 52)) (h : H[id]? = some (two_el x y)) : ∃ r s, evFun T 62 [.slice (some ⟨id, 0, none⟩) 2 2] H = some (eV r, H ++ [⟨ns .u64 r, true, true, true, 1⟩, ⟨ns .u64 s, true, true, true, 1⟩, ⟨ns .u64 x, true, true, true, 1⟩, ⟨ns .u64 y, true, true, true, 1⟩], []) ∧ El r (2 ^ 52) ∧ fe r = fe x + fe y := by
  have hid : id < H.length := (List.getElem?_eq_some_iff.1 h).1
  have hA : ∀ l, (H ++ l)[id]? = some (two_el x y) := fun l => by rw [List.getElem?_append_left hid]; exact h
  obtain ⟨x0, x1, x2, x3, x4, rfl, a0, a1, a2, a3, a4⟩ := hx.five
  obtain ⟨y0, y1, y2, y3, y4, rfl, b0, b1, b2, b3, b4⟩ := hy.five
  refine ⟨carL (x0 + y0) (x1 + y1) (x2 + y2) (x3 + y3) (x4 + y4), [x0 + y0, x1 + y1, x2 + y2, x3 + y3, x4 + y4], ?_, carL_el (by omega) (by omega) (by omega) (by omega) (by omega), ?_⟩
  · have s0 : (0 + x0) % 18446744073709551616 = x0 := by omega
    have s1 : (0 + x1) % 18446744073709551616 = x1 := by omega
    have s2 : (0 + x2) % 18446744073709551616 = x2 := by omega
    have s3 : (0 + x3) % 18446744073709551616 = x3 := by omega
    have s4 : (0 + x4) % 18446744073709551616 = x4 := by omega
    have q0 : x0 % 18446744073709551616 = x0 := by omega
    have q1 : x1 % 18446744073709551616 = x1 := by omega
    have q2 : x2 % 18446744073709551616 = x2 := by omega
    have q3 : x3 % 18446744073709551616 = x3 := by omega
    have q4 : x4 % 18446744073709551616 = x4 := by omega
    have t0 : (x0 + y0) % 18446744073709551616 = x0 + y0 := by omega
    have t1 : (x1 + y1) % 18446744073709551616 = x1 + y1 := by omega
    have t2 : (x2 + y2) % 18446744073709551616 = x2 + y2 := by omega
    have t3 : (x3 + y3) % 18446744073709551616 = x3 + y3 := by omega
    have t4 : (x4 + y4) % 18446744073709551616 = x4 + y4 := by omega
    have c1 := carried_v (x0 := x0 + y0) (x1 := x1 + y1) (x2 := x2 + y2) (x3 := x3 + y3) (x4 := x4 + y4) (by omega) (by omega) (by omega) (by omega) (by omega)
    have hl : (carL (x0 + y0) (x1 + y1) (x2 + y2) (x3 + y3) (x4 + y4)).length = 5 := rfl
    generalize carL (x0 + y0) (x1 + y1) (x2 + y2) (x3 + y3) (x4 + y4) = C at *
    have hz5 : List.replicate 5 (Value.int .u64 0) = [.int .u64 0, .int .u64 0, .int .u64 0, .int .u64 0, .int .u64 0] := rfl
    have hr5 : ∀ a b c d e : Int, rf (.agg [.int .u64 a, .int .u64 b, .int .u64 c, .int .u64 d, .int .u64 e].toArray) = true := fun _ _ _ _ _ => rfl
    have u0 := fun s => @evCode_loop T H.length a62_l0 s
    have v0 := fun s => @evCode_block T H.length 2 (.loop a62_l0) s
    have d0 : ∀ s, evCode T H.length a62_l0 s = evCode T H.length _ s := fun s => congrArg (fun c => evCode T H.length c s) a62_l0.eq_1
    have u1 := fun s => @evCode_loop T H.length a62_l1 s
    have v1 := fun s => @evCode_block T H.length 0 (.loop a62_l1) s
    have d1 : ∀ s, evCode T H.length a62_l1 s = evCode T H.length _ s := fun s => congrArg (fun c => evCode T H.length c s) a62_l1.eq_1
    have hrC : rf (.agg (ns .u64 C).toArray) = true := rf_ns _ _
    have p1 : ∀ a b c d e f g i j k : Value, List.take 5 (List.drop 0 [a, b, c, d, e, f, g, i, j, k]) = [a, b, c, d, e] := fun _ _ _ _ _ _ _ _ _ _ => rfl
    have p2 : ∀ a b c d e f g i j k : Value, List.take 5 (List.drop 5 [a, b, c, d, e, f, g, i, j, k]) = [f, g, i, j, k] := fun _ _ _ _ _ _ _ _ _ _ => rfl
    simp only [eV, ns_cons, ns_nil] at c1 ⊢
    simp only [two_el, List.cons_append, List.nil_append, ns_cons, ns_nil] at hA h
    rw [evFun_fn (fn := a62) rfl]
    simp only [a62, Int.reduceBEq, Int.reduceBNe, envOf, evCode_skip, evCode_exit, evCode_seq, fs_blockS, fs_blockR, fs_blockC, fs_blockK, fs_blockB, evCode_ret, quiet, keep_nil, keep_cons, fs_cond, fs_region, fs_regionP, fs_nil, fs_guard, fs_move, fs_pick, fs_alloc, fs_box, fs_load, fs_store, fs_bin, fs_eqv, fs_isNil, fs_un, fs_conv, fs_convStr, fs_field, fs_index, fs_indexStr, fs_build, fs_buildSlice, fs_fieldAddr, fs_indexAddr, fs_indexSl, fs_sliceArr, fs_sliceSl, fs_sliceStr, fs_makeSlice, fs_extract, fs_mkIface, fs_mkFunc, fs_nilCheck, fs_s2ap, fs_len, fs_minmax, fs_s2b, fs_b2s, fs_append, fs_copy, fs_callW, fs_callR, fs_callv, opd_tmp, opd_const, opd_func, opds_nil, opds_cons, opdOpt_none, opdOpt_some, opdParts_nil, opdParts_cons, get_miss, vPick_t, vPick_f, vEq_agg, vEq_aggN, vEq_bool, vEq_boolN, vConv_int, vStr_s, vField_agg, vIndex_agg, vIndexStr_s, vFieldAddr_p, vIndexAddr_p, vIndexSl_s, vSliceArr_p, vSliceSl_s, vSliceSl_n, vSliceStr_s, vExtract_t, vNilCheck_p, vS2ap_s, vLen_s, vLen_str, vMin_i, vMax_i, vLoad_p, vStore_p, baseP_p, vB2s_s, vMake_i, vS2b_s, callee_f, liveAt_eq, storeAt_eq, partL_none, partL_some, natIn_none, natIn_int, bounds3_two, bin_add, bin_sub, bin_mul, bin_quo, bin_rem, bin_and, bin_or, bin_xor, bin_andNot, bin_eql, bin_neq, bin_lss, bin_leq, bin_gtr, bin_geq, bin_shl, bin_shr, bin_sadd, bin_seql, bin_sneq, un_not, un_neg, un_xor, after_some, put_some, put_none, res_nil, res_val, res_var, packed_one, packed_two, merge_nil, merge_ge, rf_tup2, rfIn_int, rfIn_bool, rfIn_u8s, rf_str, rfIn_str, ↓gate_true, ↓guardV_tt, ↓guardV_ff, ↓guardV_tf, ↓guardV_ft, ↓keepV_some, ↓qElse_some, ↓get_hit, ↓Option.bind_some, ↓if_true, ↓if_false, List.nil_append, List.cons_append, List.all_nil, List.all_cons, List.isEmpty_nil, reduceCtorEq, Bool.false_eq_true, Nat.reduceEqDiff, beq_self_eq_true, bne_self_eq_false, Bool.not_true, Bool.not_false, Int.natCast_nonneg, Nat.lt_irrefl, false_and, Int.reduceEq, rf_int, rf_bool, rf_tuple_ints, rf_u8s, arr_list, toList2, Bool.and_self, Nat.not_lt_zero, Nat.sub_zero, Nat.zero_le, Nat.le_add_right, cells_agg, cells_agg_size, cells_int, cells_int_size, okV_int, okV_bool, okV_str, okV_agg, okV_ptr, okV_slice, okV_func, okV_nilFunc, okV_iface, okV_nilIface, cells_bool, cells_bool_size, cells_ptr, cells_ptr_size, cells_slice, cells_slice_size, cells_str, cells_str_size, eq_self, wrapI64_small, Int.natCast_zero, Int.natCast_one, Int.cast_ofNat_Int, List.length_nil, List.length_cons, List.getElem?_cons_zero, List.getElem?_cons_succ, List.set_cons_zero, List.set_cons_succ, Nat.zero_add, Nat.add_zero, Nat.mul_one, Nat.zero_mul, Int.toNat_natCast, Int.toNat_zero, Int.lt_irrefl, Int.le_refl, Nat.le_refl, and_self, true_and, and_true, decide_true, decide_false, Int.reduceLE, Int.reduceLT, Int.reduceAdd, Int.reduceMul, Int.reduceSub, Int.reduceTDiv, Int.reduceTMod, Int.reduceNeg, Int.reduceToNat, Int.reduceGT, Int.reduceGE, Int.reducePow, Nat.reduceAdd, Nat.reduceMul, Nat.reduceSub, Nat.reduceDiv, Nat.reduceMod, Nat.reducePow, Nat.reduceLT, Nat.reduceLeDiff, Nat.min_self, ge_iff_le, gt_iff_lt, Option.isNone_none, Option.isSome_none, Option.isNone_some, Option.isSome_some, Bool.and_true, Bool.true_and, Bool.and_false, Bool.false_and, not_true_eq_false, not_false_eq_true, or_true, true_or, false_or, or_false, hget0, hgetK, hset0, hsetK, splice_single, splice_whole, take_whole, List.getElem?_nil, List.length_append, List.append_assoc, n_add, n_mul, n_ladd, n_addl, n_lmul, n_mull, n_fdiv, n_fdivl, n_tdiv, n_tmod, n_w64, n_w32, n_w16, n_w8, n_sub64, n_lsub64, n_subl64, n_m32, n_m51, n_m1, n_m1b, n_m7b, p64_32, p64_51, p64_13, p8_7, h, hA, hz5, c1, hr5, u0, v0, d0, u1, v1, d1, p1, p2, s0, s1, s2, s3, s4, q0, q1, q2, q3, q4, t0, t1, t2, t3, t4, ns_len, hl, hrC]
  · rw [carL_fe]
    have e : v51 [x0 + y0, x1 + y1, x2 + y2, x3 + y3, x4 + y4] = v51 [x0, x1, x2, x3, x4] + v51 [y0, y1, y2, y3, y4] := by
      simp only [v51, num]
      omega
    unfold fe
    rw [e, Go.Fp.fp_add]
end Go.Ev.Ytaceeoghjgggjaa

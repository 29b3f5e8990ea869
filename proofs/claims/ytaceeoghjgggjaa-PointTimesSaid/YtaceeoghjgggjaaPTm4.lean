/- What the law leans on, part 4. -/
import Derived.Test.YtaceeoghjgggjaaPTm3
set_option linter.unusedSimpArgs false
set_option linter.unusedVariables false
set_option linter.unusedSimpArgs false
set_option linter.unusedVariables false
namespace Go.Ev.Ytaceeoghjgggjaa
open Go Go.Ev
attribute [local congr] bind_congr2 ite_congr2 qElse_congr gate_congr guardV_congr
set_option maxRecDepth 100000
def pwI (x k o : List Nat) (i : Int) (ex : Env) : St := ⟨[(2, .pointer (some ⟨0, 0, none⟩)), (3, .pointer (some ⟨1, 0, none⟩)), (4, .pointer (some ⟨2, 0, none⟩)), (5, .pointer (some ⟨3, 0, none⟩)), (6, .int .i64 i)] ++ ex, [⟨ns .u64 x, true, true, true, 1⟩, ⟨u8s k, true, true, true, 1⟩, ⟨ns .u64 [0, 0, 0, 0, 0], true, true, true, 1⟩, ⟨ns .u64 o, true, true, true, 1⟩], []⟩
theorem pow_step (a : Go.Fp.Fe) (m b : Nat) (hb : b < 2) : Go.Fp.pow a (2 * m + b) = if b = 1 then Go.Fp.pow a m * Go.Fp.pow a m * a else Go.Fp.pow a m * Go.Fp.pow a m := by
  have h1 : Go.Fp.pow a (2 * m) = Go.Fp.pow a m * Go.Fp.pow a m := by rw [show 2 * m = m + m by omega, Go.Fp.pow_add]
  by_cases h : b = 1
  · subst h
    rw [if_pos rfl, Go.Fp.pow, h1]
  · have : b = 0 := by omega
    subst this
    rw [if_neg (by decide), Nat.add_zero, h1]
theorem pw_body {x k o : List Nat} {i : Nat} {ex : Env} (hx : El x (2 ^ 52)) (lk : k.length = 32) (xk : ∀ x ∈ k, x < 256) (hi : i < 256) (ho : El o (2 ^ 52)) (hp : fe o = Go.Fp.pow (fe x) (num 256 k / 2 ^ (i + 1))) :
    ∃ r, evCode T 0 a83_l0 (pwI x k o i ex) = some (.normal, pwI x k r ((i : Int) - 1) []) ∧ El r (2 ^ 52) ∧ fe r = Go.Fp.pow (fe x) (num 256 k / 2 ^ i) := by
  obtain ⟨b, hb⟩ : ∃ b, k[i / 8]? = some b := ⟨_, List.getElem?_eq_getElem (by omega)⟩
  have hbv := num_get (B := 256) (by decide) xk hb
  have hbc := u8s_get hb
  have hbit : b / 2 ^ (i % 8) % 2 = num 256 k / 2 ^ i % 2 := by
    rw [← hbv, show (256 : Nat) = 2 ^ 8 from rfl, bitOf (Nat.mod_lt _ (by decide)), Nat.div_add_mod]
  obtain ⟨r1, m1, g1, g2⟩ := mul_ev ho ho
  obtain ⟨r2, m2, g3, g4⟩ := mul_ev g1 hx
  have hlt := bit_lt (num 256 k) i
  have hnum : num 256 k / 2 ^ i = 2 * (num 256 k / 2 ^ (i + 1)) + num 256 k / 2 ^ i % 2 := by
    rw [Nat.pow_succ, ← Nat.div_div_eq_div_mul]
    omega
  have hstep := pow_step (fe x) (num 256 k / 2 ^ (i + 1)) (num 256 k / 2 ^ i % 2) hlt
  rw [← hnum, ← hp] at hstep
  have s1 : (2 : Int) ^ min (i % 8) IntKind.u8.bits = ((2 ^ (i % 8) : Nat) : Int) := pow_min (Nat.le_of_lt (Nat.mod_lt _ (by decide)))
  have w2 : IntKind.i64.wrap ((i / 8 : Nat) : Int) = ((i / 8 : Nat) : Int) := wrap_nat (by omega)
  have w3 : IntKind.i64.wrap ((i : Int) - 1) = (i : Int) - 1 := wrapI64_small (by omega) (by omega)
  have e1 : ((0 : Int) ≤ (i : Int)) = True := eq_true (by omega)
  have e3 : (((i / 8 : Nat) : Int) < 32) = True := eq_true (by omega)
  have e4 : (((i % 8 : Nat) : Int) < 0) = False := eq_false (by omega)
  have l1 := hx.len
  have l2 := ho.len
  have l3 := g1.len
  have l4 := g3.len
  have l0 : ([0, 0, 0, 0, 0] : List Nat).length = 5 := rfl
  generalize hB : num 256 k / 2 ^ i % 2 = B at *
  by_cases hB1 : B = 1
  · have hbq : ((B : Int) == 1) = true := by rw [hB1]; rfl
    rw [if_pos hB1] at hstep
    refine ⟨r2, ?_, g3, by rw [hstep, g4, g2]⟩
    simp only [pwI, a83_l0, envOf, evCode_skip, evCode_exit, evCode_seq, fs_blockS, fs_blockR, fs_blockC, fs_blockK, fs_blockB, evCode_ret, quiet, keep_nil, keep_cons, fs_cond, fs_region, fs_regionP, fs_nil, fs_guard, fs_move, fs_pick, fs_alloc, fs_box, fs_load, fs_store, fs_bin, fs_eqv, fs_isNil, fs_un, fs_conv, fs_convStr, fs_field, fs_index, fs_indexStr, fs_build, fs_buildSlice, fs_fieldAddr, fs_indexAddr, fs_indexSl, fs_sliceArr, fs_sliceSl, fs_sliceStr, fs_makeSlice, fs_extract, fs_mkIface, fs_mkFunc, fs_nilCheck, fs_s2ap, fs_len, fs_minmax, fs_s2b, fs_b2s, fs_append, fs_copy, fs_callW, fs_callR, fs_callv, opd_tmp, opd_const, opd_func, opds_nil, opds_cons, opdOpt_none, opdOpt_some, opdParts_nil, opdParts_cons, get_miss, vPick_t, vPick_f, vEq_agg, vEq_aggN, vEq_bool, vEq_boolN, vConv_int, vStr_s, vField_agg, vIndex_agg, vIndexStr_s, vFieldAddr_p, vIndexAddr_p, vIndexSl_s, vSliceArr_p, vSliceSl_s, vSliceSl_n, vSliceStr_s, vExtract_t, vNilCheck_p, vS2ap_s, vLen_s, vLen_str, vMin_i, vMax_i, vLoad_p, vStore_p, baseP_p, vB2s_s, vMake_i, vS2b_s, callee_f, liveAt_eq, storeAt_eq, partL_none, partL_some, natIn_none, natIn_int, bounds3_two, bin_add, bin_sub, bin_mul, bin_quo, bin_rem, bin_and, bin_or, bin_xor, bin_andNot, bin_eql, bin_neq, bin_lss, bin_leq, bin_gtr, bin_geq, bin_shl, bin_shr, bin_sadd, bin_seql, bin_sneq, un_not, un_neg, un_xor, after_some, put_some, put_none, res_nil, res_val, res_var, packed_one, packed_two, merge_nil, merge_ge, rf_tup2, rfIn_int, rfIn_bool, rfIn_u8s, rf_str, rfIn_str, ↓gate_true, gd_bool, gd_ut, gd_uf, ↓guardV_tt, ↓guardV_ff, ↓guardV_tf, ↓guardV_ft, ↓keepV_some, ↓qElse_some, ↓get_hit, ↓Option.bind_some, ↓if_true, ↓if_false, List.nil_append, List.cons_append, List.all_nil, List.all_cons, List.isEmpty_nil, reduceCtorEq, Bool.false_eq_true, Nat.reduceEqDiff, beq_self_eq_true, bne_self_eq_false, Bool.not_true, Bool.not_false, Int.natCast_nonneg, Nat.lt_irrefl, false_and, Int.reduceEq, rf_int, rf_bool, rf_tuple_ints, rf_u8s, arr_list, toList2, Bool.and_self, Nat.not_lt_zero, Nat.sub_zero, Nat.zero_le, Nat.le_add_right, cells_agg, cells_agg_size, cells_int, cells_int_size, okV_int, okV_bool, okV_str, okV_agg, okV_ptr, okV_slice, okV_func, okV_nilFunc, okV_iface, okV_nilIface, cells_bool, cells_bool_size, cells_ptr, cells_ptr_size, cells_slice, cells_slice_size, cells_str, cells_str_size, eq_self, wrapI64_small, Int.natCast_zero, Int.natCast_one, Int.cast_ofNat_Int, List.length_nil, List.length_cons, List.getElem?_cons_zero, List.getElem?_cons_succ, List.set_cons_zero, List.set_cons_succ, Nat.zero_add, Nat.add_zero, Nat.mul_one, Nat.zero_mul, Int.toNat_natCast, Int.toNat_zero, Int.lt_irrefl, Int.le_refl, Nat.le_refl, and_self, true_and, and_true, decide_true, decide_false, Int.reduceLE, Int.reduceLT, Int.reduceAdd, Int.reduceMul, Int.reduceSub, Int.reduceTDiv, Int.reduceTMod, Int.reduceNeg, Int.reduceToNat, Int.reduceGT, Int.reduceGE, Int.reducePow, Nat.reduceAdd, Nat.reduceMul, Nat.reduceSub, Nat.reduceDiv, Nat.reduceMod, Nat.reducePow, Nat.reduceLT, Nat.reduceLeDiff, Nat.min_self, ge_iff_le, gt_iff_lt, Option.isNone_none, Option.isSome_none, Option.isNone_some, Option.isSome_some, Bool.and_true, Bool.true_and, Bool.and_false, Bool.false_and, not_true_eq_false, not_false_eq_true, or_true, true_or, false_or, or_false, hget0, hgetK, hset0, hsetK, splice_single, splice_whole, take_whole, List.getElem?_nil, List.length_append, List.append_assoc, n_add, n_mul, n_ladd, n_addl, n_lmul, n_mull, n_fdiv, n_fdivl, n_tdiv, n_tmod, n_w64, n_w32, n_w16, n_w8, n_sub64, n_lsub64, n_subl64, n_m32, n_m51, n_m1, n_m1b, n_m7b, p64_32, p64_51, p64_13, p8_7, hbc, hbit, s1, w2, w3, e1, e3, e4, m1, m2, hbq, eV_cells, eV_size, eV_ok, eV_fold, ns_len, l1, l2, l3, l4, rf_eV]
  · have hbq : ((B : Int) == 1) = false := by
      have : B = 0 := by omega
      rw [this]; rfl
    rw [if_neg hB1] at hstep
    refine ⟨r1, ?_, g1, by rw [hstep, g2]⟩
    simp only [pwI, a83_l0, envOf, evCode_skip, evCode_exit, evCode_seq, fs_blockS, fs_blockR, fs_blockC, fs_blockK, fs_blockB, evCode_ret, quiet, keep_nil, keep_cons, fs_cond, fs_region, fs_regionP, fs_nil, fs_guard, fs_move, fs_pick, fs_alloc, fs_box, fs_load, fs_store, fs_bin, fs_eqv, fs_isNil, fs_un, fs_conv, fs_convStr, fs_field, fs_index, fs_indexStr, fs_build, fs_buildSlice, fs_fieldAddr, fs_indexAddr, fs_indexSl, fs_sliceArr, fs_sliceSl, fs_sliceStr, fs_makeSlice, fs_extract, fs_mkIface, fs_mkFunc, fs_nilCheck, fs_s2ap, fs_len, fs_minmax, fs_s2b, fs_b2s, fs_append, fs_copy, fs_callW, fs_callR, fs_callv, opd_tmp, opd_const, opd_func, opds_nil, opds_cons, opdOpt_none, opdOpt_some, opdParts_nil, opdParts_cons, get_miss, vPick_t, vPick_f, vEq_agg, vEq_aggN, vEq_bool, vEq_boolN, vConv_int, vStr_s, vField_agg, vIndex_agg, vIndexStr_s, vFieldAddr_p, vIndexAddr_p, vIndexSl_s, vSliceArr_p, vSliceSl_s, vSliceSl_n, vSliceStr_s, vExtract_t, vNilCheck_p, vS2ap_s, vLen_s, vLen_str, vMin_i, vMax_i, vLoad_p, vStore_p, baseP_p, vB2s_s, vMake_i, vS2b_s, callee_f, liveAt_eq, storeAt_eq, partL_none, partL_some, natIn_none, natIn_int, bounds3_two, bin_add, bin_sub, bin_mul, bin_quo, bin_rem, bin_and, bin_or, bin_xor, bin_andNot, bin_eql, bin_neq, bin_lss, bin_leq, bin_gtr, bin_geq, bin_shl, bin_shr, bin_sadd, bin_seql, bin_sneq, un_not, un_neg, un_xor, after_some, put_some, put_none, res_nil, res_val, res_var, packed_one, packed_two, merge_nil, merge_ge, rf_tup2, rfIn_int, rfIn_bool, rfIn_u8s, rf_str, rfIn_str, ↓gate_true, gd_bool, gd_ut, gd_uf, ↓guardV_tt, ↓guardV_ff, ↓guardV_tf, ↓guardV_ft, ↓keepV_some, ↓qElse_some, ↓get_hit, ↓Option.bind_some, ↓if_true, ↓if_false, List.nil_append, List.cons_append, List.all_nil, List.all_cons, List.isEmpty_nil, reduceCtorEq, Bool.false_eq_true, Nat.reduceEqDiff, beq_self_eq_true, bne_self_eq_false, Bool.not_true, Bool.not_false, Int.natCast_nonneg, Nat.lt_irrefl, false_and, Int.reduceEq, rf_int, rf_bool, rf_tuple_ints, rf_u8s, arr_list, toList2, Bool.and_self, Nat.not_lt_zero, Nat.sub_zero, Nat.zero_le, Nat.le_add_right, cells_agg, cells_agg_size, cells_int, cells_int_size, okV_int, okV_bool, okV_str, okV_agg, okV_ptr, okV_slice, okV_func, okV_nilFunc, okV_iface, okV_nilIface, cells_bool, cells_bool_size, cells_ptr, cells_ptr_size, cells_slice, cells_slice_size, cells_str, cells_str_size, eq_self, wrapI64_small, Int.natCast_zero, Int.natCast_one, Int.cast_ofNat_Int, List.length_nil, List.length_cons, List.getElem?_cons_zero, List.getElem?_cons_succ, List.set_cons_zero, List.set_cons_succ, Nat.zero_add, Nat.add_zero, Nat.mul_one, Nat.zero_mul, Int.toNat_natCast, Int.toNat_zero, Int.lt_irrefl, Int.le_refl, Nat.le_refl, and_self, true_and, and_true, decide_true, decide_false, Int.reduceLE, Int.reduceLT, Int.reduceAdd, Int.reduceMul, Int.reduceSub, Int.reduceTDiv, Int.reduceTMod, Int.reduceNeg, Int.reduceToNat, Int.reduceGT, Int.reduceGE, Int.reducePow, Nat.reduceAdd, Nat.reduceMul, Nat.reduceSub, Nat.reduceDiv, Nat.reduceMod, Nat.reducePow, Nat.reduceLT, Nat.reduceLeDiff, Nat.min_self, ge_iff_le, gt_iff_lt, Option.isNone_none, Option.isSome_none, Option.isNone_some, Option.isSome_some, Bool.and_true, Bool.true_and, Bool.and_false, Bool.false_and, not_true_eq_false, not_false_eq_true, or_true, true_or, false_or, or_false, hget0, hgetK, hset0, hsetK, splice_single, splice_whole, take_whole, List.getElem?_nil, List.length_append, List.append_assoc, n_add, n_mul, n_ladd, n_addl, n_lmul, n_mull, n_fdiv, n_fdivl, n_tdiv, n_tmod, n_w64, n_w32, n_w16, n_w8, n_sub64, n_lsub64, n_subl64, n_m32, n_m51, n_m1, n_m1b, n_m7b, p64_32, p64_51, p64_13, p8_7, hbc, hbit, s1, w2, w3, e1, e3, e4, m1, m2, hbq, eV_cells, eV_size, eV_ok, eV_fold, ns_len, l1, l2, l3, l4, rf_eV]
theorem power_v {x k : List Nat} (hx : El x (2 ^ 52)) (lk : k.length = 32) (xk : ∀ x ∈ k, x < 256) : ∃ r, evVal T 83 [eV x, .agg (u8s k).toArray] = some (eV r) ∧ El r (2 ^ 52) ∧ fe r = Go.Fp.pow (fe x) (num 256 k) := by
  have hK := num_lt xk
  rw [lk, show (256 : Nat) ^ 32 = 2 ^ 256 from by rw [show (256 : Nat) = 2 ^ 8 from rfl, ← Nat.pow_mul]] at hK
  obtain ⟨st, hb, r, rfl, hr1, hr2⟩ := block_inv (T := T) (base := 0) (id := 0) (body := a83_l0)
    (fun j st => ∃ r : List Nat, st = pwI x k r ((255 : Int) - j) [] ∧ El r (2 ^ 52) ∧ fe r = Go.Fp.pow (fe x) (num 256 k / 2 ^ (256 - j)))
    (Q := fun st => ∃ r : List Nat, st = pwI x k r (-1) [(9, .bool false)] ∧ El r (2 ^ 52) ∧ fe r = Go.Fp.pow (fe x) (num 256 k))
    256 (s := pwI x k [1, 0, 0, 0, 0] 255 []) ⟨_, rfl, one_el, by rw [one_fe, Nat.sub_zero, Nat.div_eq_of_lt hK]; rfl⟩
    (fun j st hj hs => by
      obtain ⟨r, rfl, h1, h2⟩ := hs
      obtain ⟨i, hi⟩ : ∃ i, 256 - j = i + 1 := ⟨255 - j, by omega⟩
      rw [hi] at h2
      obtain ⟨r', g1, g2, g3⟩ := pw_body (ex := []) hx lk xk (i := i) (by omega) h1 h2
      rw [show (255 : Int) - j = (i : Int) by omega]
      refine ⟨_, g1, r', ?_, g2, ?_⟩
      · rw [show (255 : Int) - ((j + 1 : Nat) : Int) = (i : Int) - 1 by omega]
      · rw [show 256 - (j + 1) = i by omega]; exact g3)
    (fun st hs => by
      obtain ⟨r, rfl, h1, h2⟩ := hs
      rw [Nat.sub_self, Nat.pow_zero, Nat.div_one] at h2
      have e : ((0 : Int) ≤ -1) = False := by decide
      refine ⟨_, ?_, r, rfl, h1, h2⟩
      rw [show (255 : Int) - ((256 : Nat) : Int) = -1 by omega]
      simp only [pwI, a83_l0, envOf, evCode_skip, evCode_exit, evCode_seq, fs_blockS, fs_blockR, fs_blockC, fs_blockK, fs_blockB, evCode_ret, quiet, keep_nil, keep_cons, fs_cond, fs_region, fs_regionP, fs_nil, fs_guard, fs_move, fs_pick, fs_alloc, fs_box, fs_load, fs_store, fs_bin, fs_eqv, fs_isNil, fs_un, fs_conv, fs_convStr, fs_field, fs_index, fs_indexStr, fs_build, fs_buildSlice, fs_fieldAddr, fs_indexAddr, fs_indexSl, fs_sliceArr, fs_sliceSl, fs_sliceStr, fs_makeSlice, fs_extract, fs_mkIface, fs_mkFunc, fs_nilCheck, fs_s2ap, fs_len, fs_minmax, fs_s2b, fs_b2s, fs_append, fs_copy, fs_callW, fs_callR, fs_callv, opd_tmp, opd_const, opd_func, opds_nil, opds_cons, opdOpt_none, opdOpt_some, opdParts_nil, opdParts_cons, get_miss, vPick_t, vPick_f, vEq_agg, vEq_aggN, vEq_bool, vEq_boolN, vConv_int, vStr_s, vField_agg, vIndex_agg, vIndexStr_s, vFieldAddr_p, vIndexAddr_p, vIndexSl_s, vSliceArr_p, vSliceSl_s, vSliceSl_n, vSliceStr_s, vExtract_t, vNilCheck_p, vS2ap_s, vLen_s, vLen_str, vMin_i, vMax_i, vLoad_p, vStore_p, baseP_p, vB2s_s, vMake_i, vS2b_s, callee_f, liveAt_eq, storeAt_eq, partL_none, partL_some, natIn_none, natIn_int, bounds3_two, bin_add, bin_sub, bin_mul, bin_quo, bin_rem, bin_and, bin_or, bin_xor, bin_andNot, bin_eql, bin_neq, bin_lss, bin_leq, bin_gtr, bin_geq, bin_shl, bin_shr, bin_sadd, bin_seql, bin_sneq, un_not, un_neg, un_xor, after_some, put_some, put_none, res_nil, res_val, res_var, packed_one, packed_two, merge_nil, merge_ge, rf_tup2, rfIn_int, rfIn_bool, rfIn_u8s, rf_str, rfIn_str, ↓gate_true, gd_bool, gd_ut, gd_uf, ↓guardV_tt, ↓guardV_ff, ↓guardV_tf, ↓guardV_ft, ↓keepV_some, ↓qElse_some, ↓get_hit, ↓Option.bind_some, ↓if_true, ↓if_false, List.nil_append, List.cons_append, List.all_nil, List.all_cons, List.isEmpty_nil, reduceCtorEq, Bool.false_eq_true, Nat.reduceEqDiff, beq_self_eq_true, bne_self_eq_false, Bool.not_true, Bool.not_false, Int.natCast_nonneg, Nat.lt_irrefl, false_and, Int.reduceEq, rf_int, rf_bool, rf_tuple_ints, rf_u8s, arr_list, toList2, Bool.and_self, Nat.not_lt_zero, Nat.sub_zero, Nat.zero_le, Nat.le_add_right, cells_agg, cells_agg_size, cells_int, cells_int_size, okV_int, okV_bool, okV_str, okV_agg, okV_ptr, okV_slice, okV_func, okV_nilFunc, okV_iface, okV_nilIface, cells_bool, cells_bool_size, cells_ptr, cells_ptr_size, cells_slice, cells_slice_size, cells_str, cells_str_size, eq_self, wrapI64_small, Int.natCast_zero, Int.natCast_one, Int.cast_ofNat_Int, List.length_nil, List.length_cons, List.getElem?_cons_zero, List.getElem?_cons_succ, List.set_cons_zero, List.set_cons_succ, Nat.zero_add, Nat.add_zero, Nat.mul_one, Nat.zero_mul, Int.toNat_natCast, Int.toNat_zero, Int.lt_irrefl, Int.le_refl, Nat.le_refl, and_self, true_and, and_true, decide_true, decide_false, Int.reduceLE, Int.reduceLT, Int.reduceAdd, Int.reduceMul, Int.reduceSub, Int.reduceTDiv, Int.reduceTMod, Int.reduceNeg, Int.reduceToNat, Int.reduceGT, Int.reduceGE, Int.reducePow, Nat.reduceAdd, Nat.reduceMul, Nat.reduceSub, Nat.reduceDiv, Nat.reduceMod, Nat.reducePow, Nat.reduceLT, Nat.reduceLeDiff, Nat.min_self, ge_iff_le, gt_iff_lt, Option.isNone_none, Option.isSome_none, Option.isNone_some, Option.isSome_some, Bool.and_true, Bool.true_and, Bool.and_false, Bool.false_and, not_true_eq_false, not_false_eq_true, or_true, true_or, false_or, or_false, e])
  refine ⟨r, ?_, hr1, hr2⟩
  have hz5 : List.replicate 5 (Value.int .u64 0) = ns .u64 [0, 0, 0, 0, 0] := rfl
  have hs := small_v (n := 1) (by decide)
  have l2 : ([1, 0, 0, 0, 0] : List Nat).length = 5 := rfl
  have l0 : ([0, 0, 0, 0, 0] : List Nat).length = 5 := rfl
  have l1 := hx.len
  have l3 := hr1.len
  simp only [Int.natCast_one] at hs
  simp only [pwI, List.cons_append, List.nil_append] at hb
  apply evVal_ex
  apply Exists.intro
  rw [evFun_fn (fn := a83) rfl]
  simp only [a83, envOf, evCode_skip, evCode_exit, evCode_seq, fs_blockS, fs_blockR, fs_blockC, fs_blockK, fs_blockB, evCode_ret, quiet, keep_nil, keep_cons, fs_cond, fs_region, fs_regionP, fs_nil, fs_guard, fs_move, fs_pick, fs_alloc, fs_box, fs_load, fs_store, fs_bin, fs_eqv, fs_isNil, fs_un, fs_conv, fs_convStr, fs_field, fs_index, fs_indexStr, fs_build, fs_buildSlice, fs_fieldAddr, fs_indexAddr, fs_indexSl, fs_sliceArr, fs_sliceSl, fs_sliceStr, fs_makeSlice, fs_extract, fs_mkIface, fs_mkFunc, fs_nilCheck, fs_s2ap, fs_len, fs_minmax, fs_s2b, fs_b2s, fs_append, fs_copy, fs_callW, fs_callR, fs_callv, opd_tmp, opd_const, opd_func, opds_nil, opds_cons, opdOpt_none, opdOpt_some, opdParts_nil, opdParts_cons, get_miss, vPick_t, vPick_f, vEq_agg, vEq_aggN, vEq_bool, vEq_boolN, vConv_int, vStr_s, vField_agg, vIndex_agg, vIndexStr_s, vFieldAddr_p, vIndexAddr_p, vIndexSl_s, vSliceArr_p, vSliceSl_s, vSliceSl_n, vSliceStr_s, vExtract_t, vNilCheck_p, vS2ap_s, vLen_s, vLen_str, vMin_i, vMax_i, vLoad_p, vStore_p, baseP_p, vB2s_s, vMake_i, vS2b_s, callee_f, liveAt_eq, storeAt_eq, partL_none, partL_some, natIn_none, natIn_int, bounds3_two, bin_add, bin_sub, bin_mul, bin_quo, bin_rem, bin_and, bin_or, bin_xor, bin_andNot, bin_eql, bin_neq, bin_lss, bin_leq, bin_gtr, bin_geq, bin_shl, bin_shr, bin_sadd, bin_seql, bin_sneq, un_not, un_neg, un_xor, after_some, put_some, put_none, res_nil, res_val, res_var, packed_one, packed_two, merge_nil, merge_ge, rf_tup2, rfIn_int, rfIn_bool, rfIn_u8s, rf_str, rfIn_str, ↓gate_true, gd_bool, gd_ut, gd_uf, ↓guardV_tt, ↓guardV_ff, ↓guardV_tf, ↓guardV_ft, ↓keepV_some, ↓qElse_some, ↓get_hit, ↓Option.bind_some, ↓if_true, ↓if_false, List.nil_append, List.cons_append, List.all_nil, List.all_cons, List.isEmpty_nil, reduceCtorEq, Bool.false_eq_true, Nat.reduceEqDiff, beq_self_eq_true, bne_self_eq_false, Bool.not_true, Bool.not_false, Int.natCast_nonneg, Nat.lt_irrefl, false_and, Int.reduceEq, rf_int, rf_bool, rf_tuple_ints, rf_u8s, arr_list, toList2, Bool.and_self, Nat.not_lt_zero, Nat.sub_zero, Nat.zero_le, Nat.le_add_right, cells_agg, cells_agg_size, cells_int, cells_int_size, okV_int, okV_bool, okV_str, okV_agg, okV_ptr, okV_slice, okV_func, okV_nilFunc, okV_iface, okV_nilIface, cells_bool, cells_bool_size, cells_ptr, cells_ptr_size, cells_slice, cells_slice_size, cells_str, cells_str_size, eq_self, wrapI64_small, Int.natCast_zero, Int.natCast_one, Int.cast_ofNat_Int, List.length_nil, List.length_cons, List.getElem?_cons_zero, List.getElem?_cons_succ, List.set_cons_zero, List.set_cons_succ, Nat.zero_add, Nat.add_zero, Nat.mul_one, Nat.zero_mul, Int.toNat_natCast, Int.toNat_zero, Int.lt_irrefl, Int.le_refl, Nat.le_refl, and_self, true_and, and_true, decide_true, decide_false, Int.reduceLE, Int.reduceLT, Int.reduceAdd, Int.reduceMul, Int.reduceSub, Int.reduceTDiv, Int.reduceTMod, Int.reduceNeg, Int.reduceToNat, Int.reduceGT, Int.reduceGE, Int.reducePow, Nat.reduceAdd, Nat.reduceMul, Nat.reduceSub, Nat.reduceDiv, Nat.reduceMod, Nat.reducePow, Nat.reduceLT, Nat.reduceLeDiff, Nat.min_self, ge_iff_le, gt_iff_lt, Option.isNone_none, Option.isSome_none, Option.isNone_some, Option.isSome_some, Bool.and_true, Bool.true_and, Bool.and_false, Bool.false_and, not_true_eq_false, not_false_eq_true, or_true, true_or, false_or, or_false, hget0, hgetK, hset0, hsetK, splice_single, splice_whole, take_whole, List.getElem?_nil, List.length_append, List.append_assoc, hz5, hs, hb, pwI, eV_cells, eV_size, eV_ok, eV_fold, ns_len, l0, l1, l2, l3, rf_eV]
  rfl
def onX (i : Nat) : List Nat := dig (2 ^ 8) 32 (2 ^ i - 1)
def onI (less : Value) (n : Int) (k : List Nat) (i : Nat) (ex : Env) : St := ⟨[(1, less), (4, .pointer (some ⟨0, 0, none⟩)), (5, .pointer (some ⟨1, 0, none⟩)), (7, .int .i64 n), (8, .int .i64 i)] ++ ex, [⟨u8s (dig 256 32 0), true, true, true, 1⟩, ⟨u8s k, true, true, true, 1⟩], []⟩
theorem on_body {less : Value} {n i : Nat} (hn : n ≤ 256) (hi : i < n) : evCode T 0 a84_l0 (onI less n (onX i) i []) = some (.normal, onI less n (onX (i + 1)) (i + 1) []) := by
  have hlen : (onX i).length = 32 := dig_len _ _ _
  obtain ⟨y, hy⟩ : ∃ b, (onX i)[i / 8]? = some b := ⟨_, List.getElem?_eq_getElem (by omega)⟩
  have hyc := u8s_get hy
  have hy' : y < 2 ^ 8 := dig_lt (by decide) (List.mem_of_getElem? hy)
  have hsm : (2 : Nat) ^ (i % 8) ≤ 2 ^ 7 := Nat.pow_le_pow_right (by decide) (by have := Nat.mod_lt i (by decide : 0 < 8); omega)
  have hp : 0 < (2 : Nat) ^ i := Nat.pow_pos (by decide)
  have hput := dig_put (w := 8) (m := 32) (q := i / 8) (s := i % 8) (y := 1) (M := 2 ^ i - 1) (by omega) (Nat.mod_lt _ (by decide)) (by rw [Nat.div_add_mod]; omega) (by omega)
  rw [Nat.div_add_mod, show 2 ^ i - 1 + 1 * 2 ^ i = 2 ^ (i + 1) - 1 by rw [Nat.pow_succ]; omega] at hput
  have hgd : (dig (2 ^ 8) 32 (2 ^ i - 1)).getD (i / 8) 0 = y := by rw [List.getD_eq_getElem?_getD]; unfold onX at hy; rw [hy]; rfl
  rw [hgd, Nat.one_mul] at hput
  have hset := u8s_set (onX i) (i / 8) (y ||| 2 ^ (i % 8))
  rw [show (onX i).set (i / 8) (y ||| 2 ^ (i % 8)) = onX (i + 1) from hput] at hset
  have s1 : (2 : Int) ^ min (i % 8) IntKind.u8.bits = ((2 ^ (i % 8) : Nat) : Int) := pow_min (Nat.le_of_lt (Nat.mod_lt _ (by decide)))
  have o1 : bitsOp .or .u8 (y : Int) ((2 ^ (i % 8) : Nat) : Int) = ((y ||| 2 ^ (i % 8) : Nat) : Int) := bits_or rfl (by show _ < 256; omega) (by show _ < 256; omega)
  have n1 : (2 ^ (i % 8)) % 256 = 2 ^ (i % 8) := Nat.mod_eq_of_lt (Nat.lt_of_le_of_lt hsm (by decide))
  have w2 : IntKind.i64.wrap ((i / 8 : Nat) : Int) = ((i / 8 : Nat) : Int) := wrap_nat (by omega)
  have w3 : IntKind.i64.wrap ((i + 1 : Nat) : Int) = ((i + 1 : Nat) : Int) := wrap_nat (by omega)
  have e1 : ((i : Int) < (n : Int)) = True := eq_true (by omega)
  have e3 : (((i / 8 : Nat) : Int) < 32) = True := eq_true (by omega)
  have e4 : (((i % 8 : Nat) : Int) < 0) = False := eq_false (by omega)
  have e6 : i / 8 + 1 ≤ 32 := by omega
  have p1 : 1 * 2 ^ (i % 8) = 2 ^ (i % 8) := Nat.one_mul _
  simp only [onI, a84_l0, envOf, evCode_skip, evCode_exit, evCode_seq, fs_blockS, fs_blockR, fs_blockC, fs_blockK, fs_blockB, evCode_ret, quiet, keep_nil, keep_cons, fs_cond, fs_region, fs_regionP, fs_nil, fs_guard, fs_move, fs_pick, fs_alloc, fs_box, fs_load, fs_store, fs_bin, fs_eqv, fs_isNil, fs_un, fs_conv, fs_convStr, fs_field, fs_index, fs_indexStr, fs_build, fs_buildSlice, fs_fieldAddr, fs_indexAddr, fs_indexSl, fs_sliceArr, fs_sliceSl, fs_sliceStr, fs_makeSlice, fs_extract, fs_mkIface, fs_mkFunc, fs_nilCheck, fs_s2ap, fs_len, fs_minmax, fs_s2b, fs_b2s, fs_append, fs_copy, fs_callW, fs_callR, fs_callv, opd_tmp, opd_const, opd_func, opds_nil, opds_cons, opdOpt_none, opdOpt_some, opdParts_nil, opdParts_cons, get_miss, vPick_t, vPick_f, vEq_agg, vEq_aggN, vEq_bool, vEq_boolN, vConv_int, vStr_s, vField_agg, vIndex_agg, vIndexStr_s, vFieldAddr_p, vIndexAddr_p, vIndexSl_s, vSliceArr_p, vSliceSl_s, vSliceSl_n, vSliceStr_s, vExtract_t, vNilCheck_p, vS2ap_s, vLen_s, vLen_str, vMin_i, vMax_i, vLoad_p, vStore_p, baseP_p, vB2s_s, vMake_i, vS2b_s, callee_f, liveAt_eq, storeAt_eq, partL_none, partL_some, natIn_none, natIn_int, bounds3_two, bin_add, bin_sub, bin_mul, bin_quo, bin_rem, bin_and, bin_or, bin_xor, bin_andNot, bin_eql, bin_neq, bin_lss, bin_leq, bin_gtr, bin_geq, bin_shl, bin_shr, bin_sadd, bin_seql, bin_sneq, un_not, un_neg, un_xor, after_some, put_some, put_none, res_nil, res_val, res_var, packed_one, packed_two, merge_nil, merge_ge, rf_tup2, rfIn_int, rfIn_bool, rfIn_u8s, rf_str, rfIn_str, ↓gate_true, gd_bool, gd_ut, gd_uf, ↓guardV_tt, ↓guardV_ff, ↓guardV_tf, ↓guardV_ft, ↓keepV_some, ↓qElse_some, ↓get_hit, ↓Option.bind_some, ↓if_true, ↓if_false, List.nil_append, List.cons_append, List.all_nil, List.all_cons, List.isEmpty_nil, reduceCtorEq, Bool.false_eq_true, Nat.reduceEqDiff, beq_self_eq_true, bne_self_eq_false, Bool.not_true, Bool.not_false, Int.natCast_nonneg, Nat.lt_irrefl, false_and, Int.reduceEq, rf_int, rf_bool, rf_tuple_ints, rf_u8s, arr_list, toList2, Bool.and_self, Nat.not_lt_zero, Nat.sub_zero, Nat.zero_le, Nat.le_add_right, cells_agg, cells_agg_size, cells_int, cells_int_size, okV_int, okV_bool, okV_str, okV_agg, okV_ptr, okV_slice, okV_func, okV_nilFunc, okV_iface, okV_nilIface, cells_bool, cells_bool_size, cells_ptr, cells_ptr_size, cells_slice, cells_slice_size, cells_str, cells_str_size, eq_self, wrapI64_small, Int.natCast_zero, Int.natCast_one, Int.cast_ofNat_Int, List.length_nil, List.length_cons, List.getElem?_cons_zero, List.getElem?_cons_succ, List.set_cons_zero, List.set_cons_succ, Nat.zero_add, Nat.add_zero, Nat.mul_one, Nat.zero_mul, Int.toNat_natCast, Int.toNat_zero, Int.lt_irrefl, Int.le_refl, Nat.le_refl, and_self, true_and, and_true, decide_true, decide_false, Int.reduceLE, Int.reduceLT, Int.reduceAdd, Int.reduceMul, Int.reduceSub, Int.reduceTDiv, Int.reduceTMod, Int.reduceNeg, Int.reduceToNat, Int.reduceGT, Int.reduceGE, Int.reducePow, Nat.reduceAdd, Nat.reduceMul, Nat.reduceSub, Nat.reduceDiv, Nat.reduceMod, Nat.reducePow, Nat.reduceLT, Nat.reduceLeDiff, Nat.min_self, ge_iff_le, gt_iff_lt, Option.isNone_none, Option.isSome_none, Option.isNone_some, Option.isSome_some, Bool.and_true, Bool.true_and, Bool.and_false, Bool.false_and, not_true_eq_false, not_false_eq_true, or_true, true_or, false_or, or_false, hget0, hgetK, hset0, hsetK, splice_single, splice_whole, take_whole, List.getElem?_nil, List.length_append, List.append_assoc, n_add, n_mul, n_ladd, n_addl, n_lmul, n_mull, n_fdiv, n_fdivl, n_tdiv, n_tmod, n_w64, n_w32, n_w16, n_w8, n_sub64, n_lsub64, n_subl64, n_m32, n_m51, n_m1, n_m1b, n_m7b, p64_32, p64_51, p64_13, p8_7, hyc, s1, o1, n1, w2, w3, e1, e3, e4, e6, p1, hset, u8s_len, hlen]
theorem ones_v {n less : Nat} (hn : n ≤ 256) (h8 : 8 ≤ n) (hl : less < 256) : evVal T 84 [.int .i64 n, .int .u8 less] = some (.agg (u8s (dig 256 32 (2 ^ n - 1 - less))).toArray) := by
  have hb := block_loop (T := T) (base := 0) (id := 0) (body := a84_l0) (fun i => onI (.int .u8 less) n (onX i) i []) (s' := onI (.int .u8 less) n (onX n) n [(9, .bool false)]) n (fun i hi => on_body hn hi) (by
    have e1 : ((n : Int) < (n : Int)) = False := eq_false (by omega)
    simp only [onI, a84_l0, envOf, evCode_skip, evCode_exit, evCode_seq, fs_blockS, fs_blockR, fs_blockC, fs_blockK, fs_blockB, evCode_ret, quiet, keep_nil, keep_cons, fs_cond, fs_region, fs_regionP, fs_nil, fs_guard, fs_move, fs_pick, fs_alloc, fs_box, fs_load, fs_store, fs_bin, fs_eqv, fs_isNil, fs_un, fs_conv, fs_convStr, fs_field, fs_index, fs_indexStr, fs_build, fs_buildSlice, fs_fieldAddr, fs_indexAddr, fs_indexSl, fs_sliceArr, fs_sliceSl, fs_sliceStr, fs_makeSlice, fs_extract, fs_mkIface, fs_mkFunc, fs_nilCheck, fs_s2ap, fs_len, fs_minmax, fs_s2b, fs_b2s, fs_append, fs_copy, fs_callW, fs_callR, fs_callv, opd_tmp, opd_const, opd_func, opds_nil, opds_cons, opdOpt_none, opdOpt_some, opdParts_nil, opdParts_cons, get_miss, vPick_t, vPick_f, vEq_agg, vEq_aggN, vEq_bool, vEq_boolN, vConv_int, vStr_s, vField_agg, vIndex_agg, vIndexStr_s, vFieldAddr_p, vIndexAddr_p, vIndexSl_s, vSliceArr_p, vSliceSl_s, vSliceSl_n, vSliceStr_s, vExtract_t, vNilCheck_p, vS2ap_s, vLen_s, vLen_str, vMin_i, vMax_i, vLoad_p, vStore_p, baseP_p, vB2s_s, vMake_i, vS2b_s, callee_f, liveAt_eq, storeAt_eq, partL_none, partL_some, natIn_none, natIn_int, bounds3_two, bin_add, bin_sub, bin_mul, bin_quo, bin_rem, bin_and, bin_or, bin_xor, bin_andNot, bin_eql, bin_neq, bin_lss, bin_leq, bin_gtr, bin_geq, bin_shl, bin_shr, bin_sadd, bin_seql, bin_sneq, un_not, un_neg, un_xor, after_some, put_some, put_none, res_nil, res_val, res_var, packed_one, packed_two, merge_nil, merge_ge, rf_tup2, rfIn_int, rfIn_bool, rfIn_u8s, rf_str, rfIn_str, ↓gate_true, gd_bool, gd_ut, gd_uf, ↓guardV_tt, ↓guardV_ff, ↓guardV_tf, ↓guardV_ft, ↓keepV_some, ↓qElse_some, ↓get_hit, ↓Option.bind_some, ↓if_true, ↓if_false, List.nil_append, List.cons_append, List.all_nil, List.all_cons, List.isEmpty_nil, reduceCtorEq, Bool.false_eq_true, Nat.reduceEqDiff, beq_self_eq_true, bne_self_eq_false, Bool.not_true, Bool.not_false, Int.natCast_nonneg, Nat.lt_irrefl, false_and, Int.reduceEq, rf_int, rf_bool, rf_tuple_ints, rf_u8s, arr_list, toList2, Bool.and_self, Nat.not_lt_zero, Nat.sub_zero, Nat.zero_le, Nat.le_add_right, cells_agg, cells_agg_size, cells_int, cells_int_size, okV_int, okV_bool, okV_str, okV_agg, okV_ptr, okV_slice, okV_func, okV_nilFunc, okV_iface, okV_nilIface, cells_bool, cells_bool_size, cells_ptr, cells_ptr_size, cells_slice, cells_slice_size, cells_str, cells_str_size, eq_self, wrapI64_small, Int.natCast_zero, Int.natCast_one, Int.cast_ofNat_Int, List.length_nil, List.length_cons, List.getElem?_cons_zero, List.getElem?_cons_succ, List.set_cons_zero, List.set_cons_succ, Nat.zero_add, Nat.add_zero, Nat.mul_one, Nat.zero_mul, Int.toNat_natCast, Int.toNat_zero, Int.lt_irrefl, Int.le_refl, Nat.le_refl, and_self, true_and, and_true, decide_true, decide_false, Int.reduceLE, Int.reduceLT, Int.reduceAdd, Int.reduceMul, Int.reduceSub, Int.reduceTDiv, Int.reduceTMod, Int.reduceNeg, Int.reduceToNat, Int.reduceGT, Int.reduceGE, Int.reducePow, Nat.reduceAdd, Nat.reduceMul, Nat.reduceSub, Nat.reduceDiv, Nat.reduceMod, Nat.reducePow, Nat.reduceLT, Nat.reduceLeDiff, Nat.min_self, ge_iff_le, gt_iff_lt, Option.isNone_none, Option.isSome_none, Option.isNone_some, Option.isSome_some, Bool.and_true, Bool.true_and, Bool.and_false, Bool.false_and, not_true_eq_false, not_false_eq_true, or_true, true_or, false_or, or_false, e1])
  rw [show onX 0 = dig 256 32 0 from rfl] at hb
  have hp8 : (256 : Nat) ≤ 2 ^ n := by
    have := Nat.pow_le_pow_right (n := 2) (by decide) h8
    exact this
  have hmod : 2 ^ n % 256 = 0 := by
    rw [show n = 8 + (n - 8) by omega, Nat.pow_add]; exact Nat.mul_mod_right _ _
  have h0 : (onX n)[0]? = some 255 := by
    unfold onX
    rw [dig_get (by decide), Nat.pow_zero, Nat.div_one]
    congr 1
    omega
  have h0c := u8s_get h0
  have w0 : IntKind.u8.wrap (255 - (less : Int)) = ((255 - less : Nat) : Int) := by rw [wrap_u8]; omega
  have hset := u8s_set (onX n) 0 (255 - less)
  have hfin : (onX n).set 0 (255 - less) = dig 256 32 (2 ^ n - 1 - less) := by
    apply dig_ext (by rw [List.length_set]; exact dig_len _ _ _)
    intro t ht
    by_cases h0t : t = 0
    · subst h0t
      rw [List.getElem?_set_self (by rw [show (onX n).length = 32 from dig_len _ _ _]; decide), Nat.pow_zero, Nat.div_one]
      congr 1
      omega
    · rw [List.getElem?_set_ne (Ne.symm h0t)]
      unfold onX
      rw [dig_get ht]
      congr 2
      obtain ⟨m, rfl⟩ : ∃ m, t = m + 1 := ⟨t - 1, by omega⟩
      rw [show (2 : Nat) ^ 8 = 256 from rfl, Nat.pow_succ, Nat.mul_comm, ← Nat.div_div_eq_div_mul, ← Nat.div_div_eq_div_mul]
      congr 1
      omega
  rw [hfin] at hset
  simp only [Int.cast_ofNat_Int] at h0c
  have l1 : (dig 256 32 (2 ^ n - 1 - less)).length = 32 := dig_len _ _ _
  have l2 : (onX n).length = 32 := dig_len _ _ _
  have l3 : (dig 256 32 0).length = 32 := rfl
  have hz32 : List.replicate 32 (Value.int .u8 0) = u8s (dig 256 32 0) := rfl
  simp only [onI, List.cons_append, List.nil_append, Int.natCast_zero] at hb
  apply evVal_ex
  apply Exists.intro
  rw [evFun_fn (fn := a84) rfl]
  simp only [a84, envOf, evCode_skip, evCode_exit, evCode_seq, fs_blockS, fs_blockR, fs_blockC, fs_blockK, fs_blockB, evCode_ret, quiet, keep_nil, keep_cons, fs_cond, fs_region, fs_regionP, fs_nil, fs_guard, fs_move, fs_pick, fs_alloc, fs_box, fs_load, fs_store, fs_bin, fs_eqv, fs_isNil, fs_un, fs_conv, fs_convStr, fs_field, fs_index, fs_indexStr, fs_build, fs_buildSlice, fs_fieldAddr, fs_indexAddr, fs_indexSl, fs_sliceArr, fs_sliceSl, fs_sliceStr, fs_makeSlice, fs_extract, fs_mkIface, fs_mkFunc, fs_nilCheck, fs_s2ap, fs_len, fs_minmax, fs_s2b, fs_b2s, fs_append, fs_copy, fs_callW, fs_callR, fs_callv, opd_tmp, opd_const, opd_func, opds_nil, opds_cons, opdOpt_none, opdOpt_some, opdParts_nil, opdParts_cons, get_miss, vPick_t, vPick_f, vEq_agg, vEq_aggN, vEq_bool, vEq_boolN, vConv_int, vStr_s, vField_agg, vIndex_agg, vIndexStr_s, vFieldAddr_p, vIndexAddr_p, vIndexSl_s, vSliceArr_p, vSliceSl_s, vSliceSl_n, vSliceStr_s, vExtract_t, vNilCheck_p, vS2ap_s, vLen_s, vLen_str, vMin_i, vMax_i, vLoad_p, vStore_p, baseP_p, vB2s_s, vMake_i, vS2b_s, callee_f, liveAt_eq, storeAt_eq, partL_none, partL_some, natIn_none, natIn_int, bounds3_two, bin_add, bin_sub, bin_mul, bin_quo, bin_rem, bin_and, bin_or, bin_xor, bin_andNot, bin_eql, bin_neq, bin_lss, bin_leq, bin_gtr, bin_geq, bin_shl, bin_shr, bin_sadd, bin_seql, bin_sneq, un_not, un_neg, un_xor, after_some, put_some, put_none, res_nil, res_val, res_var, packed_one, packed_two, merge_nil, merge_ge, rf_tup2, rfIn_int, rfIn_bool, rfIn_u8s, rf_str, rfIn_str, ↓gate_true, gd_bool, gd_ut, gd_uf, ↓guardV_tt, ↓guardV_ff, ↓guardV_tf, ↓guardV_ft, ↓keepV_some, ↓qElse_some, ↓get_hit, ↓Option.bind_some, ↓if_true, ↓if_false, List.nil_append, List.cons_append, List.all_nil, List.all_cons, List.isEmpty_nil, reduceCtorEq, Bool.false_eq_true, Nat.reduceEqDiff, beq_self_eq_true, bne_self_eq_false, Bool.not_true, Bool.not_false, Int.natCast_nonneg, Nat.lt_irrefl, false_and, Int.reduceEq, rf_int, rf_bool, rf_tuple_ints, rf_u8s, arr_list, toList2, Bool.and_self, Nat.not_lt_zero, Nat.sub_zero, Nat.zero_le, Nat.le_add_right, cells_agg, cells_agg_size, cells_int, cells_int_size, okV_int, okV_bool, okV_str, okV_agg, okV_ptr, okV_slice, okV_func, okV_nilFunc, okV_iface, okV_nilIface, cells_bool, cells_bool_size, cells_ptr, cells_ptr_size, cells_slice, cells_slice_size, cells_str, cells_str_size, eq_self, wrapI64_small, Int.natCast_zero, Int.natCast_one, Int.cast_ofNat_Int, List.length_nil, List.length_cons, List.getElem?_cons_zero, List.getElem?_cons_succ, List.set_cons_zero, List.set_cons_succ, Nat.zero_add, Nat.add_zero, Nat.mul_one, Nat.zero_mul, Int.toNat_natCast, Int.toNat_zero, Int.lt_irrefl, Int.le_refl, Nat.le_refl, and_self, true_and, and_true, decide_true, decide_false, Int.reduceLE, Int.reduceLT, Int.reduceAdd, Int.reduceMul, Int.reduceSub, Int.reduceTDiv, Int.reduceTMod, Int.reduceNeg, Int.reduceToNat, Int.reduceGT, Int.reduceGE, Int.reducePow, Nat.reduceAdd, Nat.reduceMul, Nat.reduceSub, Nat.reduceDiv, Nat.reduceMod, Nat.reducePow, Nat.reduceLT, Nat.reduceLeDiff, Nat.min_self, ge_iff_le, gt_iff_lt, Option.isNone_none, Option.isSome_none, Option.isNone_some, Option.isSome_some, Bool.and_true, Bool.true_and, Bool.and_false, Bool.false_and, not_true_eq_false, not_false_eq_true, or_true, true_or, false_or, or_false, hget0, hgetK, hset0, hsetK, splice_single, splice_whole, take_whole, List.getElem?_nil, List.length_append, List.append_assoc, hz32, hb, onI, h0c, w0, hset, u8s_len, l1, l2, l3]
  rfl
theorem dig32_lt {v : Nat} : ∀ x ∈ dig 256 32 v, x < 256 := fun _ h => dig_lt (by decide) h
theorem power_ones {x : List Nat} {n less : Nat} (hx : El x (2 ^ 52)) (hn : n ≤ 256) (h8 : 8 ≤ n) (hl : less < 256) : ∃ r, evVal T 83 [eV x, .agg (u8s (dig 256 32 (2 ^ n - 1 - less))).toArray] = some (eV r) ∧ El r (2 ^ 52) ∧ fe r = Go.Fp.pow (fe x) (2 ^ n - 1 - less) := by
  obtain ⟨r, h1, h2, h3⟩ := power_v (k := dig 256 32 (2 ^ n - 1 - less)) hx (dig_len _ _ _) dig32_lt
  refine ⟨r, h1, h2, ?_⟩
  rw [h3, num_dig (by decide), Nat.mod_eq_of_lt]
  have h4 : (2 : Nat) ^ n ≤ 256 ^ 32 := by
    rw [show (256 : Nat) ^ 32 = 2 ^ 256 from by rw [show (256 : Nat) = 2 ^ 8 from rfl, ← Nat.pow_mul]]
    exact Nat.pow_le_pow_right (by decide) hn
  have : 0 < (2 : Nat) ^ n := Nat.pow_pos (by decide)
  omega
theorem invert_v {x : List Nat} (hx : El x (2 ^ 52)) : ∃ r, evVal T 56 [eV x] = some (eV r) ∧ El r (2 ^ 52) ∧ fe r = Go.Fp.iv (fe x) := by
  have h1 := ones_v (n := 255) (less := 20) (by decide) (by decide) (by decide)
  obtain ⟨r, h2, h3, h4⟩ := power_ones (n := 255) (less := 20) hx (by decide) (by decide) (by decide)
  refine ⟨r, ?_, h3, ?_⟩
  · have hz5 : List.replicate 5 (Value.int .u64 0) = ns .u64 [0, 0, 0, 0, 0] := rfl
    have l0 : ([0, 0, 0, 0, 0] : List Nat).length = 5 := rfl
    have l1 := hx.len
    have l2 := h3.len
    simp only [Int.cast_ofNat_Int] at h1
    generalize dig 256 32 (2 ^ 255 - 1 - 20) = K at *
    apply evVal_ex
    apply Exists.intro
    rw [evFun_fn (fn := a56) rfl]
    simp only [a56, envOf, evCode_skip, evCode_exit, evCode_seq, fs_blockS, fs_blockR, fs_blockC, fs_blockK, fs_blockB, evCode_ret, quiet, keep_nil, keep_cons, fs_cond, fs_region, fs_regionP, fs_nil, fs_guard, fs_move, fs_pick, fs_alloc, fs_box, fs_load, fs_store, fs_bin, fs_eqv, fs_isNil, fs_un, fs_conv, fs_convStr, fs_field, fs_index, fs_indexStr, fs_build, fs_buildSlice, fs_fieldAddr, fs_indexAddr, fs_indexSl, fs_sliceArr, fs_sliceSl, fs_sliceStr, fs_makeSlice, fs_extract, fs_mkIface, fs_mkFunc, fs_nilCheck, fs_s2ap, fs_len, fs_minmax, fs_s2b, fs_b2s, fs_append, fs_copy, fs_callW, fs_callR, fs_callv, opd_tmp, opd_const, opd_func, opds_nil, opds_cons, opdOpt_none, opdOpt_some, opdParts_nil, opdParts_cons, get_miss, vPick_t, vPick_f, vEq_agg, vEq_aggN, vEq_bool, vEq_boolN, vConv_int, vStr_s, vField_agg, vIndex_agg, vIndexStr_s, vFieldAddr_p, vIndexAddr_p, vIndexSl_s, vSliceArr_p, vSliceSl_s, vSliceSl_n, vSliceStr_s, vExtract_t, vNilCheck_p, vS2ap_s, vLen_s, vLen_str, vMin_i, vMax_i, vLoad_p, vStore_p, baseP_p, vB2s_s, vMake_i, vS2b_s, callee_f, liveAt_eq, storeAt_eq, partL_none, partL_some, natIn_none, natIn_int, bounds3_two, bin_add, bin_sub, bin_mul, bin_quo, bin_rem, bin_and, bin_or, bin_xor, bin_andNot, bin_eql, bin_neq, bin_lss, bin_leq, bin_gtr, bin_geq, bin_shl, bin_shr, bin_sadd, bin_seql, bin_sneq, un_not, un_neg, un_xor, after_some, put_some, put_none, res_nil, res_val, res_var, packed_one, packed_two, merge_nil, merge_ge, rf_tup2, rfIn_int, rfIn_bool, rfIn_u8s, rf_str, rfIn_str, ↓gate_true, gd_bool, gd_ut, gd_uf, ↓guardV_tt, ↓guardV_ff, ↓guardV_tf, ↓guardV_ft, ↓keepV_some, ↓qElse_some, ↓get_hit, ↓Option.bind_some, ↓if_true, ↓if_false, List.nil_append, List.cons_append, List.all_nil, List.all_cons, List.isEmpty_nil, reduceCtorEq, Bool.false_eq_true, Nat.reduceEqDiff, beq_self_eq_true, bne_self_eq_false, Bool.not_true, Bool.not_false, Int.natCast_nonneg, Nat.lt_irrefl, false_and, Int.reduceEq, rf_int, rf_bool, rf_tuple_ints, rf_u8s, arr_list, toList2, Bool.and_self, Nat.not_lt_zero, Nat.sub_zero, Nat.zero_le, Nat.le_add_right, cells_agg, cells_agg_size, cells_int, cells_int_size, okV_int, okV_bool, okV_str, okV_agg, okV_ptr, okV_slice, okV_func, okV_nilFunc, okV_iface, okV_nilIface, cells_bool, cells_bool_size, cells_ptr, cells_ptr_size, cells_slice, cells_slice_size, cells_str, cells_str_size, eq_self, wrapI64_small, Int.natCast_zero, Int.natCast_one, Int.cast_ofNat_Int, List.length_nil, List.length_cons, List.getElem?_cons_zero, List.getElem?_cons_succ, List.set_cons_zero, List.set_cons_succ, Nat.zero_add, Nat.add_zero, Nat.mul_one, Nat.zero_mul, Int.toNat_natCast, Int.toNat_zero, Int.lt_irrefl, Int.le_refl, Nat.le_refl, and_self, true_and, and_true, decide_true, decide_false, Int.reduceLE, Int.reduceLT, Int.reduceAdd, Int.reduceMul, Int.reduceSub, Int.reduceTDiv, Int.reduceTMod, Int.reduceNeg, Int.reduceToNat, Int.reduceGT, Int.reduceGE, Int.reducePow, Nat.reduceAdd, Nat.reduceMul, Nat.reduceSub, Nat.reduceDiv, Nat.reduceMod, Nat.reducePow, Nat.reduceLT, Nat.reduceLeDiff, Nat.min_self, ge_iff_le, gt_iff_lt, Option.isNone_none, Option.isSome_none, Option.isNone_some, Option.isSome_some, Bool.and_true, Bool.true_and, Bool.and_false, Bool.false_and, not_true_eq_false, not_false_eq_true, or_true, true_or, false_or, or_false, hget0, hgetK, hset0, hsetK, splice_single, splice_whole, take_whole, List.getElem?_nil, List.length_append, List.append_assoc, hz5, h1, h2, eV_cells, eV_size, eV_ok, eV_fold, ns_len, l0, l1, l2, rf_eV]
    rfl
  · rw [h4]
    unfold Go.Fp.iv
    rw [Go.Fp.P_eq]
end Go.Ev.Ytaceeoghjgggjaa
set_option linter.unusedSimpArgs false
set_option linter.unusedVariables false
namespace Go.Ev
section
variable {T : Tab} {b : Nat}
theorem evOps_append : ∀ (o1 o2 : List AOper) (s : St) (recs : List Rec), evOps T b (o1 ++ o2) s recs = (evOps T b o1 s recs).bind fun r => evOps T b o2 r.1 r.2
  | [], o2, s, recs => by rw [evOps_nil]; rfl
  | o :: o1, o2, s, recs => by
    rw [List.cons_append, evOps_cons, evOps_cons]
    cases hg : guardOf s.env o.guard with
    | none => rfl
    | some g =>
      cases g with
      | false => exact evOps_append o1 o2 _ _
      | true =>
        cases hx : evOper T o.op s.env s.h with
        | none => simp [hx]
        | some x =>
          simp only [hx, Option.bind_some]
          exact evOps_append o1 o2 _ _
theorem evOps_more : ∀ (ops : List AOper) (s : St) (recs : List Rec) (s' : St), steps T b false ops s = some s' → ∃ m, evOps T b ops s recs = some (s', recs ++ m)
  | [], s, recs, s', h => by
    simp only [steps, Option.some.injEq] at h
    subst h
    exact ⟨[], by rw [evOps_nil, List.append_nil]⟩
  | o :: r, s, recs, s', h => by
    rw [evOps_cons]
    unfold steps at h
    cases hg : guardOf s.env o.guard with
    | none => simp only [hg] at h; cases h
    | some g =>
      simp only [hg] at h
      cases g with
      | false =>
        obtain ⟨m, h1⟩ := evOps_more r _ (recs ++ [(some [], [])]) s' h
        exact ⟨(some [], []) :: m, by rw [h1]; simp⟩
      | true =>
        cases hx : evOper T o.op s.env s.h with
        | none => simp [hx] at h
        | some x =>
          simp only [hx, Option.bind_some, Bool.false_and, Bool.false_eq_true, if_false] at h
          obtain ⟨m, h1⟩ := evOps_more r _ (recs ++ [(x.2.2.1, x.2.2.2)]) s' h
          exact ⟨(x.2.2.1, x.2.2.2) :: m, by simp only [hx, Option.bind_some]; rw [h1]; simp⟩
theorem pairsOk_app {r1 r2 : List Rec} : ∀ {pairs : List (Nat × Nat)}, (pairs.all fun p => decide (p.1 < r1.length) && decide (p.2 < r1.length)) = true → pairsOk r1 pairs = true → pairsOk (r1 ++ r2) pairs = true
  | [], _, _ => rfl
  | (i, j) :: ps, h, k => by
    simp only [List.all_cons, Bool.and_eq_true, decide_eq_true_eq] at h
    simp only [pairsOk, List.all_cons, Bool.and_eq_true] at k ⊢
    have ih := pairsOk_app (r1 := r1) (r2 := r2) (pairs := ps) h.2 k.2
    simp only [pairsOk] at ih
    refine ⟨?_, ih⟩
    rw [List.getElem?_append_left h.1.1, List.getElem?_append_left h.1.2]
    exact k.1
def lastOf : List (Nat × Nat) → Nat
  | [] => 0
  | (_, j) :: r => if j + 1 ≤ lastOf r then lastOf r else j + 1
theorem lastOf_nil : lastOf [] = 0 := rfl
theorem lastOf_cons {i j : Nat} {r : List (Nat × Nat)} : lastOf ((i, j) :: r) = if j + 1 ≤ lastOf r then lastOf r else j + 1 := rfl
def quiet2 (T : Tab) (b : Nat) (ops : List AOper) (pairs : List (Nat × Nat)) (s : St) : Option St :=
  gate ((pairs.all fun p => decide (p.1 < lastOf pairs) && decide (p.2 < lastOf pairs)) = true ∧ lastOf pairs ≤ ops.length)
    ((steps T b true (ops.take (lastOf pairs)) s).bind fun s1 => steps T b false (ops.drop (lastOf pairs)) s1)
theorem quiet2_eq {ops : List AOper} {pairs : List (Nat × Nat)} {s : St} : quiet2 T b ops pairs s = gate ((pairs.all fun p => decide (p.1 < lastOf pairs) && decide (p.2 < lastOf pairs)) = true ∧ lastOf pairs ≤ ops.length)
    ((steps T b true (ops.take (lastOf pairs)) s).bind fun s1 => steps T b false (ops.drop (lastOf pairs)) s1) := Eq.trans rfl rfl
theorem fs_regionQ {ops : List AOper} {keep : Option (List Nat)} {p : Nat × Nat} {ps : List (Nat × Nat)} {s : St} : evCode T b (.region ops keep (p :: ps)) s = qElse ((quiet2 T b ops (p :: ps) s).bind fun s' => some (.normal, s'.after keep)) (inText T b (.region ops keep (p :: ps)) s) := by
  cases hq : quiet2 T b ops (p :: ps) s with
  | none => rfl
  | some s' =>
    simp only [Option.bind_some, qElse]
    unfold quiet2 gate at hq
    split at hq
    · rename_i hp
      simp only [Option.bind_eq_some_iff] at hq
      obtain ⟨s1, k1, k2⟩ := hq
      obtain ⟨recs, h1, h2, h3⟩ := evOps_quiet _ s [] s1 k1 (by simp)
      obtain ⟨m, h4⟩ := evOps_more _ s1 recs s' k2
      simp only [List.length_nil, Nat.zero_add, List.length_take, Nat.min_eq_left hp.2] at h3
      rw [evCode_region]
      conv => lhs; rw [← List.take_append_drop (lastOf (p :: ps)) ops]
      rw [evOps_append, h1]
      simp only [Option.bind_some, h4]
      have hpk := hp.1
      rw [← h3] at hpk
      rw [if_pos (pairsOk_app hpk (pairsOk_quiet h2 hpk))]
    · cases hq
end
end Go.Ev
set_option linter.unusedSimpArgs false
set_option linter.unusedVariables false
namespace Go.Ev.Ytaceeoghjgggjaa
open Go Go.Ev
attribute [local congr] bind_congr2 ite_congr2 qElse_congr gate_congr guardV_congr
set_option maxRecDepth 100000
theorem take_all {cs : List Value} {n : Nat} (h : cs.length = n) : cs.take n = cs := List.take_of_length_le (by omega)
def pL (x y z t : List Nat) : List Nat := x ++ (y ++ (z ++ t))
def pV (x y z t : List Nat) : Value := .agg (ns .u64 (pL x y z t)).toArray
theorem rf_pV (x y z t : List Nat) : rf (pV x y z t) = true := rf_ns _ _
theorem pV_cells (x y z t : List Nat) : (pV x y z t).cells.toList = ns .u64 (pL x y z t) := rfl
theorem pV_size (x y z t : List Nat) : (pV x y z t).cells.size = (pL x y z t).length := ns_len _ _
theorem pV_ok (x y z t : List Nat) : okVar (pV x y z t) = true := rfl
theorem pV_fold (x y z t : List Nat) : Value.agg (ns .u64 (pL x y z t)).toArray = pV x y z t := rfl
theorem pL_len {x y z t : List Nat} {b : Nat} (hx : El x b) (hy : El y b) (hz : El z b) (ht : El t b) : (pL x y z t).length = 20 := by
  simp [pL, hx.len, hy.len, hz.len, ht.len]
theorem quad {x y z t : List Nat} {b : Nat} (hx : El x b) (hy : El y b) (hz : El z b) (ht : El t b) :
    List.take 5 (ns .u64 (pL x y z t)) = ns .u64 x ∧ List.take 5 (List.drop 5 (ns .u64 (pL x y z t))) = ns .u64 y ∧ List.take 5 (List.drop 10 (ns .u64 (pL x y z t))) = ns .u64 z ∧ List.take 5 (List.drop 15 (ns .u64 (pL x y z t))) = ns .u64 t := by
  obtain ⟨a0, a1, a2, a3, a4, rfl, -⟩ := hx.five
  obtain ⟨b0, b1, b2, b3, b4, rfl, -⟩ := hy.five
  obtain ⟨c0, c1, c2, c3, c4, rfl, -⟩ := hz.five
  obtain ⟨d0, d1, d2, d3, d4, rfl, -⟩ := ht.five
  exact ⟨rfl, rfl, rfl, rfl⟩
theorem fill2 {a b : List Nat} {k : Nat} (ha : El a k) (hb : El b k) : fillL (List.replicate 10 (Value.int .u64 0)) [(0, 5, eV a), (5, 5, eV b)] = some (ns .u64 (a ++ b)) := by
  obtain ⟨a0, a1, a2, a3, a4, rfl, -⟩ := ha.five
  obtain ⟨b0, b1, b2, b3, b4, rfl, -⟩ := hb.five
  rfl
theorem fill3 {a b c : List Nat} {k : Nat} (ha : El a k) (hb : El b k) (hc : El c k) : fillL (List.replicate 15 (Value.int .u64 0)) [(0, 5, eV a), (5, 5, eV b), (10, 5, eV c)] = some (ns .u64 [a, b, c].flatten) := by
  obtain ⟨a0, a1, a2, a3, a4, rfl, -⟩ := ha.five
  obtain ⟨b0, b1, b2, b3, b4, rfl, -⟩ := hb.five
  obtain ⟨c0, c1, c2, c3, c4, rfl, -⟩ := hc.five
  rfl
theorem fill4 {a b c d : List Nat} {k : Nat} (ha : El a k) (hb : El b k) (hc : El c k) (hd : El d k) : fillL (List.replicate 20 (Value.int .u64 0)) [(0, 5, eV a), (5, 5, eV b), (10, 5, eV c), (15, 5, eV d)] = some (ns .u64 (pL a b c d)) := by
  obtain ⟨a0, a1, a2, a3, a4, rfl, -⟩ := ha.five
  obtain ⟨b0, b1, b2, b3, b4, rfl, -⟩ := hb.five
  obtain ⟨c0, c1, c2, c3, c4, rfl, -⟩ := hc.five
  obtain ⟨d0, d1, d2, d3, d4, rfl, -⟩ := hd.five
  rfl
theorem pL_flat (a b c d : List Nat) : pL a b c d = [a, b, c, d].flatten := by simp [pL]
theorem two_E : El [2, 0, 0, 0, 0] (2 ^ 52) := small_el (by decide)
theorem two_v : evVal T 50 [.int .u32 2] = some (eV [2, 0, 0, 0, 0]) := small_v (n := 2) (by decide)
theorem two_fe : fe [2, 0, 0, 0, 0] = 2 := by rw [small_fe]; rfl
theorem plus_v {x1 y1 z1 t1 x2 y2 z2 t2 d : List Nat} (Ex1 : El x1 (2 ^ 52)) (Ey1 : El y1 (2 ^ 52)) (Ez1 : El z1 (2 ^ 52)) (Et1 : El t1 (2 ^ 52)) (Ex2 : El x2 (2 ^ 52)) (Ey2 : El y2 (2 ^ 52)) (Ez2 : El z2 (2 ^ 52)) (Et2 : El t2 (2 ^ 52)) (Ed : El d (2 ^ 52)) :
    ∃ x y z t, evVal T 54 [pV x1 y1 z1 t1, pV x2 y2 z2 t2, eV d] = some (pV x y z t) ∧ El x (2 ^ 52) ∧ El y (2 ^ 52) ∧ El z (2 ^ 52) ∧ El t (2 ^ 52) ∧
      ∃ a b c e : Go.Fp.Fe, a = (fe y1 - fe x1) * (fe y2 - fe x2) ∧ b = (fe y1 + fe x1) * (fe y2 + fe x2) ∧ c = 1 * 2 * fe d * fe t1 * fe t2 ∧ e = 1 * 2 * fe z1 * fe z2 ∧
        fe x = (b - a) * (e - c) ∧ fe y = (e + c) * (b + a) ∧ fe z = (e - c) * (e + c) ∧ fe t = (b - a) * (b + a) := by
  obtain ⟨two, htwo⟩ : ∃ two : List Nat, two = [2, 0, 0, 0, 0] := ⟨_, rfl⟩
  have Etwo : El two (2 ^ 52) := by rw [htwo]; exact two_E
  have vtwo : evVal T 50 [.int .u32 2] = some (eV two) := by rw [htwo]; exact two_v
  have ftwo : fe two = 2 := by rw [htwo]; exact two_fe
  clear htwo
  obtain ⟨r1, hr1, Er1, fr1⟩ := sub_v Ey1 Ex1
  obtain ⟨r2, hr2, Er2, fr2⟩ := sub_v Ey2 Ex2
  obtain ⟨r3, hr3, Er3, fr3⟩ := mul_ev Er1 Er2
  obtain ⟨r4, sr4, hr4, Er4, fr4⟩ := add2_ev (H := [⟨ns .u64 (pL x1 y1 z1 t1), true, true, true, 1⟩, ⟨ns .u64 (pL x2 y2 z2 t2), true, true, true, 1⟩, ⟨ns .u64 d, true, true, true, 1⟩, ⟨List.replicate 20 (.int .u64 0), true, true, true, 1⟩, ⟨ns .u64 r3, true, true, true, 1⟩, ⟨ns .u64 (y1 ++ x1), true, true, true, 1⟩]) (id := 5) Ey1 Ex1 rfl
  simp only [List.cons_append, List.nil_append] at hr4
  obtain ⟨r5, sr5, hr5, Er5, fr5⟩ := add2_ev (H := [⟨ns .u64 (pL x1 y1 z1 t1), true, true, true, 1⟩, ⟨ns .u64 (pL x2 y2 z2 t2), true, true, true, 1⟩, ⟨ns .u64 d, true, true, true, 1⟩, ⟨List.replicate 20 (.int .u64 0), true, true, true, 1⟩, ⟨ns .u64 r3, true, true, true, 1⟩, ⟨ns .u64 (y1 ++ x1), true, true, true, 1⟩, ⟨ns .u64 r4, true, true, true, 1⟩, ⟨ns .u64 sr4, true, true, true, 1⟩, ⟨ns .u64 y1, true, true, true, 1⟩, ⟨ns .u64 x1, true, true, true, 1⟩, ⟨ns .u64 (y2 ++ x2), true, true, true, 1⟩]) (id := 10) Ey2 Ex2 rfl
  simp only [List.cons_append, List.nil_append] at hr5
  obtain ⟨r6, hr6, Er6, fr6⟩ := mul_ev Er4 Er5
  obtain ⟨r7, hr7, Er7, fr7⟩ := prod_ev (H := [⟨ns .u64 (pL x1 y1 z1 t1), true, true, true, 1⟩, ⟨ns .u64 (pL x2 y2 z2 t2), true, true, true, 1⟩, ⟨ns .u64 d, true, true, true, 1⟩, ⟨List.replicate 20 (.int .u64 0), true, true, true, 1⟩, ⟨ns .u64 r3, true, true, true, 1⟩, ⟨ns .u64 (y1 ++ x1), true, true, true, 1⟩, ⟨ns .u64 r4, true, true, true, 1⟩, ⟨ns .u64 sr4, true, true, true, 1⟩, ⟨ns .u64 y1, true, true, true, 1⟩, ⟨ns .u64 x1, true, true, true, 1⟩, ⟨ns .u64 (y2 ++ x2), true, true, true, 1⟩, ⟨ns .u64 r5, true, true, true, 1⟩, ⟨ns .u64 sr5, true, true, true, 1⟩, ⟨ns .u64 y2, true, true, true, 1⟩, ⟨ns .u64 x2, true, true, true, 1⟩, ⟨ns .u64 r6, true, true, true, 1⟩, ⟨ns .u64 [two, d, t1, t2].flatten, true, true, true, 1⟩]) (id := 16) (n := 4) (xs := [two, d, t1, t2]) rfl (by decide) (by intro w hw; simp only [List.mem_cons, List.not_mem_nil, or_false] at hw; rcases hw with rfl | rfl | rfl | rfl <;> assumption) rfl
  simp only [List.cons_append, List.nil_append, List.map_cons, List.map_nil, List.foldl_cons, List.foldl_nil] at hr7 fr7
  obtain ⟨r8, hr8, Er8, fr8⟩ := prod_ev (H := [⟨ns .u64 (pL x1 y1 z1 t1), true, true, true, 1⟩, ⟨ns .u64 (pL x2 y2 z2 t2), true, true, true, 1⟩, ⟨ns .u64 d, true, true, true, 1⟩, ⟨List.replicate 20 (.int .u64 0), true, true, true, 1⟩, ⟨ns .u64 r3, true, true, true, 1⟩, ⟨ns .u64 (y1 ++ x1), true, true, true, 1⟩, ⟨ns .u64 r4, true, true, true, 1⟩, ⟨ns .u64 sr4, true, true, true, 1⟩, ⟨ns .u64 y1, true, true, true, 1⟩, ⟨ns .u64 x1, true, true, true, 1⟩, ⟨ns .u64 (y2 ++ x2), true, true, true, 1⟩, ⟨ns .u64 r5, true, true, true, 1⟩, ⟨ns .u64 sr5, true, true, true, 1⟩, ⟨ns .u64 y2, true, true, true, 1⟩, ⟨ns .u64 x2, true, true, true, 1⟩, ⟨ns .u64 r6, true, true, true, 1⟩, ⟨ns .u64 [two, d, t1, t2].flatten, true, true, true, 1⟩, ⟨ns .u64 r7, true, true, true, 1⟩, ⟨ns .u64 r7, true, true, true, 1⟩, ⟨ns .u64 two, true, true, true, 1⟩, ⟨ns .u64 d, true, true, true, 1⟩, ⟨ns .u64 t1, true, true, true, 1⟩, ⟨ns .u64 t2, true, true, true, 1⟩, ⟨ns .u64 r7, true, true, true, 1⟩, ⟨ns .u64 [two, z1, z2].flatten, true, true, true, 1⟩]) (id := 24) (n := 3) (xs := [two, z1, z2]) rfl (by decide) (by intro w hw; simp only [List.mem_cons, List.not_mem_nil, or_false] at hw; rcases hw with rfl | rfl | rfl <;> assumption) rfl
  simp only [List.cons_append, List.nil_append, List.map_cons, List.map_nil, List.foldl_cons, List.foldl_nil] at hr8 fr8
  obtain ⟨r9, hr9, Er9, fr9⟩ := sub_v Er6 Er3
  obtain ⟨r10, hr10, Er10, fr10⟩ := sub_v Er8 Er7
  obtain ⟨r11, sr11, hr11, Er11, fr11⟩ := add2_ev (H := [⟨ns .u64 (pL x1 y1 z1 t1), true, true, true, 1⟩, ⟨ns .u64 (pL x2 y2 z2 t2), true, true, true, 1⟩, ⟨ns .u64 d, true, true, true, 1⟩, ⟨List.replicate 20 (.int .u64 0), true, true, true, 1⟩, ⟨ns .u64 r3, true, true, true, 1⟩, ⟨ns .u64 (y1 ++ x1), true, true, true, 1⟩, ⟨ns .u64 r4, true, true, true, 1⟩, ⟨ns .u64 sr4, true, true, true, 1⟩, ⟨ns .u64 y1, true, true, true, 1⟩, ⟨ns .u64 x1, true, true, true, 1⟩, ⟨ns .u64 (y2 ++ x2), true, true, true, 1⟩, ⟨ns .u64 r5, true, true, true, 1⟩, ⟨ns .u64 sr5, true, true, true, 1⟩, ⟨ns .u64 y2, true, true, true, 1⟩, ⟨ns .u64 x2, true, true, true, 1⟩, ⟨ns .u64 r6, true, true, true, 1⟩, ⟨ns .u64 [two, d, t1, t2].flatten, true, true, true, 1⟩, ⟨ns .u64 r7, true, true, true, 1⟩, ⟨ns .u64 r7, true, true, true, 1⟩, ⟨ns .u64 two, true, true, true, 1⟩, ⟨ns .u64 d, true, true, true, 1⟩, ⟨ns .u64 t1, true, true, true, 1⟩, ⟨ns .u64 t2, true, true, true, 1⟩, ⟨ns .u64 r7, true, true, true, 1⟩, ⟨ns .u64 [two, z1, z2].flatten, true, true, true, 1⟩, ⟨ns .u64 r8, true, true, true, 1⟩, ⟨ns .u64 r8, true, true, true, 1⟩, ⟨ns .u64 two, true, true, true, 1⟩, ⟨ns .u64 z1, true, true, true, 1⟩, ⟨ns .u64 z2, true, true, true, 1⟩, ⟨ns .u64 r8, true, true, true, 1⟩, ⟨ns .u64 (r8 ++ r7), true, true, true, 1⟩]) (id := 31) Er8 Er7 rfl
  simp only [List.cons_append, List.nil_append] at hr11
  obtain ⟨r12, sr12, hr12, Er12, fr12⟩ := add2_ev (H := [⟨ns .u64 (pL x1 y1 z1 t1), true, true, true, 1⟩, ⟨ns .u64 (pL x2 y2 z2 t2), true, true, true, 1⟩, ⟨ns .u64 d, true, true, true, 1⟩, ⟨List.replicate 20 (.int .u64 0), true, true, true, 1⟩, ⟨ns .u64 r3, true, true, true, 1⟩, ⟨ns .u64 (y1 ++ x1), true, true, true, 1⟩, ⟨ns .u64 r4, true, true, true, 1⟩, ⟨ns .u64 sr4, true, true, true, 1⟩, ⟨ns .u64 y1, true, true, true, 1⟩, ⟨ns .u64 x1, true, true, true, 1⟩, ⟨ns .u64 (y2 ++ x2), true, true, true, 1⟩, ⟨ns .u64 r5, true, true, true, 1⟩, ⟨ns .u64 sr5, true, true, true, 1⟩, ⟨ns .u64 y2, true, true, true, 1⟩, ⟨ns .u64 x2, true, true, true, 1⟩, ⟨ns .u64 r6, true, true, true, 1⟩, ⟨ns .u64 [two, d, t1, t2].flatten, true, true, true, 1⟩, ⟨ns .u64 r7, true, true, true, 1⟩, ⟨ns .u64 r7, true, true, true, 1⟩, ⟨ns .u64 two, true, true, true, 1⟩, ⟨ns .u64 d, true, true, true, 1⟩, ⟨ns .u64 t1, true, true, true, 1⟩, ⟨ns .u64 t2, true, true, true, 1⟩, ⟨ns .u64 r7, true, true, true, 1⟩, ⟨ns .u64 [two, z1, z2].flatten, true, true, true, 1⟩, ⟨ns .u64 r8, true, true, true, 1⟩, ⟨ns .u64 r8, true, true, true, 1⟩, ⟨ns .u64 two, true, true, true, 1⟩, ⟨ns .u64 z1, true, true, true, 1⟩, ⟨ns .u64 z2, true, true, true, 1⟩, ⟨ns .u64 r8, true, true, true, 1⟩, ⟨ns .u64 (r8 ++ r7), true, true, true, 1⟩, ⟨ns .u64 r11, true, true, true, 1⟩, ⟨ns .u64 sr11, true, true, true, 1⟩, ⟨ns .u64 r8, true, true, true, 1⟩, ⟨ns .u64 r7, true, true, true, 1⟩, ⟨ns .u64 (r6 ++ r3), true, true, true, 1⟩]) (id := 36) Er6 Er3 rfl
  simp only [List.cons_append, List.nil_append] at hr12
  obtain ⟨r13, hr13, Er13, fr13⟩ := mul_ev Er9 Er10
  obtain ⟨r14, hr14, Er14, fr14⟩ := mul_ev Er11 Er12
  obtain ⟨r15, hr15, Er15, fr15⟩ := mul_ev Er10 Er11
  obtain ⟨r16, hr16, Er16, fr16⟩ := mul_ev Er9 Er12
  refine ⟨r13, r14, r15, r16, ?_, Er13, Er14, Er15, Er16, fe r3, fe r6, fe r7, fe r8, ?_⟩
  · obtain ⟨q10, q11, q12, q13⟩ := quad Ex1 Ey1 Ez1 Et1
    obtain ⟨q20, q21, q22, q23⟩ := quad Ex2 Ey2 Ez2 Et2
    have p1 := pL_len Ex1 Ey1 Ez1 Et1
    have p2 := pL_len Ex2 Ey2 Ez2 Et2
    have p3 := pL_len Er13 Er14 Er15 Er16
    have k4 := fill4 Etwo Ed Et1 Et2
    rw [pL_flat] at k4
    have k3 := fill3 Etwo Ez1 Ez2
    have kp := fill4 Er13 Er14 Er15 Er16
    have m1 := fill2 Ey1 Ex1
    have m2 := fill2 Ey2 Ex2
    have m3 := fill2 Er8 Er7
    have m4 := fill2 Er6 Er3
    have Lx1 := Ex1.len
    have Ly1 := Ey1.len
    have Lz1 := Ez1.len
    have Lt1 := Et1.len
    have Lx2 := Ex2.len
    have Ly2 := Ey2.len
    have Lz2 := Ez2.len
    have Lt2 := Et2.len
    have Ld := Ed.len
    have Ltwo := Etwo.len
    have Lr1 := Er1.len
    have Lr2 := Er2.len
    have Lr3 := Er3.len
    have Lr4 := Er4.len
    have Lr5 := Er5.len
    have Lr6 := Er6.len
    have Lr7 := Er7.len
    have Lr8 := Er8.len
    have Lr9 := Er9.len
    have Lr10 := Er10.len
    have Lr11 := Er11.len
    have Lr12 := Er12.len
    have Lr13 := Er13.len
    have Lr14 := Er14.len
    have Lr15 := Er15.len
    have Lr16 := Er16.len
    apply evVal_ex
    apply Exists.intro
    rw [evFun_fn (fn := a54) rfl]
    simp only [a54, envOf, evCode_skip, evCode_exit, evCode_seq, fs_blockS, fs_blockR, fs_blockC, fs_blockK, fs_blockB, evCode_ret, quiet, keep_nil, keep_cons, fs_cond, fs_region, fs_regionQ, quiet2_eq, lastOf_nil, lastOf_cons, List.take_succ_cons, List.take_zero, List.drop_succ_cons, List.drop_zero, Int.reduceBEq, Int.reduceBNe,  fs_nil, fs_guard, fs_move, fs_pick, fs_alloc, fs_box, fs_load, fs_store, fs_bin, fs_eqv, fs_isNil, fs_un, fs_conv, fs_convStr, fs_field, fs_index, fs_indexStr, fs_build, fs_buildSlice, fs_fieldAddr, fs_indexAddr, fs_indexSl, fs_sliceArr, fs_sliceSl, fs_sliceStr, fs_makeSlice, fs_extract, fs_mkIface, fs_mkFunc, fs_nilCheck, fs_s2ap, fs_len, fs_minmax, fs_s2b, fs_b2s, fs_append, fs_copy, fs_callW, fs_callR, fs_callv, opd_tmp, opd_const, opd_func, opds_nil, opds_cons, opdOpt_none, opdOpt_some, opdParts_nil, opdParts_cons, get_miss, vPick_t, vPick_f, vEq_agg, vEq_aggN, vEq_bool, vEq_boolN, vConv_int, vStr_s, vField_agg, vIndex_agg, vIndexStr_s, vFieldAddr_p, vIndexAddr_p, vIndexSl_s, vSliceArr_p, vSliceSl_s, vSliceSl_n, vSliceStr_s, vExtract_t, vNilCheck_p, vS2ap_s, vLen_s, vLen_str, vMin_i, vMax_i, vLoad_p, vStore_p, baseP_p, vB2s_s, vMake_i, vS2b_s, callee_f, liveAt_eq, storeAt_eq, partL_none, partL_some, natIn_none, natIn_int, bounds3_two, bin_add, bin_sub, bin_mul, bin_quo, bin_rem, bin_and, bin_or, bin_xor, bin_andNot, bin_eql, bin_neq, bin_lss, bin_leq, bin_gtr, bin_geq, bin_shl, bin_shr, bin_sadd, bin_seql, bin_sneq, un_not, un_neg, un_xor, after_some, put_some, put_none, res_nil, res_val, res_var, packed_one, packed_two, merge_nil, merge_ge, rf_tup2, rfIn_int, rfIn_bool, rfIn_u8s, rf_str, rfIn_str, ↓gate_true, gd_bool, gd_ut, gd_uf, ↓guardV_tt, ↓guardV_ff, ↓guardV_tf, ↓guardV_ft, ↓keepV_some, ↓qElse_some, ↓get_hit, ↓Option.bind_some, ↓if_true, ↓if_false, List.nil_append, List.cons_append, List.all_nil, List.all_cons, List.isEmpty_nil, reduceCtorEq, Bool.false_eq_true, Nat.reduceEqDiff, beq_self_eq_true, bne_self_eq_false, Bool.not_true, Bool.not_false, Int.natCast_nonneg, Nat.lt_irrefl, false_and, Int.reduceEq, rf_int, rf_bool, rf_tuple_ints, rf_u8s, arr_list, toList2, Bool.and_self, Nat.not_lt_zero, Nat.sub_zero, Nat.zero_le, Nat.le_add_right, cells_agg, cells_agg_size, cells_int, cells_int_size, okV_int, okV_bool, okV_str, okV_agg, okV_ptr, okV_slice, okV_func, okV_nilFunc, okV_iface, okV_nilIface, cells_bool, cells_bool_size, cells_ptr, cells_ptr_size, cells_slice, cells_slice_size, cells_str, cells_str_size, eq_self, wrapI64_small, Int.natCast_zero, Int.natCast_one, Int.cast_ofNat_Int, List.length_nil, List.length_cons, List.getElem?_cons_zero, List.getElem?_cons_succ, List.set_cons_zero, List.set_cons_succ, Nat.zero_add, Nat.add_zero, Nat.mul_one, Nat.zero_mul, Int.toNat_natCast, Int.toNat_zero, Int.lt_irrefl, Int.le_refl, Nat.le_refl, and_self, true_and, and_true, decide_true, decide_false, Int.reduceLE, Int.reduceLT, Int.reduceAdd, Int.reduceMul, Int.reduceSub, Int.reduceTDiv, Int.reduceTMod, Int.reduceNeg, Int.reduceToNat, Int.reduceGT, Int.reduceGE, Int.reducePow, Nat.reduceAdd, Nat.reduceMul, Nat.reduceSub, Nat.reduceDiv, Nat.reduceMod, Nat.reducePow, Nat.reduceLT, Nat.reduceLeDiff, Nat.min_self, ge_iff_le, gt_iff_lt, Option.isNone_none, Option.isSome_none, Option.isNone_some, Option.isSome_some, Bool.and_true, Bool.true_and, Bool.and_false, Bool.false_and, not_true_eq_false, not_false_eq_true, or_true, true_or, false_or, or_false, hget0, hgetK, hset0, hsetK, splice_single, splice_whole, take_whole, List.getElem?_nil, List.length_append, List.append_assoc, List.length_replicate, take_all, pV_cells, pV_size, pV_ok, pV_fold, rf_pV, eV_cells, eV_size, eV_ok, eV_fold, rf_eV, ns_len, q10, q11, q12, q13, q20, q21, q22, q23, p1, p2, p3, k4, k3, kp, m1, m2, m3, m4, vtwo, hr1, hr2, hr3, hr4, hr5, hr6, hr7, hr8, hr9, hr10, hr11, hr12, hr13, hr14, hr15, hr16, Lx1, Ly1, Lz1, Lt1, Lx2, Ly2, Lz2, Lt2, Ld, Ltwo, Lr1, Lr2, Lr3, Lr4, Lr5, Lr6, Lr7, Lr8, Lr9, Lr10, Lr11, Lr12, Lr13, Lr14, Lr15, Lr16]
    rfl
  · refine ⟨?_, ?_, ?_, ?_, ?_, ?_, ?_, ?_⟩
    · rw [fr3, fr1, fr2]
    · rw [fr6, fr4, fr5]
    · rw [fr7, ftwo]
    · rw [fr8, ftwo]
    · rw [fr13, fr9, fr10]
    · rw [fr14, fr11, fr12]
    · rw [fr15, fr10, fr11]
    · rw [fr16, fr9, fr12]
end Go.Ev.Ytaceeoghjgggjaa
set_option linter.unusedSimpArgs false
set_option linter.unusedVariables false
namespace Go.Ev.Ytaceeoghjgggjaa
open Go Go.Ev
attribute [local congr] bind_congr2 ite_congr2 qElse_congr gate_congr guardV_congr
set_option maxRecDepth 100000
theorem twice_v {x1 y1 z1 t1 : List Nat} (Ex1 : El x1 (2 ^ 52)) (Ey1 : El y1 (2 ^ 52)) (Ez1 : El z1 (2 ^ 52)) (Et1 : El t1 (2 ^ 52)) :
    ∃ x y z t, evVal T 53 [pV x1 y1 z1 t1] = some (pV x y z t) ∧ El x (2 ^ 52) ∧ El y (2 ^ 52) ∧ El z (2 ^ 52) ∧ El t (2 ^ 52) ∧
      ∃ a b c h e g f : Go.Fp.Fe, a = fe x1 * fe x1 ∧ b = fe y1 * fe y1 ∧ c = 1 * 2 * fe z1 * fe z1 ∧ h = a + b ∧ e = h - (fe x1 + fe y1) * (fe x1 + fe y1) ∧ g = a - b ∧ f = c + g ∧
        fe x = e * f ∧ fe y = g * h ∧ fe z = f * g ∧ fe t = e * h := by
  obtain ⟨two, htwo⟩ : ∃ two : List Nat, two = [2, 0, 0, 0, 0] := ⟨_, rfl⟩
  have Etwo : El two (2 ^ 52) := by rw [htwo]; exact two_E
  have vtwo : evVal T 50 [.int .u32 2] = some (eV two) := by rw [htwo]; exact two_v
  have ftwo : fe two = 2 := by rw [htwo]; exact two_fe
  clear htwo
  obtain ⟨r1, hr1, Er1, fr1⟩ := mul_ev Ex1 Ex1
  obtain ⟨r2, hr2, Er2, fr2⟩ := mul_ev Ey1 Ey1
  obtain ⟨r3, hr3, Er3, fr3⟩ := prod_ev (H := [⟨ns .u64 (pL x1 y1 z1 t1), true, true, true, 1⟩, ⟨List.replicate 20 (.int .u64 0), true, true, true, 1⟩, ⟨ns .u64 r1, true, true, true, 1⟩, ⟨ns .u64 r2, true, true, true, 1⟩, ⟨ns .u64 [two, z1, z1].flatten, true, true, true, 1⟩]) (id := 4) (n := 3) (xs := [two, z1, z1]) rfl (by decide) (by intro w hw; simp only [List.mem_cons, List.not_mem_nil, or_false] at hw; rcases hw with rfl | rfl | rfl <;> assumption) rfl
  simp only [List.cons_append, List.nil_append, List.map_cons, List.map_nil, List.foldl_cons, List.foldl_nil] at hr3 fr3
  obtain ⟨r4, sr4, hr4, Er4, fr4⟩ := add2_ev (H := [⟨ns .u64 (pL x1 y1 z1 t1), true, true, true, 1⟩, ⟨List.replicate 20 (.int .u64 0), true, true, true, 1⟩, ⟨ns .u64 r1, true, true, true, 1⟩, ⟨ns .u64 r2, true, true, true, 1⟩, ⟨ns .u64 [two, z1, z1].flatten, true, true, true, 1⟩, ⟨ns .u64 r3, true, true, true, 1⟩, ⟨ns .u64 r3, true, true, true, 1⟩, ⟨ns .u64 two, true, true, true, 1⟩, ⟨ns .u64 z1, true, true, true, 1⟩, ⟨ns .u64 z1, true, true, true, 1⟩, ⟨ns .u64 r3, true, true, true, 1⟩, ⟨ns .u64 (r1 ++ r2), true, true, true, 1⟩]) (id := 11) Er1 Er2 rfl
  simp only [List.cons_append, List.nil_append] at hr4
  obtain ⟨r5, sr5, hr5, Er5, fr5⟩ := add2_ev (H := [⟨ns .u64 (pL x1 y1 z1 t1), true, true, true, 1⟩, ⟨List.replicate 20 (.int .u64 0), true, true, true, 1⟩, ⟨ns .u64 r1, true, true, true, 1⟩, ⟨ns .u64 r2, true, true, true, 1⟩, ⟨ns .u64 [two, z1, z1].flatten, true, true, true, 1⟩, ⟨ns .u64 r3, true, true, true, 1⟩, ⟨ns .u64 r3, true, true, true, 1⟩, ⟨ns .u64 two, true, true, true, 1⟩, ⟨ns .u64 z1, true, true, true, 1⟩, ⟨ns .u64 z1, true, true, true, 1⟩, ⟨ns .u64 r3, true, true, true, 1⟩, ⟨ns .u64 (r1 ++ r2), true, true, true, 1⟩, ⟨ns .u64 r4, true, true, true, 1⟩, ⟨ns .u64 sr4, true, true, true, 1⟩, ⟨ns .u64 r1, true, true, true, 1⟩, ⟨ns .u64 r2, true, true, true, 1⟩, ⟨ns .u64 r4, true, true, true, 1⟩, ⟨ns .u64 (x1 ++ y1), true, true, true, 1⟩]) (id := 17) Ex1 Ey1 rfl
  simp only [List.cons_append, List.nil_append] at hr5
  obtain ⟨r6, hr6, Er6, fr6⟩ := mul_ev Er5 Er5
  obtain ⟨r7, hr7, Er7, fr7⟩ := sub_v Er4 Er6
  obtain ⟨r8, hr8, Er8, fr8⟩ := sub_v Er1 Er2
  obtain ⟨r9, sr9, hr9, Er9, fr9⟩ := add2_ev (H := [⟨ns .u64 (pL x1 y1 z1 t1), true, true, true, 1⟩, ⟨List.replicate 20 (.int .u64 0), true, true, true, 1⟩, ⟨ns .u64 r1, true, true, true, 1⟩, ⟨ns .u64 r2, true, true, true, 1⟩, ⟨ns .u64 [two, z1, z1].flatten, true, true, true, 1⟩, ⟨ns .u64 r3, true, true, true, 1⟩, ⟨ns .u64 r3, true, true, true, 1⟩, ⟨ns .u64 two, true, true, true, 1⟩, ⟨ns .u64 z1, true, true, true, 1⟩, ⟨ns .u64 z1, true, true, true, 1⟩, ⟨ns .u64 r3, true, true, true, 1⟩, ⟨ns .u64 (r1 ++ r2), true, true, true, 1⟩, ⟨ns .u64 r4, true, true, true, 1⟩, ⟨ns .u64 sr4, true, true, true, 1⟩, ⟨ns .u64 r1, true, true, true, 1⟩, ⟨ns .u64 r2, true, true, true, 1⟩, ⟨ns .u64 r4, true, true, true, 1⟩, ⟨ns .u64 (x1 ++ y1), true, true, true, 1⟩, ⟨ns .u64 r5, true, true, true, 1⟩, ⟨ns .u64 sr5, true, true, true, 1⟩, ⟨ns .u64 x1, true, true, true, 1⟩, ⟨ns .u64 y1, true, true, true, 1⟩, ⟨ns .u64 r5, true, true, true, 1⟩, ⟨ns .u64 r7, true, true, true, 1⟩, ⟨ns .u64 r8, true, true, true, 1⟩, ⟨ns .u64 (r3 ++ r8), true, true, true, 1⟩]) (id := 25) Er3 Er8 rfl
  simp only [List.cons_append, List.nil_append] at hr9
  obtain ⟨r10, hr10, Er10, fr10⟩ := mul_ev Er7 Er9
  obtain ⟨r11, hr11, Er11, fr11⟩ := mul_ev Er8 Er4
  obtain ⟨r12, hr12, Er12, fr12⟩ := mul_ev Er9 Er8
  obtain ⟨r13, hr13, Er13, fr13⟩ := mul_ev Er7 Er4
  refine ⟨r10, r11, r12, r13, ?_, Er10, Er11, Er12, Er13, fe r1, fe r2, fe r3, fe r4, fe r7, fe r8, fe r9, ?_⟩
  · obtain ⟨q10, q11, q12, q13⟩ := quad Ex1 Ey1 Ez1 Et1
    have p1 := pL_len Ex1 Ey1 Ez1 Et1
    have p3 := pL_len Er10 Er11 Er12 Er13
    have k3 := fill3 Etwo Ez1 Ez1
    have kp := fill4 Er10 Er11 Er12 Er13
    have m1 := fill2 Er1 Er2
    have m2 := fill2 Ex1 Ey1
    have m3 := fill2 Er3 Er8
    have Lx1 := Ex1.len
    have Ly1 := Ey1.len
    have Lz1 := Ez1.len
    have Lt1 := Et1.len
    have Ltwo := Etwo.len
    have Lr1 := Er1.len
    have Lr2 := Er2.len
    have Lr3 := Er3.len
    have Lr4 := Er4.len
    have Lr5 := Er5.len
    have Lr6 := Er6.len
    have Lr7 := Er7.len
    have Lr8 := Er8.len
    have Lr9 := Er9.len
    have Lr10 := Er10.len
    have Lr11 := Er11.len
    have Lr12 := Er12.len
    have Lr13 := Er13.len
    apply evVal_ex
    apply Exists.intro
    rw [evFun_fn (fn := a53) rfl]
    simp only [a53, envOf, evCode_skip, evCode_exit, evCode_seq, fs_blockS, fs_blockR, fs_blockC, fs_blockK, fs_blockB, evCode_ret, quiet, keep_nil, keep_cons, fs_cond, fs_region, fs_regionQ, quiet2_eq, lastOf_nil, lastOf_cons, List.take_succ_cons, List.take_zero, List.drop_succ_cons, List.drop_zero, Int.reduceBEq, Int.reduceBNe,  fs_nil, fs_guard, fs_move, fs_pick, fs_alloc, fs_box, fs_load, fs_store, fs_bin, fs_eqv, fs_isNil, fs_un, fs_conv, fs_convStr, fs_field, fs_index, fs_indexStr, fs_build, fs_buildSlice, fs_fieldAddr, fs_indexAddr, fs_indexSl, fs_sliceArr, fs_sliceSl, fs_sliceStr, fs_makeSlice, fs_extract, fs_mkIface, fs_mkFunc, fs_nilCheck, fs_s2ap, fs_len, fs_minmax, fs_s2b, fs_b2s, fs_append, fs_copy, fs_callW, fs_callR, fs_callv, opd_tmp, opd_const, opd_func, opds_nil, opds_cons, opdOpt_none, opdOpt_some, opdParts_nil, opdParts_cons, get_miss, vPick_t, vPick_f, vEq_agg, vEq_aggN, vEq_bool, vEq_boolN, vConv_int, vStr_s, vField_agg, vIndex_agg, vIndexStr_s, vFieldAddr_p, vIndexAddr_p, vIndexSl_s, vSliceArr_p, vSliceSl_s, vSliceSl_n, vSliceStr_s, vExtract_t, vNilCheck_p, vS2ap_s, vLen_s, vLen_str, vMin_i, vMax_i, vLoad_p, vStore_p, baseP_p, vB2s_s, vMake_i, vS2b_s, callee_f, liveAt_eq, storeAt_eq, partL_none, partL_some, natIn_none, natIn_int, bounds3_two, bin_add, bin_sub, bin_mul, bin_quo, bin_rem, bin_and, bin_or, bin_xor, bin_andNot, bin_eql, bin_neq, bin_lss, bin_leq, bin_gtr, bin_geq, bin_shl, bin_shr, bin_sadd, bin_seql, bin_sneq, un_not, un_neg, un_xor, after_some, put_some, put_none, res_nil, res_val, res_var, packed_one, packed_two, merge_nil, merge_ge, rf_tup2, rfIn_int, rfIn_bool, rfIn_u8s, rf_str, rfIn_str, ↓gate_true, gd_bool, gd_ut, gd_uf, ↓guardV_tt, ↓guardV_ff, ↓guardV_tf, ↓guardV_ft, ↓keepV_some, ↓qElse_some, ↓get_hit, ↓Option.bind_some, ↓if_true, ↓if_false, List.nil_append, List.cons_append, List.all_nil, List.all_cons, List.isEmpty_nil, reduceCtorEq, Bool.false_eq_true, Nat.reduceEqDiff, beq_self_eq_true, bne_self_eq_false, Bool.not_true, Bool.not_false, Int.natCast_nonneg, Nat.lt_irrefl, false_and, Int.reduceEq, rf_int, rf_bool, rf_tuple_ints, rf_u8s, arr_list, toList2, Bool.and_self, Nat.not_lt_zero, Nat.sub_zero, Nat.zero_le, Nat.le_add_right, cells_agg, cells_agg_size, cells_int, cells_int_size, okV_int, okV_bool, okV_str, okV_agg, okV_ptr, okV_slice, okV_func, okV_nilFunc, okV_iface, okV_nilIface, cells_bool, cells_bool_size, cells_ptr, cells_ptr_size, cells_slice, cells_slice_size, cells_str, cells_str_size, eq_self, wrapI64_small, Int.natCast_zero, Int.natCast_one, Int.cast_ofNat_Int, List.length_nil, List.length_cons, List.getElem?_cons_zero, List.getElem?_cons_succ, List.set_cons_zero, List.set_cons_succ, Nat.zero_add, Nat.add_zero, Nat.mul_one, Nat.zero_mul, Int.toNat_natCast, Int.toNat_zero, Int.lt_irrefl, Int.le_refl, Nat.le_refl, and_self, true_and, and_true, decide_true, decide_false, Int.reduceLE, Int.reduceLT, Int.reduceAdd, Int.reduceMul, Int.reduceSub, Int.reduceTDiv, Int.reduceTMod, Int.reduceNeg, Int.reduceToNat, Int.reduceGT, Int.reduceGE, Int.reducePow, Nat.reduceAdd, Nat.reduceMul, Nat.reduceSub, Nat.reduceDiv, Nat.reduceMod, Nat.reducePow, Nat.reduceLT, Nat.reduceLeDiff, Nat.min_self, ge_iff_le, gt_iff_lt, Option.isNone_none, Option.isSome_none, Option.isNone_some, Option.isSome_some, Bool.and_true, Bool.true_and, Bool.and_false, Bool.false_and, not_true_eq_false, not_false_eq_true, or_true, true_or, false_or, or_false, hget0, hgetK, hset0, hsetK, splice_single, splice_whole, take_whole, List.getElem?_nil, List.length_append, List.append_assoc, List.length_replicate, take_all, pV_cells, pV_size, pV_ok, pV_fold, rf_pV, eV_cells, eV_size, eV_ok, eV_fold, rf_eV, ns_len, q10, q11, q12, q13, p1, p3, k3, kp, m1, m2, m3, vtwo, hr1, hr2, hr3, hr4, hr5, hr6, hr7, hr8, hr9, hr10, hr11, hr12, hr13, Lx1, Ly1, Lz1, Lt1, Ltwo, Lr1, Lr2, Lr3, Lr4, Lr5, Lr6, Lr7, Lr8, Lr9, Lr10, Lr11, Lr12, Lr13]
    rfl
  · refine ⟨fr1, fr2, by rw [fr3, ftwo], fr4, by rw [fr7, fr6, fr5], fr8, fr9, ?_, ?_, ?_, ?_⟩
    · rw [fr10]
    · rw [fr11]
    · rw [fr12]
    · rw [fr13]
structure Rep (x y z t : List Nat) (p : Go.Cv.Pt Go.Fp.P Go.Fp.d) : Prop where
  ex : El x (2 ^ 52)
  ey : El y (2 ^ 52)
  ez : El z (2 ^ 52)
  et : El t (2 ^ 52)
  nz : fe z ≠ 0
  x : fe x = p.x * fe z
  y : fe y = p.y * fe z
  t : fe t = p.x * p.y * fe z
abbrev padd (p q : Go.Cv.Pt Go.Fp.P Go.Fp.d) : Go.Cv.Pt Go.Fp.P Go.Fp.d := Go.Cv.Pt.add Go.Fp.fld p q
abbrev pmul (k : Nat) (p : Go.Cv.Pt Go.Fp.P Go.Fp.d) : Go.Cv.Pt Go.Fp.P Go.Fp.d := Go.Cv.Pt.mul Go.Fp.fld k p
abbrev pzero : Go.Cv.Pt Go.Fp.P Go.Fp.d := Go.Cv.Pt.zero
theorem plus_math {x1 y1 z1 t1 x2 y2 z2 t2 dd a b c e x y z t px py qx qy rx ry : Go.Fp.Fe} (hx1 : x1 = px * z1) (hy1 : y1 = py * z1) (ht1 : t1 = px * py * z1) (hx2 : x2 = qx * z2) (hy2 : y2 = qy * z2) (ht2 : t2 = qx * qy * z2)
    (ha : a = (y1 - x1) * (y2 - x2)) (hb : b = (y1 + x1) * (y2 + x2)) (hc : c = 1 * 2 * dd * t1 * t2) (he : e = 1 * 2 * z1 * z2) (hx : x = (b - a) * (e - c)) (hy : y = (e + c) * (b + a)) (hz : z = (e - c) * (e + c)) (ht : t = (b - a) * (b + a))
    (hrx : rx * (1 + dd * px * qx * py * qy) = px * qy + qx * py) (hry : ry * (1 - dd * px * qx * py * qy) = py * qy + px * qx) :
    x = rx * z ∧ y = ry * z ∧ t = rx * ry * z ∧ z = (2 * z1 * z2) * (2 * z1 * z2) * ((1 - dd * px * qx * py * qy) * (1 + dd * px * qx * py * qy)) := by
  have e1 : b - a = (2 * z1 * z2) * (px * qy + qx * py) := by rw [hb, ha, hx1, hy1, hx2, hy2]; grobner
  have e2 : b + a = (2 * z1 * z2) * (py * qy + px * qx) := by rw [hb, ha, hx1, hy1, hx2, hy2]; grobner
  have e3 : e - c = (2 * z1 * z2) * (1 - dd * px * qx * py * qy) := by rw [he, hc, ht1, ht2]; grobner
  have e4 : e + c = (2 * z1 * z2) * (1 + dd * px * qx * py * qy) := by rw [he, hc, ht1, ht2]; grobner
  rw [e1, ← hrx, e3] at hx
  rw [e4, e2, ← hry] at hy
  rw [e3, e4] at hz
  rw [e1, e2, ← hrx, ← hry] at ht
  clear hx1 hy1 ht1 hx2 hy2 ht2 ha hb hc he hrx hry e1 e2 e3 e4
  generalize 1 + dd * px * qx * py * qy = k at *
  generalize 1 - dd * px * qx * py * qy = m at *
  generalize 2 * z1 * z2 = w at *
  subst hx hy hz ht
  refine ⟨?_, ?_, ?_, ?_⟩ <;> grobner
theorem Rep.plus {x1 y1 z1 t1 x2 y2 z2 t2 d : List Nat} {p q : Go.Cv.Pt Go.Fp.P Go.Fp.d} (h1 : Rep x1 y1 z1 t1 p) (h2 : Rep x2 y2 z2 t2 q) (Ed : El d (2 ^ 52)) (hd : fe d = Go.Fp.d) :
    ∃ x y z t, evVal T 54 [pV x1 y1 z1 t1, pV x2 y2 z2 t2, eV d] = some (pV x y z t) ∧ Rep x y z t (padd p q) := by
  obtain ⟨x, y, z, t, hv, Ex, Ey, Ez, Et, a, b, c, e, ha, hb, hc, he, hx, hy, hz, ht⟩ := plus_v h1.ex h1.ey h1.ez h1.et h2.ex h2.ey h2.ez h2.et Ed
  rw [hd] at hc
  obtain ⟨g1, g2, g3, g4⟩ := plus_math h1.x h1.y h1.t h2.x h2.y h2.t ha hb hc he hx hy hz ht (Go.Cv.add_x Go.Fp.fld p q) (Go.Cv.add_y Go.Fp.fld p q)
  refine ⟨x, y, z, t, hv, Ex, Ey, Ez, Et, ?_, g1, g2, g3⟩
  rw [g4]
  have F := Go.Fp.fld
  have w := F.mul_ne (F.mul_ne F.two h1.nz) h2.nz
  exact F.mul_ne (F.mul_ne w w) (F.mul_ne (F.denM p.on q.on) (F.denP p.on q.on))
theorem twice_math {x1 y1 z1 dd a b c h e g f x y z t px py rx ry : Go.Fp.Fe} (hx1 : x1 = px * z1) (hy1 : y1 = py * z1) (on : -(px * px) + py * py = 1 + dd * (px * px) * (py * py))
    (ha : a = x1 * x1) (hb : b = y1 * y1) (hc : c = 1 * 2 * z1 * z1) (hh : h = a + b) (he : e = h - (x1 + y1) * (x1 + y1)) (hg : g = a - b) (hf : f = c + g) (hx : x = e * f) (hy : y = g * h) (hz : z = f * g) (ht : t = e * h)
    (hrx : rx * (1 + dd * px * px * py * py) = px * py + px * py) (hry : ry * (1 - dd * px * px * py * py) = py * py + px * px) :
    x = rx * z ∧ y = ry * z ∧ t = rx * ry * z ∧ z = -((z1 * z1) * (z1 * z1) * ((1 - dd * px * px * py * py) * (1 + dd * px * px * py * py))) := by
  have e1 : e = -((z1 * z1) * (px * py + px * py)) := by rw [he, hh, ha, hb, hx1, hy1]; grobner
  have e2 : h = (z1 * z1) * (py * py + px * px) := by rw [hh, ha, hb, hx1, hy1]; grobner
  have e3 : g = -((z1 * z1) * (1 + dd * px * px * py * py)) := by
    have : 1 + dd * px * px * py * py = py * py - px * px := by
      clear hx1 hy1 ha hb hc hh he hg hf hx hy hz ht hrx hry e1 e2
      grobner
    rw [this, hg, ha, hb, hx1, hy1]; grobner
  have e4 : f = (z1 * z1) * (1 - dd * px * px * py * py) := by
    rw [hf, e3, hc]
    clear hx1 hy1 on ha hb hc hh he hg hf hx hy hz ht hrx hry e1 e2 e3
    grobner
  rw [← hrx] at e1
  rw [← hry] at e2
  clear hx1 hy1 on ha hb hc hh he hg hf hrx hry
  generalize 1 + dd * px * px * py * py = k at *
  generalize 1 - dd * px * px * py * py = m at *
  generalize z1 * z1 = w at *
  subst e1 e2 e3 e4 hx hy hz ht
  refine ⟨?_, ?_, ?_, ?_⟩ <;> grobner
theorem Rep.twice {x1 y1 z1 t1 : List Nat} {p : Go.Cv.Pt Go.Fp.P Go.Fp.d} (h1 : Rep x1 y1 z1 t1 p) : ∃ x y z t, evVal T 53 [pV x1 y1 z1 t1] = some (pV x y z t) ∧ Rep x y z t (padd p p) := by
  obtain ⟨x, y, z, t, hv, Ex, Ey, Ez, Et, a, b, c, h, e, g, f, ha, hb, hc, hh, he, hg, hf, hx, hy, hz, ht⟩ := twice_v h1.ex h1.ey h1.ez h1.et
  obtain ⟨g1, g2, g3, g4⟩ := twice_math h1.x h1.y p.on ha hb hc hh he hg hf hx hy hz ht (Go.Cv.add_x Go.Fp.fld p p) (Go.Cv.add_y Go.Fp.fld p p)
  refine ⟨x, y, z, t, hv, Ex, Ey, Ez, Et, ?_, g1, g2, g3⟩
  rw [g4]
  have F := Go.Fp.fld
  have w := F.mul_ne h1.nz h1.nz
  have n := F.mul_ne (F.mul_ne w w) (F.mul_ne (F.denM p.on p.on) (F.denP p.on p.on))
  intro h0
  exact n (by grobner)
end Go.Ev.Ytaceeoghjgggjaa
set_option linter.unusedSimpArgs false
set_option linter.unusedVariables false
namespace Go.Ev.Ytaceeoghjgggjaa
open Go Go.Ev
attribute [local congr] bind_congr2 ite_congr2 qElse_congr gate_congr guardV_congr
set_option maxRecDepth 100000
def RepL (l : List Nat) (p : Go.Cv.Pt Go.Fp.P Go.Fp.d) : Prop := ∃ x y z t, l = pL x y z t ∧ Rep x y z t p
theorem RepL.len {l : List Nat} {p : Go.Cv.Pt Go.Fp.P Go.Fp.d} (h : RepL l p) : l.length = 20 := by
  obtain ⟨x, y, z, t, rfl, h⟩ := h
  exact pL_len h.ex h.ey h.ez h.et
theorem plusL {l m d : List Nat} {p q : Go.Cv.Pt Go.Fp.P Go.Fp.d} (h1 : RepL l p) (h2 : RepL m q) (Ed : El d (2 ^ 52)) (hd : fe d = Go.Fp.d) : ∃ r, evVal T 54 [eV l, eV m, eV d] = some (eV r) ∧ RepL r (padd p q) := by
  obtain ⟨x, y, z, t, rfl, h1⟩ := h1
  obtain ⟨x2, y2, z2, t2, rfl, h2⟩ := h2
  obtain ⟨a, b, c, e, h3, h4⟩ := h1.plus h2 Ed hd
  exact ⟨pL a b c e, h3, a, b, c, e, rfl, h4⟩
theorem twiceL {l : List Nat} {p : Go.Cv.Pt Go.Fp.P Go.Fp.d} (h1 : RepL l p) : ∃ r, evVal T 53 [eV l] = some (eV r) ∧ RepL r (padd p p) := by
  obtain ⟨x, y, z, t, rfl, h1⟩ := h1
  obtain ⟨a, b, c, e, h3, h4⟩ := h1.twice
  exact ⟨pL a b c e, h3, a, b, c, e, rfl, h4⟩
def dK : List Nat := dig 256 32 Go.Fp.dN
theorem dK_num : num 256 dK = Go.Fp.dN := by decide +kernel
theorem dK_lt : ∀ x ∈ dK, x < 256 := fun _ h => dig_lt (by decide) h
theorem factor_v : ∃ r, evVal T 52 [] = some (eV r) ∧ El r (2 ^ 52) ∧ fe r = Go.Fp.d := by
  have h := of_v (k := dK) (dig_len _ _ _) dK_lt
  refine ⟨dig (2 ^ 51) 5 (num 256 dK % 2 ^ 255), ?_, of_el, ?_⟩
  rotate_left
  · unfold fe
    rw [of_v51, dK_num]
    rfl
  · have hl : (dig (2 ^ 51) 5 (num 256 dK % 2 ^ 255)).length = 5 := dig_len _ _ _
    have hf : fillL (List.replicate 32 (Value.int .u8 0)) [(0, 1, .int .u8 163), (1, 1, .int .u8 120), (2, 1, .int .u8 89), (3, 1, .int .u8 19), (4, 1, .int .u8 202), (5, 1, .int .u8 77), (6, 1, .int .u8 235), (7, 1, .int .u8 117), (8, 1, .int .u8 171), (9, 1, .int .u8 216), (10, 1, .int .u8 65), (11, 1, .int .u8 65), (12, 1, .int .u8 77), (13, 1, .int .u8 10), (14, 1, .int .u8 112), (15, 1, .int .u8 0), (16, 1, .int .u8 152), (17, 1, .int .u8 232), (18, 1, .int .u8 121), (19, 1, .int .u8 119), (20, 1, .int .u8 121), (21, 1, .int .u8 64), (22, 1, .int .u8 199), (23, 1, .int .u8 140), (24, 1, .int .u8 115), (25, 1, .int .u8 254), (26, 1, .int .u8 111), (27, 1, .int .u8 43), (28, 1, .int .u8 238), (29, 1, .int .u8 108), (30, 1, .int .u8 3), (31, 1, .int .u8 82)] = some (u8s dK) := by
      have : dK = [163, 120, 89, 19, 202, 77, 235, 117, 171, 216, 65, 65, 77, 10, 112, 0, 152, 232, 121, 119, 121, 64, 199, 140, 115, 254, 111, 43, 238, 108, 3, 82] := by decide +kernel
      rw [this]; rfl
    generalize dig (2 ^ 51) 5 (num 256 dK % 2 ^ 255) = D at *
    apply evVal_ex
    apply Exists.intro
    rw [evFun_fn (fn := a52) rfl]
    simp only [a52, envOf, evCode_skip, evCode_exit, evCode_seq, fs_blockS, fs_blockR, fs_blockC, fs_blockK, fs_blockB, evCode_ret, quiet, keep_nil, keep_cons, fs_cond, fs_region, fs_regionQ, quiet2_eq, lastOf_nil, lastOf_cons, List.take_succ_cons, List.take_zero, List.drop_succ_cons, List.drop_zero, Int.reduceBEq, Int.reduceBNe,  fs_nil, fs_guard, fs_move, fs_pick, fs_alloc, fs_box, fs_load, fs_store, fs_bin, fs_eqv, fs_isNil, fs_un, fs_conv, fs_convStr, fs_field, fs_index, fs_indexStr, fs_build, fs_buildSlice, fs_fieldAddr, fs_indexAddr, fs_indexSl, fs_sliceArr, fs_sliceSl, fs_sliceStr, fs_makeSlice, fs_extract, fs_mkIface, fs_mkFunc, fs_nilCheck, fs_s2ap, fs_len, fs_minmax, fs_s2b, fs_b2s, fs_append, fs_copy, fs_callW, fs_callR, fs_callv, opd_tmp, opd_const, opd_func, opds_nil, opds_cons, opdOpt_none, opdOpt_some, opdParts_nil, opdParts_cons, get_miss, vPick_t, vPick_f, vEq_agg, vEq_aggN, vEq_bool, vEq_boolN, vConv_int, vStr_s, vField_agg, vIndex_agg, vIndexStr_s, vFieldAddr_p, vIndexAddr_p, vIndexSl_s, vSliceArr_p, vSliceSl_s, vSliceSl_n, vSliceStr_s, vExtract_t, vNilCheck_p, vS2ap_s, vLen_s, vLen_str, vMin_i, vMax_i, vLoad_p, vStore_p, baseP_p, vB2s_s, vMake_i, vS2b_s, callee_f, liveAt_eq, storeAt_eq, partL_none, partL_some, natIn_none, natIn_int, bounds3_two, bin_add, bin_sub, bin_mul, bin_quo, bin_rem, bin_and, bin_or, bin_xor, bin_andNot, bin_eql, bin_neq, bin_lss, bin_leq, bin_gtr, bin_geq, bin_shl, bin_shr, bin_sadd, bin_seql, bin_sneq, un_not, un_neg, un_xor, after_some, put_some, put_none, res_nil, res_val, res_var, packed_one, packed_two, merge_nil, merge_ge, rf_tup2, rfIn_int, rfIn_bool, rfIn_u8s, rf_str, rfIn_str, ↓gate_true, gd_bool, gd_ut, gd_uf, ↓guardV_tt, ↓guardV_ff, ↓guardV_tf, ↓guardV_ft, ↓keepV_some, ↓qElse_some, ↓get_hit, ↓Option.bind_some, ↓if_true, ↓if_false, List.nil_append, List.cons_append, List.all_nil, List.all_cons, List.isEmpty_nil, reduceCtorEq, Bool.false_eq_true, Nat.reduceEqDiff, beq_self_eq_true, bne_self_eq_false, Bool.not_true, Bool.not_false, Int.natCast_nonneg, Nat.lt_irrefl, false_and, Int.reduceEq, rf_int, rf_bool, rf_tuple_ints, rf_u8s, arr_list, toList2, Bool.and_self, Nat.not_lt_zero, Nat.sub_zero, Nat.zero_le, Nat.le_add_right, cells_agg, cells_agg_size, cells_int, cells_int_size, okV_int, okV_bool, okV_str, okV_agg, okV_ptr, okV_slice, okV_func, okV_nilFunc, okV_iface, okV_nilIface, cells_bool, cells_bool_size, cells_ptr, cells_ptr_size, cells_slice, cells_slice_size, cells_str, cells_str_size, eq_self, wrapI64_small, Int.natCast_zero, Int.natCast_one, Int.cast_ofNat_Int, List.length_nil, List.length_cons, List.getElem?_cons_zero, List.getElem?_cons_succ, List.set_cons_zero, List.set_cons_succ, Nat.zero_add, Nat.add_zero, Nat.mul_one, Nat.zero_mul, Int.toNat_natCast, Int.toNat_zero, Int.lt_irrefl, Int.le_refl, Nat.le_refl, and_self, true_and, and_true, decide_true, decide_false, Int.reduceLE, Int.reduceLT, Int.reduceAdd, Int.reduceMul, Int.reduceSub, Int.reduceTDiv, Int.reduceTMod, Int.reduceNeg, Int.reduceToNat, Int.reduceGT, Int.reduceGE, Int.reducePow, Nat.reduceAdd, Nat.reduceMul, Nat.reduceSub, Nat.reduceDiv, Nat.reduceMod, Nat.reducePow, Nat.reduceLT, Nat.reduceLeDiff, Nat.min_self, ge_iff_le, gt_iff_lt, Option.isNone_none, Option.isSome_none, Option.isNone_some, Option.isSome_some, Bool.and_true, Bool.true_and, Bool.and_false, Bool.false_and, not_true_eq_false, not_false_eq_true, or_true, true_or, false_or, or_false, hget0, hgetK, hset0, hsetK, splice_single, splice_whole, take_whole, List.getElem?_nil, List.length_append, List.append_assoc, hf, h, List.length_replicate, take_all, eV_cells, eV_size, eV_ok, eV_fold, rf_eV, ns_len, hl]
    rfl
theorem one_v : evVal T 50 [.int .u32 1] = some (eV [1, 0, 0, 0, 0]) := small_v (n := 1) (by decide)
theorem zero_el5 : El [0, 0, 0, 0, 0] (2 ^ 52) := small_el (by decide)
theorem zero_fe : fe [0, 0, 0, 0, 0] = 0 := by rw [small_fe]; rfl
theorem zero_v : ∃ r, evVal T 30 [] = some (eV r) ∧ RepL r pzero := by
  refine ⟨pL [0, 0, 0, 0, 0] [1, 0, 0, 0, 0] [1, 0, 0, 0, 0] [0, 0, 0, 0, 0], ?_, _, _, _, _, rfl, zero_el5, one_el, one_el, zero_el5, ?_, ?_, ?_, ?_⟩
  · have hf : fillL (List.replicate 20 (Value.int .u64 0)) [(5, 5, eV [1, 0, 0, 0, 0]), (10, 5, eV [1, 0, 0, 0, 0])] = some (ns .u64 (pL [0, 0, 0, 0, 0] [1, 0, 0, 0, 0] [1, 0, 0, 0, 0] [0, 0, 0, 0, 0])) := rfl
    have hl : (pL [0, 0, 0, 0, 0] [1, 0, 0, 0, 0] [1, 0, 0, 0, 0] [0, 0, 0, 0, 0]).length = 20 := rfl
    have hv := one_v
    generalize pL [0, 0, 0, 0, 0] [1, 0, 0, 0, 0] [1, 0, 0, 0, 0] [0, 0, 0, 0, 0] = Z at *
    generalize ([1, 0, 0, 0, 0] : List Nat) = O at *
    apply evVal_ex
    apply Exists.intro
    rw [evFun_fn (fn := a30) rfl]
    simp only [a30, envOf, evCode_skip, evCode_exit, evCode_seq, fs_blockS, fs_blockR, fs_blockC, fs_blockK, fs_blockB, evCode_ret, quiet, keep_nil, keep_cons, fs_cond, fs_region, fs_regionQ, quiet2_eq, lastOf_nil, lastOf_cons, List.take_succ_cons, List.take_zero, List.drop_succ_cons, List.drop_zero, Int.reduceBEq, Int.reduceBNe,  fs_nil, fs_guard, fs_move, fs_pick, fs_alloc, fs_box, fs_load, fs_store, fs_bin, fs_eqv, fs_isNil, fs_un, fs_conv, fs_convStr, fs_field, fs_index, fs_indexStr, fs_build, fs_buildSlice, fs_fieldAddr, fs_indexAddr, fs_indexSl, fs_sliceArr, fs_sliceSl, fs_sliceStr, fs_makeSlice, fs_extract, fs_mkIface, fs_mkFunc, fs_nilCheck, fs_s2ap, fs_len, fs_minmax, fs_s2b, fs_b2s, fs_append, fs_copy, fs_callW, fs_callR, fs_callv, opd_tmp, opd_const, opd_func, opds_nil, opds_cons, opdOpt_none, opdOpt_some, opdParts_nil, opdParts_cons, get_miss, vPick_t, vPick_f, vEq_agg, vEq_aggN, vEq_bool, vEq_boolN, vConv_int, vStr_s, vField_agg, vIndex_agg, vIndexStr_s, vFieldAddr_p, vIndexAddr_p, vIndexSl_s, vSliceArr_p, vSliceSl_s, vSliceSl_n, vSliceStr_s, vExtract_t, vNilCheck_p, vS2ap_s, vLen_s, vLen_str, vMin_i, vMax_i, vLoad_p, vStore_p, baseP_p, vB2s_s, vMake_i, vS2b_s, callee_f, liveAt_eq, storeAt_eq, partL_none, partL_some, natIn_none, natIn_int, bounds3_two, bin_add, bin_sub, bin_mul, bin_quo, bin_rem, bin_and, bin_or, bin_xor, bin_andNot, bin_eql, bin_neq, bin_lss, bin_leq, bin_gtr, bin_geq, bin_shl, bin_shr, bin_sadd, bin_seql, bin_sneq, un_not, un_neg, un_xor, after_some, put_some, put_none, res_nil, res_val, res_var, packed_one, packed_two, merge_nil, merge_ge, rf_tup2, rfIn_int, rfIn_bool, rfIn_u8s, rf_str, rfIn_str, ↓gate_true, gd_bool, gd_ut, gd_uf, ↓guardV_tt, ↓guardV_ff, ↓guardV_tf, ↓guardV_ft, ↓keepV_some, ↓qElse_some, ↓get_hit, ↓Option.bind_some, ↓if_true, ↓if_false, List.nil_append, List.cons_append, List.all_nil, List.all_cons, List.isEmpty_nil, reduceCtorEq, Bool.false_eq_true, Nat.reduceEqDiff, beq_self_eq_true, bne_self_eq_false, Bool.not_true, Bool.not_false, Int.natCast_nonneg, Nat.lt_irrefl, false_and, Int.reduceEq, rf_int, rf_bool, rf_tuple_ints, rf_u8s, arr_list, toList2, Bool.and_self, Nat.not_lt_zero, Nat.sub_zero, Nat.zero_le, Nat.le_add_right, cells_agg, cells_agg_size, cells_int, cells_int_size, okV_int, okV_bool, okV_str, okV_agg, okV_ptr, okV_slice, okV_func, okV_nilFunc, okV_iface, okV_nilIface, cells_bool, cells_bool_size, cells_ptr, cells_ptr_size, cells_slice, cells_slice_size, cells_str, cells_str_size, eq_self, wrapI64_small, Int.natCast_zero, Int.natCast_one, Int.cast_ofNat_Int, List.length_nil, List.length_cons, List.getElem?_cons_zero, List.getElem?_cons_succ, List.set_cons_zero, List.set_cons_succ, Nat.zero_add, Nat.add_zero, Nat.mul_one, Nat.zero_mul, Int.toNat_natCast, Int.toNat_zero, Int.lt_irrefl, Int.le_refl, Nat.le_refl, and_self, true_and, and_true, decide_true, decide_false, Int.reduceLE, Int.reduceLT, Int.reduceAdd, Int.reduceMul, Int.reduceSub, Int.reduceTDiv, Int.reduceTMod, Int.reduceNeg, Int.reduceToNat, Int.reduceGT, Int.reduceGE, Int.reducePow, Nat.reduceAdd, Nat.reduceMul, Nat.reduceSub, Nat.reduceDiv, Nat.reduceMod, Nat.reducePow, Nat.reduceLT, Nat.reduceLeDiff, Nat.min_self, ge_iff_le, gt_iff_lt, Option.isNone_none, Option.isSome_none, Option.isNone_some, Option.isSome_some, Bool.and_true, Bool.true_and, Bool.and_false, Bool.false_and, not_true_eq_false, not_false_eq_true, or_true, true_or, false_or, or_false, hget0, hgetK, hset0, hsetK, splice_single, splice_whole, take_whole, List.getElem?_nil, List.length_append, List.append_assoc, hf, hv, List.length_replicate, take_all, eV_cells, eV_size, eV_ok, eV_fold, rf_eV, ns_len, hl]
    rfl
  · rw [one_fe]; exact Go.Fp.one_ne
  · rw [zero_fe]; simp only [Go.Cv.Pt.zero]; grobner
  · rw [one_fe]; simp only [Go.Cv.Pt.zero]; grobner
  · rw [zero_fe]; simp only [Go.Cv.Pt.zero]; grobner
theorem pmul_step (p : Go.Cv.Pt Go.Fp.P Go.Fp.d) (m b : Nat) (hb : b < 2) : pmul (2 * m + b) p = if b = 1 then padd (padd (pmul m p) (pmul m p)) p else padd (pmul m p) (pmul m p) := by
  have h1 : pmul (2 * m) p = padd (pmul m p) (pmul m p) := by rw [show 2 * m = m + m by omega]; exact Go.Cv.mul_add Go.Fp.fld m m p
  by_cases h : b = 1
  · subst h
    rw [if_pos rfl]
    show padd (pmul (2 * m) p) p = _
    rw [h1]
  · have : b = 0 := by omega
    subst this
    rw [if_neg (by decide), Nat.add_zero, h1]
def muI (l k o d : List Nat) (R : Ob) (i : Int) (ex : Env) : St := ⟨[(2, .pointer (some ⟨0, 0, none⟩)), (3, .pointer (some ⟨1, 0, none⟩)), (4, .pointer (some ⟨2, 0, none⟩)), (5, .pointer (some ⟨3, 0, none⟩)), (6, .pointer (some ⟨4, 0, none⟩)), (7, .int .i64 i)] ++ ex, [⟨ns .u64 l, true, true, true, 1⟩, ⟨u8s k, true, true, true, 1⟩, R, ⟨ns .u64 o, true, true, true, 1⟩, ⟨ns .u64 d, true, true, true, 1⟩], []⟩
theorem mu_body {l k o d : List Nat} {R : Ob} {i : Nat} {p : Go.Cv.Pt Go.Fp.P Go.Fp.d} (hl : RepL l p) (lk : k.length = 32) (xk : ∀ x ∈ k, x < 256) (hi : i < 256) (Ed : El d (2 ^ 52)) (hd : fe d = Go.Fp.d) (ho : RepL o (pmul (num 256 k / 2 ^ (i + 1)) p)) :
    ∃ r, evCode T 0 a26_l0 (muI l k o d R i []) = some (.normal, muI l k r d R ((i : Int) - 1) []) ∧ RepL r (pmul (num 256 k / 2 ^ i) p) := by
  obtain ⟨b, hb⟩ : ∃ b, k[i / 8]? = some b := ⟨_, List.getElem?_eq_getElem (by omega)⟩
  have hbv := num_get (B := 256) (by decide) xk hb
  have hbc := u8s_get hb
  have hbit : b / 2 ^ (i % 8) % 2 = num 256 k / 2 ^ i % 2 := by
    rw [← hbv, show (256 : Nat) = 2 ^ 8 from rfl, bitOf (Nat.mod_lt _ (by decide)), Nat.div_add_mod]
  obtain ⟨r1, m1, g1⟩ := twiceL ho
  obtain ⟨r2, m2, g3⟩ := plusL g1 hl Ed hd
  have hlt := bit_lt (num 256 k) i
  have hnum : num 256 k / 2 ^ i = 2 * (num 256 k / 2 ^ (i + 1)) + num 256 k / 2 ^ i % 2 := by
    rw [Nat.pow_succ, ← Nat.div_div_eq_div_mul]
    omega
  have hstep := pmul_step p (num 256 k / 2 ^ (i + 1)) (num 256 k / 2 ^ i % 2) hlt
  rw [← hnum] at hstep
  have s1 : (2 : Int) ^ min (i % 8) IntKind.u8.bits = ((2 ^ (i % 8) : Nat) : Int) := pow_min (Nat.le_of_lt (Nat.mod_lt _ (by decide)))
  have w2 : IntKind.i64.wrap ((i / 8 : Nat) : Int) = ((i / 8 : Nat) : Int) := wrap_nat (by omega)
  have w3 : IntKind.i64.wrap ((i : Int) - 1) = (i : Int) - 1 := wrapI64_small (by omega) (by omega)
  have e1 : ((0 : Int) ≤ (i : Int)) = True := eq_true (by omega)
  have e3 : (((i / 8 : Nat) : Int) < 32) = True := eq_true (by omega)
  have e4 : (((i % 8 : Nat) : Int) < 0) = False := eq_false (by omega)
  have l1 := hl.len
  have l2 := ho.len
  have l3 := g1.len
  have l4 := g3.len
  have l5 := Ed.len
  generalize hB : num 256 k / 2 ^ i % 2 = B at *
  by_cases hB1 : B = 1
  · have hbq : ((B : Int) == 1) = true := by rw [hB1]; rfl
    rw [if_pos hB1] at hstep
    refine ⟨r2, ?_, by rw [hstep]; exact g3⟩
    simp only [muI, a26_l0, envOf, evCode_skip, evCode_exit, evCode_seq, fs_blockS, fs_blockR, fs_blockC, fs_blockK, fs_blockB, evCode_ret, quiet, keep_nil, keep_cons, fs_cond, fs_region, fs_regionQ, quiet2_eq, lastOf_nil, lastOf_cons, List.take_succ_cons, List.take_zero, List.drop_succ_cons, List.drop_zero, Int.reduceBEq, Int.reduceBNe,  fs_nil, fs_guard, fs_move, fs_pick, fs_alloc, fs_box, fs_load, fs_store, fs_bin, fs_eqv, fs_isNil, fs_un, fs_conv, fs_convStr, fs_field, fs_index, fs_indexStr, fs_build, fs_buildSlice, fs_fieldAddr, fs_indexAddr, fs_indexSl, fs_sliceArr, fs_sliceSl, fs_sliceStr, fs_makeSlice, fs_extract, fs_mkIface, fs_mkFunc, fs_nilCheck, fs_s2ap, fs_len, fs_minmax, fs_s2b, fs_b2s, fs_append, fs_copy, fs_callW, fs_callR, fs_callv, opd_tmp, opd_const, opd_func, opds_nil, opds_cons, opdOpt_none, opdOpt_some, opdParts_nil, opdParts_cons, get_miss, vPick_t, vPick_f, vEq_agg, vEq_aggN, vEq_bool, vEq_boolN, vConv_int, vStr_s, vField_agg, vIndex_agg, vIndexStr_s, vFieldAddr_p, vIndexAddr_p, vIndexSl_s, vSliceArr_p, vSliceSl_s, vSliceSl_n, vSliceStr_s, vExtract_t, vNilCheck_p, vS2ap_s, vLen_s, vLen_str, vMin_i, vMax_i, vLoad_p, vStore_p, baseP_p, vB2s_s, vMake_i, vS2b_s, callee_f, liveAt_eq, storeAt_eq, partL_none, partL_some, natIn_none, natIn_int, bounds3_two, bin_add, bin_sub, bin_mul, bin_quo, bin_rem, bin_and, bin_or, bin_xor, bin_andNot, bin_eql, bin_neq, bin_lss, bin_leq, bin_gtr, bin_geq, bin_shl, bin_shr, bin_sadd, bin_seql, bin_sneq, un_not, un_neg, un_xor, after_some, put_some, put_none, res_nil, res_val, res_var, packed_one, packed_two, merge_nil, merge_ge, rf_tup2, rfIn_int, rfIn_bool, rfIn_u8s, rf_str, rfIn_str, ↓gate_true, gd_bool, gd_ut, gd_uf, ↓guardV_tt, ↓guardV_ff, ↓guardV_tf, ↓guardV_ft, ↓keepV_some, ↓qElse_some, ↓get_hit, ↓Option.bind_some, ↓if_true, ↓if_false, List.nil_append, List.cons_append, List.all_nil, List.all_cons, List.isEmpty_nil, reduceCtorEq, Bool.false_eq_true, Nat.reduceEqDiff, beq_self_eq_true, bne_self_eq_false, Bool.not_true, Bool.not_false, Int.natCast_nonneg, Nat.lt_irrefl, false_and, Int.reduceEq, rf_int, rf_bool, rf_tuple_ints, rf_u8s, arr_list, toList2, Bool.and_self, Nat.not_lt_zero, Nat.sub_zero, Nat.zero_le, Nat.le_add_right, cells_agg, cells_agg_size, cells_int, cells_int_size, okV_int, okV_bool, okV_str, okV_agg, okV_ptr, okV_slice, okV_func, okV_nilFunc, okV_iface, okV_nilIface, cells_bool, cells_bool_size, cells_ptr, cells_ptr_size, cells_slice, cells_slice_size, cells_str, cells_str_size, eq_self, wrapI64_small, Int.natCast_zero, Int.natCast_one, Int.cast_ofNat_Int, List.length_nil, List.length_cons, List.getElem?_cons_zero, List.getElem?_cons_succ, List.set_cons_zero, List.set_cons_succ, Nat.zero_add, Nat.add_zero, Nat.mul_one, Nat.zero_mul, Int.toNat_natCast, Int.toNat_zero, Int.lt_irrefl, Int.le_refl, Nat.le_refl, and_self, true_and, and_true, decide_true, decide_false, Int.reduceLE, Int.reduceLT, Int.reduceAdd, Int.reduceMul, Int.reduceSub, Int.reduceTDiv, Int.reduceTMod, Int.reduceNeg, Int.reduceToNat, Int.reduceGT, Int.reduceGE, Int.reducePow, Nat.reduceAdd, Nat.reduceMul, Nat.reduceSub, Nat.reduceDiv, Nat.reduceMod, Nat.reducePow, Nat.reduceLT, Nat.reduceLeDiff, Nat.min_self, ge_iff_le, gt_iff_lt, Option.isNone_none, Option.isSome_none, Option.isNone_some, Option.isSome_some, Bool.and_true, Bool.true_and, Bool.and_false, Bool.false_and, not_true_eq_false, not_false_eq_true, or_true, true_or, false_or, or_false, hget0, hgetK, hset0, hsetK, splice_single, splice_whole, take_whole, List.getElem?_nil, List.length_append, List.append_assoc, n_add, n_mul, n_ladd, n_addl, n_lmul, n_mull, n_fdiv, n_fdivl, n_tdiv, n_tmod, n_w64, n_w32, n_w16, n_w8, n_sub64, n_lsub64, n_subl64, n_m32, n_m51, n_m1, n_m1b, n_m7b, p64_32, p64_51, p64_13, p8_7, hbc, hbit, s1, w2, w3, e1, e3, e4, m1, m2, hbq, take_all, eV_cells, eV_size, eV_ok, eV_fold, ns_len, l1, l2, l3, l4, l5, rf_eV]
  · have hbq : ((B : Int) == 1) = false := by
      have : B = 0 := by omega
      rw [this]; rfl
    rw [if_neg hB1] at hstep
    refine ⟨r1, ?_, by rw [hstep]; exact g1⟩
    simp only [muI, a26_l0, envOf, evCode_skip, evCode_exit, evCode_seq, fs_blockS, fs_blockR, fs_blockC, fs_blockK, fs_blockB, evCode_ret, quiet, keep_nil, keep_cons, fs_cond, fs_region, fs_regionQ, quiet2_eq, lastOf_nil, lastOf_cons, List.take_succ_cons, List.take_zero, List.drop_succ_cons, List.drop_zero, Int.reduceBEq, Int.reduceBNe,  fs_nil, fs_guard, fs_move, fs_pick, fs_alloc, fs_box, fs_load, fs_store, fs_bin, fs_eqv, fs_isNil, fs_un, fs_conv, fs_convStr, fs_field, fs_index, fs_indexStr, fs_build, fs_buildSlice, fs_fieldAddr, fs_indexAddr, fs_indexSl, fs_sliceArr, fs_sliceSl, fs_sliceStr, fs_makeSlice, fs_extract, fs_mkIface, fs_mkFunc, fs_nilCheck, fs_s2ap, fs_len, fs_minmax, fs_s2b, fs_b2s, fs_append, fs_copy, fs_callW, fs_callR, fs_callv, opd_tmp, opd_const, opd_func, opds_nil, opds_cons, opdOpt_none, opdOpt_some, opdParts_nil, opdParts_cons, get_miss, vPick_t, vPick_f, vEq_agg, vEq_aggN, vEq_bool, vEq_boolN, vConv_int, vStr_s, vField_agg, vIndex_agg, vIndexStr_s, vFieldAddr_p, vIndexAddr_p, vIndexSl_s, vSliceArr_p, vSliceSl_s, vSliceSl_n, vSliceStr_s, vExtract_t, vNilCheck_p, vS2ap_s, vLen_s, vLen_str, vMin_i, vMax_i, vLoad_p, vStore_p, baseP_p, vB2s_s, vMake_i, vS2b_s, callee_f, liveAt_eq, storeAt_eq, partL_none, partL_some, natIn_none, natIn_int, bounds3_two, bin_add, bin_sub, bin_mul, bin_quo, bin_rem, bin_and, bin_or, bin_xor, bin_andNot, bin_eql, bin_neq, bin_lss, bin_leq, bin_gtr, bin_geq, bin_shl, bin_shr, bin_sadd, bin_seql, bin_sneq, un_not, un_neg, un_xor, after_some, put_some, put_none, res_nil, res_val, res_var, packed_one, packed_two, merge_nil, merge_ge, rf_tup2, rfIn_int, rfIn_bool, rfIn_u8s, rf_str, rfIn_str, ↓gate_true, gd_bool, gd_ut, gd_uf, ↓guardV_tt, ↓guardV_ff, ↓guardV_tf, ↓guardV_ft, ↓keepV_some, ↓qElse_some, ↓get_hit, ↓Option.bind_some, ↓if_true, ↓if_false, List.nil_append, List.cons_append, List.all_nil, List.all_cons, List.isEmpty_nil, reduceCtorEq, Bool.false_eq_true, Nat.reduceEqDiff, beq_self_eq_true, bne_self_eq_false, Bool.not_true, Bool.not_false, Int.natCast_nonneg, Nat.lt_irrefl, false_and, Int.reduceEq, rf_int, rf_bool, rf_tuple_ints, rf_u8s, arr_list, toList2, Bool.and_self, Nat.not_lt_zero, Nat.sub_zero, Nat.zero_le, Nat.le_add_right, cells_agg, cells_agg_size, cells_int, cells_int_size, okV_int, okV_bool, okV_str, okV_agg, okV_ptr, okV_slice, okV_func, okV_nilFunc, okV_iface, okV_nilIface, cells_bool, cells_bool_size, cells_ptr, cells_ptr_size, cells_slice, cells_slice_size, cells_str, cells_str_size, eq_self, wrapI64_small, Int.natCast_zero, Int.natCast_one, Int.cast_ofNat_Int, List.length_nil, List.length_cons, List.getElem?_cons_zero, List.getElem?_cons_succ, List.set_cons_zero, List.set_cons_succ, Nat.zero_add, Nat.add_zero, Nat.mul_one, Nat.zero_mul, Int.toNat_natCast, Int.toNat_zero, Int.lt_irrefl, Int.le_refl, Nat.le_refl, and_self, true_and, and_true, decide_true, decide_false, Int.reduceLE, Int.reduceLT, Int.reduceAdd, Int.reduceMul, Int.reduceSub, Int.reduceTDiv, Int.reduceTMod, Int.reduceNeg, Int.reduceToNat, Int.reduceGT, Int.reduceGE, Int.reducePow, Nat.reduceAdd, Nat.reduceMul, Nat.reduceSub, Nat.reduceDiv, Nat.reduceMod, Nat.reducePow, Nat.reduceLT, Nat.reduceLeDiff, Nat.min_self, ge_iff_le, gt_iff_lt, Option.isNone_none, Option.isSome_none, Option.isNone_some, Option.isSome_some, Bool.and_true, Bool.true_and, Bool.and_false, Bool.false_and, not_true_eq_false, not_false_eq_true, or_true, true_or, false_or, or_false, hget0, hgetK, hset0, hsetK, splice_single, splice_whole, take_whole, List.getElem?_nil, List.length_append, List.append_assoc, n_add, n_mul, n_ladd, n_addl, n_lmul, n_mull, n_fdiv, n_fdivl, n_tdiv, n_tmod, n_w64, n_w32, n_w16, n_w8, n_sub64, n_lsub64, n_subl64, n_m32, n_m51, n_m1, n_m1b, n_m7b, p64_32, p64_51, p64_13, p8_7, hbc, hbit, s1, w2, w3, e1, e3, e4, m1, m2, hbq, take_all, eV_cells, eV_size, eV_ok, eV_fold, ns_len, l1, l2, l3, l4, l5, rf_eV]
theorem multiply_v {l k : List Nat} {p : Go.Cv.Pt Go.Fp.P Go.Fp.d} (hl : RepL l p) (lk : k.length = 32) (xk : ∀ x ∈ k, x < 256) : ∃ r, evVal T 26 [eV l, .agg (u8s k).toArray] = some (eV r) ∧ RepL r (pmul (num 256 k) p) := by
  have hK := num_lt xk
  rw [lk, show (256 : Nat) ^ 32 = 2 ^ 256 from by rw [show (256 : Nat) = 2 ^ 8 from rfl, ← Nat.pow_mul]] at hK
  obtain ⟨z, hz, hz2⟩ := zero_v
  obtain ⟨d, hd1, Ed, hd⟩ := factor_v
  obtain ⟨st, hb, r, rfl, hr1⟩ := block_inv (T := T) (base := 0) (id := 0) (body := a26_l0)
    (fun j st => ∃ r : List Nat, st = muI l k r d ⟨List.replicate 20 (.int .u64 0), true, true, true, 1⟩ ((255 : Int) - j) [] ∧ RepL r (pmul (num 256 k / 2 ^ (256 - j)) p))
    (Q := fun st => ∃ r : List Nat, st = muI l k r d ⟨List.replicate 20 (.int .u64 0), true, true, true, 1⟩ (-1) [(11, .bool false)] ∧ RepL r (pmul (num 256 k) p))
    256 (s := muI l k z d ⟨List.replicate 20 (.int .u64 0), true, true, true, 1⟩ 255 []) ⟨_, rfl, by rw [Nat.sub_zero, Nat.div_eq_of_lt hK]; exact hz2⟩
    (fun j st hj hs => by
      obtain ⟨r, rfl, h2⟩ := hs
      obtain ⟨i, hi⟩ : ∃ i, 256 - j = i + 1 := ⟨255 - j, by omega⟩
      rw [hi] at h2
      obtain ⟨r', g1, g3⟩ := mu_body (R := ⟨List.replicate 20 (.int .u64 0), true, true, true, 1⟩) hl lk xk (i := i) (by omega) Ed hd h2
      rw [show (255 : Int) - j = (i : Int) by omega]
      refine ⟨_, g1, r', ?_, ?_⟩
      · rw [show (255 : Int) - ((j + 1 : Nat) : Int) = (i : Int) - 1 by omega]
      · rw [show 256 - (j + 1) = i by omega]; exact g3)
    (fun st hs => by
      obtain ⟨r, rfl, h2⟩ := hs
      rw [Nat.sub_self, Nat.pow_zero, Nat.div_one] at h2
      have e : ((0 : Int) ≤ -1) = False := by decide
      refine ⟨_, ?_, r, rfl, h2⟩
      rw [show (255 : Int) - ((256 : Nat) : Int) = -1 by omega]
      simp only [muI, a26_l0, envOf, evCode_skip, evCode_exit, evCode_seq, fs_blockS, fs_blockR, fs_blockC, fs_blockK, fs_blockB, evCode_ret, quiet, keep_nil, keep_cons, fs_cond, fs_region, fs_regionQ, quiet2_eq, lastOf_nil, lastOf_cons, List.take_succ_cons, List.take_zero, List.drop_succ_cons, List.drop_zero, Int.reduceBEq, Int.reduceBNe,  fs_nil, fs_guard, fs_move, fs_pick, fs_alloc, fs_box, fs_load, fs_store, fs_bin, fs_eqv, fs_isNil, fs_un, fs_conv, fs_convStr, fs_field, fs_index, fs_indexStr, fs_build, fs_buildSlice, fs_fieldAddr, fs_indexAddr, fs_indexSl, fs_sliceArr, fs_sliceSl, fs_sliceStr, fs_makeSlice, fs_extract, fs_mkIface, fs_mkFunc, fs_nilCheck, fs_s2ap, fs_len, fs_minmax, fs_s2b, fs_b2s, fs_append, fs_copy, fs_callW, fs_callR, fs_callv, opd_tmp, opd_const, opd_func, opds_nil, opds_cons, opdOpt_none, opdOpt_some, opdParts_nil, opdParts_cons, get_miss, vPick_t, vPick_f, vEq_agg, vEq_aggN, vEq_bool, vEq_boolN, vConv_int, vStr_s, vField_agg, vIndex_agg, vIndexStr_s, vFieldAddr_p, vIndexAddr_p, vIndexSl_s, vSliceArr_p, vSliceSl_s, vSliceSl_n, vSliceStr_s, vExtract_t, vNilCheck_p, vS2ap_s, vLen_s, vLen_str, vMin_i, vMax_i, vLoad_p, vStore_p, baseP_p, vB2s_s, vMake_i, vS2b_s, callee_f, liveAt_eq, storeAt_eq, partL_none, partL_some, natIn_none, natIn_int, bounds3_two, bin_add, bin_sub, bin_mul, bin_quo, bin_rem, bin_and, bin_or, bin_xor, bin_andNot, bin_eql, bin_neq, bin_lss, bin_leq, bin_gtr, bin_geq, bin_shl, bin_shr, bin_sadd, bin_seql, bin_sneq, un_not, un_neg, un_xor, after_some, put_some, put_none, res_nil, res_val, res_var, packed_one, packed_two, merge_nil, merge_ge, rf_tup2, rfIn_int, rfIn_bool, rfIn_u8s, rf_str, rfIn_str, ↓gate_true, gd_bool, gd_ut, gd_uf, ↓guardV_tt, ↓guardV_ff, ↓guardV_tf, ↓guardV_ft, ↓keepV_some, ↓qElse_some, ↓get_hit, ↓Option.bind_some, ↓if_true, ↓if_false, List.nil_append, List.cons_append, List.all_nil, List.all_cons, List.isEmpty_nil, reduceCtorEq, Bool.false_eq_true, Nat.reduceEqDiff, beq_self_eq_true, bne_self_eq_false, Bool.not_true, Bool.not_false, Int.natCast_nonneg, Nat.lt_irrefl, false_and, Int.reduceEq, rf_int, rf_bool, rf_tuple_ints, rf_u8s, arr_list, toList2, Bool.and_self, Nat.not_lt_zero, Nat.sub_zero, Nat.zero_le, Nat.le_add_right, cells_agg, cells_agg_size, cells_int, cells_int_size, okV_int, okV_bool, okV_str, okV_agg, okV_ptr, okV_slice, okV_func, okV_nilFunc, okV_iface, okV_nilIface, cells_bool, cells_bool_size, cells_ptr, cells_ptr_size, cells_slice, cells_slice_size, cells_str, cells_str_size, eq_self, wrapI64_small, Int.natCast_zero, Int.natCast_one, Int.cast_ofNat_Int, List.length_nil, List.length_cons, List.getElem?_cons_zero, List.getElem?_cons_succ, List.set_cons_zero, List.set_cons_succ, Nat.zero_add, Nat.add_zero, Nat.mul_one, Nat.zero_mul, Int.toNat_natCast, Int.toNat_zero, Int.lt_irrefl, Int.le_refl, Nat.le_refl, and_self, true_and, and_true, decide_true, decide_false, Int.reduceLE, Int.reduceLT, Int.reduceAdd, Int.reduceMul, Int.reduceSub, Int.reduceTDiv, Int.reduceTMod, Int.reduceNeg, Int.reduceToNat, Int.reduceGT, Int.reduceGE, Int.reducePow, Nat.reduceAdd, Nat.reduceMul, Nat.reduceSub, Nat.reduceDiv, Nat.reduceMod, Nat.reducePow, Nat.reduceLT, Nat.reduceLeDiff, Nat.min_self, ge_iff_le, gt_iff_lt, Option.isNone_none, Option.isSome_none, Option.isNone_some, Option.isSome_some, Bool.and_true, Bool.true_and, Bool.and_false, Bool.false_and, not_true_eq_false, not_false_eq_true, or_true, true_or, false_or, or_false, e])
  refine ⟨r, ?_, hr1⟩
  have l1 := hl.len
  have l2 := hz2.len
  have l3 := hr1.len
  have l4 := Ed.len
  simp only [muI, List.cons_append, List.nil_append] at hb
  apply evVal_ex
  apply Exists.intro
  rw [evFun_fn (fn := a26) rfl]
  simp only [a26, envOf, evCode_skip, evCode_exit, evCode_seq, fs_blockS, fs_blockR, fs_blockC, fs_blockK, fs_blockB, evCode_ret, quiet, keep_nil, keep_cons, fs_cond, fs_region, fs_regionQ, quiet2_eq, lastOf_nil, lastOf_cons, List.take_succ_cons, List.take_zero, List.drop_succ_cons, List.drop_zero, Int.reduceBEq, Int.reduceBNe,  fs_nil, fs_guard, fs_move, fs_pick, fs_alloc, fs_box, fs_load, fs_store, fs_bin, fs_eqv, fs_isNil, fs_un, fs_conv, fs_convStr, fs_field, fs_index, fs_indexStr, fs_build, fs_buildSlice, fs_fieldAddr, fs_indexAddr, fs_indexSl, fs_sliceArr, fs_sliceSl, fs_sliceStr, fs_makeSlice, fs_extract, fs_mkIface, fs_mkFunc, fs_nilCheck, fs_s2ap, fs_len, fs_minmax, fs_s2b, fs_b2s, fs_append, fs_copy, fs_callW, fs_callR, fs_callv, opd_tmp, opd_const, opd_func, opds_nil, opds_cons, opdOpt_none, opdOpt_some, opdParts_nil, opdParts_cons, get_miss, vPick_t, vPick_f, vEq_agg, vEq_aggN, vEq_bool, vEq_boolN, vConv_int, vStr_s, vField_agg, vIndex_agg, vIndexStr_s, vFieldAddr_p, vIndexAddr_p, vIndexSl_s, vSliceArr_p, vSliceSl_s, vSliceSl_n, vSliceStr_s, vExtract_t, vNilCheck_p, vS2ap_s, vLen_s, vLen_str, vMin_i, vMax_i, vLoad_p, vStore_p, baseP_p, vB2s_s, vMake_i, vS2b_s, callee_f, liveAt_eq, storeAt_eq, partL_none, partL_some, natIn_none, natIn_int, bounds3_two, bin_add, bin_sub, bin_mul, bin_quo, bin_rem, bin_and, bin_or, bin_xor, bin_andNot, bin_eql, bin_neq, bin_lss, bin_leq, bin_gtr, bin_geq, bin_shl, bin_shr, bin_sadd, bin_seql, bin_sneq, un_not, un_neg, un_xor, after_some, put_some, put_none, res_nil, res_val, res_var, packed_one, packed_two, merge_nil, merge_ge, rf_tup2, rfIn_int, rfIn_bool, rfIn_u8s, rf_str, rfIn_str, ↓gate_true, gd_bool, gd_ut, gd_uf, ↓guardV_tt, ↓guardV_ff, ↓guardV_tf, ↓guardV_ft, ↓keepV_some, ↓qElse_some, ↓get_hit, ↓Option.bind_some, ↓if_true, ↓if_false, List.nil_append, List.cons_append, List.all_nil, List.all_cons, List.isEmpty_nil, reduceCtorEq, Bool.false_eq_true, Nat.reduceEqDiff, beq_self_eq_true, bne_self_eq_false, Bool.not_true, Bool.not_false, Int.natCast_nonneg, Nat.lt_irrefl, false_and, Int.reduceEq, rf_int, rf_bool, rf_tuple_ints, rf_u8s, arr_list, toList2, Bool.and_self, Nat.not_lt_zero, Nat.sub_zero, Nat.zero_le, Nat.le_add_right, cells_agg, cells_agg_size, cells_int, cells_int_size, okV_int, okV_bool, okV_str, okV_agg, okV_ptr, okV_slice, okV_func, okV_nilFunc, okV_iface, okV_nilIface, cells_bool, cells_bool_size, cells_ptr, cells_ptr_size, cells_slice, cells_slice_size, cells_str, cells_str_size, eq_self, wrapI64_small, Int.natCast_zero, Int.natCast_one, Int.cast_ofNat_Int, List.length_nil, List.length_cons, List.getElem?_cons_zero, List.getElem?_cons_succ, List.set_cons_zero, List.set_cons_succ, Nat.zero_add, Nat.add_zero, Nat.mul_one, Nat.zero_mul, Int.toNat_natCast, Int.toNat_zero, Int.lt_irrefl, Int.le_refl, Nat.le_refl, and_self, true_and, and_true, decide_true, decide_false, Int.reduceLE, Int.reduceLT, Int.reduceAdd, Int.reduceMul, Int.reduceSub, Int.reduceTDiv, Int.reduceTMod, Int.reduceNeg, Int.reduceToNat, Int.reduceGT, Int.reduceGE, Int.reducePow, Nat.reduceAdd, Nat.reduceMul, Nat.reduceSub, Nat.reduceDiv, Nat.reduceMod, Nat.reducePow, Nat.reduceLT, Nat.reduceLeDiff, Nat.min_self, ge_iff_le, gt_iff_lt, Option.isNone_none, Option.isSome_none, Option.isNone_some, Option.isSome_some, Bool.and_true, Bool.true_and, Bool.and_false, Bool.false_and, not_true_eq_false, not_false_eq_true, or_true, true_or, false_or, or_false, hget0, hgetK, hset0, hsetK, splice_single, splice_whole, take_whole, List.getElem?_nil, List.length_append, List.append_assoc, hz, hd1, hb, muI, List.length_replicate, take_all, eV_cells, eV_size, eV_ok, eV_fold, ns_len, l1, l2, l3, l4, rf_eV]
  rfl
end Go.Ev.Ytaceeoghjgggjaa
set_option linter.unusedSimpArgs false
set_option linter.unusedVariables false
namespace Go.Ev.Ytaceeoghjgggjaa
open Go Go.Ev
attribute [local congr] bind_congr2 ite_congr2 qElse_congr gate_congr guardV_congr
set_option maxRecDepth 100000
instance decPt (p q : Go.Cv.Pt Go.Fp.P Go.Fp.d) : Decidable (p = q) := if h : p.x = q.x ∧ p.y = q.y then isTrue (Go.Cv.Pt.ext h.1 h.2) else isFalse (fun e => h (by rw [e]; exact ⟨rfl, rfl⟩))
theorem same_iff {a b z w : Go.Fp.Fe} (hz : z ≠ 0) (hw : w ≠ 0) : (a * z * w = b * w * z) = (a = b) := by
  apply propext
  constructor
  · intro h
    have F := Go.Fp.fld
    refine F.cancel (F.mul_ne hz hw) ?_
    grobner
  · intro h; subst h; grobner
theorem equal_v {l m : List Nat} {p q : Go.Cv.Pt Go.Fp.P Go.Fp.d} (h1 : RepL l p) (h2 : RepL m q) : evVal T 28 [eV l, eV m] = some (.bool (decide (p = q))) := by
  obtain ⟨x1, y1, z1, t1, rfl, h1⟩ := h1
  obtain ⟨x2, y2, z2, t2, rfl, h2⟩ := h2
  obtain ⟨a, ha, Ea, fa⟩ := mul_ev h1.ex h2.ez
  obtain ⟨b, hb, Eb, fb⟩ := mul_ev h2.ex h1.ez
  obtain ⟨c, hc, Ec, fc⟩ := mul_ev h1.ey h2.ez
  obtain ⟨e, he, Ee, fe_⟩ := mul_ev h2.ey h1.ez
  have q1 := eq_v Ea Eb
  have q2 := eq_v Ec Ee
  rw [fa, fb, h1.x, h2.x] at q1
  rw [fc, fe_, h1.y, h2.y] at q2
  simp only [same_iff h1.nz h2.nz] at q1 q2
  obtain ⟨u0, u1, u2, u3⟩ := quad h1.ex h1.ey h1.ez h1.et
  obtain ⟨v0, v1, v2, v3⟩ := quad h2.ex h2.ey h2.ez h2.et
  have p1 := pL_len h1.ex h1.ey h1.ez h1.et
  have p2 := pL_len h2.ex h2.ey h2.ez h2.et
  generalize pL x1 y1 z1 t1 = L at *
  generalize pL x2 y2 z2 t2 = M at *
  by_cases hx : p.x = q.x
  · rw [decide_eq_true hx] at q1
    have hd : decide (p = q) = decide (p.y = q.y) := by
      by_cases hy : p.y = q.y
      · rw [decide_eq_true hy, decide_eq_true (Go.Cv.Pt.ext hx hy)]
      · rw [decide_eq_false hy, decide_eq_false (fun h => hy (by rw [h]))]
    rw [hd]
    apply evVal_ex
    apply Exists.intro
    rw [evFun_fn (fn := a28) rfl]
    simp only [a28, envOf, evCode_skip, evCode_exit, evCode_seq, fs_blockS, fs_blockR, fs_blockC, fs_blockK, fs_blockB, evCode_ret, quiet, keep_nil, keep_cons, fs_cond, fs_region, fs_regionQ, quiet2_eq, lastOf_nil, lastOf_cons, List.take_succ_cons, List.take_zero, List.drop_succ_cons, List.drop_zero, Int.reduceBEq, Int.reduceBNe,  fs_nil, fs_guard, fs_move, fs_pick, fs_alloc, fs_box, fs_load, fs_store, fs_bin, fs_eqv, fs_isNil, fs_un, fs_conv, fs_convStr, fs_field, fs_index, fs_indexStr, fs_build, fs_buildSlice, fs_fieldAddr, fs_indexAddr, fs_indexSl, fs_sliceArr, fs_sliceSl, fs_sliceStr, fs_makeSlice, fs_extract, fs_mkIface, fs_mkFunc, fs_nilCheck, fs_s2ap, fs_len, fs_minmax, fs_s2b, fs_b2s, fs_append, fs_copy, fs_callW, fs_callR, fs_callv, opd_tmp, opd_const, opd_func, opds_nil, opds_cons, opdOpt_none, opdOpt_some, opdParts_nil, opdParts_cons, get_miss, vPick_t, vPick_f, vEq_agg, vEq_aggN, vEq_bool, vEq_boolN, vConv_int, vStr_s, vField_agg, vIndex_agg, vIndexStr_s, vFieldAddr_p, vIndexAddr_p, vIndexSl_s, vSliceArr_p, vSliceSl_s, vSliceSl_n, vSliceStr_s, vExtract_t, vNilCheck_p, vS2ap_s, vLen_s, vLen_str, vMin_i, vMax_i, vLoad_p, vStore_p, baseP_p, vB2s_s, vMake_i, vS2b_s, callee_f, liveAt_eq, storeAt_eq, partL_none, partL_some, natIn_none, natIn_int, bounds3_two, bin_add, bin_sub, bin_mul, bin_quo, bin_rem, bin_and, bin_or, bin_xor, bin_andNot, bin_eql, bin_neq, bin_lss, bin_leq, bin_gtr, bin_geq, bin_shl, bin_shr, bin_sadd, bin_seql, bin_sneq, un_not, un_neg, un_xor, after_some, put_some, put_none, res_nil, res_val, res_var, packed_one, packed_two, merge_nil, merge_ge, rf_tup2, rfIn_int, rfIn_bool, rfIn_u8s, rf_str, rfIn_str, ↓gate_true, gd_bool, gd_ut, gd_uf, ↓guardV_tt, ↓guardV_ff, ↓guardV_tf, ↓guardV_ft, ↓keepV_some, ↓qElse_some, ↓get_hit, ↓Option.bind_some, ↓if_true, ↓if_false, List.nil_append, List.cons_append, List.all_nil, List.all_cons, List.isEmpty_nil, reduceCtorEq, Bool.false_eq_true, Nat.reduceEqDiff, beq_self_eq_true, bne_self_eq_false, Bool.not_true, Bool.not_false, Int.natCast_nonneg, Nat.lt_irrefl, false_and, Int.reduceEq, rf_int, rf_bool, rf_tuple_ints, rf_u8s, arr_list, toList2, Bool.and_self, Nat.not_lt_zero, Nat.sub_zero, Nat.zero_le, Nat.le_add_right, cells_agg, cells_agg_size, cells_int, cells_int_size, okV_int, okV_bool, okV_str, okV_agg, okV_ptr, okV_slice, okV_func, okV_nilFunc, okV_iface, okV_nilIface, cells_bool, cells_bool_size, cells_ptr, cells_ptr_size, cells_slice, cells_slice_size, cells_str, cells_str_size, eq_self, wrapI64_small, Int.natCast_zero, Int.natCast_one, Int.cast_ofNat_Int, List.length_nil, List.length_cons, List.getElem?_cons_zero, List.getElem?_cons_succ, List.set_cons_zero, List.set_cons_succ, Nat.zero_add, Nat.add_zero, Nat.mul_one, Nat.zero_mul, Int.toNat_natCast, Int.toNat_zero, Int.lt_irrefl, Int.le_refl, Nat.le_refl, and_self, true_and, and_true, decide_true, decide_false, Int.reduceLE, Int.reduceLT, Int.reduceAdd, Int.reduceMul, Int.reduceSub, Int.reduceTDiv, Int.reduceTMod, Int.reduceNeg, Int.reduceToNat, Int.reduceGT, Int.reduceGE, Int.reducePow, Nat.reduceAdd, Nat.reduceMul, Nat.reduceSub, Nat.reduceDiv, Nat.reduceMod, Nat.reducePow, Nat.reduceLT, Nat.reduceLeDiff, Nat.min_self, ge_iff_le, gt_iff_lt, Option.isNone_none, Option.isSome_none, Option.isNone_some, Option.isSome_some, Bool.and_true, Bool.true_and, Bool.and_false, Bool.false_and, not_true_eq_false, not_false_eq_true, or_true, true_or, false_or, or_false, hget0, hgetK, hset0, hsetK, splice_single, splice_whole, take_whole, List.getElem?_nil, List.length_append, List.append_assoc, u0, u1, u2, v0, v1, v2, ha, hb, hc, he, q1, q2, List.length_replicate, take_all, eV_cells, eV_size, eV_ok, eV_fold, ns_len, p1, p2, rf_eV]
    rfl
  · rw [decide_eq_false hx] at q1
    rw [decide_eq_false (fun h => hx (by rw [h]))]
    apply evVal_ex
    apply Exists.intro
    rw [evFun_fn (fn := a28) rfl]
    simp only [a28, envOf, evCode_skip, evCode_exit, evCode_seq, fs_blockS, fs_blockR, fs_blockC, fs_blockK, fs_blockB, evCode_ret, quiet, keep_nil, keep_cons, fs_cond, fs_region, fs_regionQ, quiet2_eq, lastOf_nil, lastOf_cons, List.take_succ_cons, List.take_zero, List.drop_succ_cons, List.drop_zero, Int.reduceBEq, Int.reduceBNe,  fs_nil, fs_guard, fs_move, fs_pick, fs_alloc, fs_box, fs_load, fs_store, fs_bin, fs_eqv, fs_isNil, fs_un, fs_conv, fs_convStr, fs_field, fs_index, fs_indexStr, fs_build, fs_buildSlice, fs_fieldAddr, fs_indexAddr, fs_indexSl, fs_sliceArr, fs_sliceSl, fs_sliceStr, fs_makeSlice, fs_extract, fs_mkIface, fs_mkFunc, fs_nilCheck, fs_s2ap, fs_len, fs_minmax, fs_s2b, fs_b2s, fs_append, fs_copy, fs_callW, fs_callR, fs_callv, opd_tmp, opd_const, opd_func, opds_nil, opds_cons, opdOpt_none, opdOpt_some, opdParts_nil, opdParts_cons, get_miss, vPick_t, vPick_f, vEq_agg, vEq_aggN, vEq_bool, vEq_boolN, vConv_int, vStr_s, vField_agg, vIndex_agg, vIndexStr_s, vFieldAddr_p, vIndexAddr_p, vIndexSl_s, vSliceArr_p, vSliceSl_s, vSliceSl_n, vSliceStr_s, vExtract_t, vNilCheck_p, vS2ap_s, vLen_s, vLen_str, vMin_i, vMax_i, vLoad_p, vStore_p, baseP_p, vB2s_s, vMake_i, vS2b_s, callee_f, liveAt_eq, storeAt_eq, partL_none, partL_some, natIn_none, natIn_int, bounds3_two, bin_add, bin_sub, bin_mul, bin_quo, bin_rem, bin_and, bin_or, bin_xor, bin_andNot, bin_eql, bin_neq, bin_lss, bin_leq, bin_gtr, bin_geq, bin_shl, bin_shr, bin_sadd, bin_seql, bin_sneq, un_not, un_neg, un_xor, after_some, put_some, put_none, res_nil, res_val, res_var, packed_one, packed_two, merge_nil, merge_ge, rf_tup2, rfIn_int, rfIn_bool, rfIn_u8s, rf_str, rfIn_str, ↓gate_true, gd_bool, gd_ut, gd_uf, ↓guardV_tt, ↓guardV_ff, ↓guardV_tf, ↓guardV_ft, ↓keepV_some, ↓qElse_some, ↓get_hit, ↓Option.bind_some, ↓if_true, ↓if_false, List.nil_append, List.cons_append, List.all_nil, List.all_cons, List.isEmpty_nil, reduceCtorEq, Bool.false_eq_true, Nat.reduceEqDiff, beq_self_eq_true, bne_self_eq_false, Bool.not_true, Bool.not_false, Int.natCast_nonneg, Nat.lt_irrefl, false_and, Int.reduceEq, rf_int, rf_bool, rf_tuple_ints, rf_u8s, arr_list, toList2, Bool.and_self, Nat.not_lt_zero, Nat.sub_zero, Nat.zero_le, Nat.le_add_right, cells_agg, cells_agg_size, cells_int, cells_int_size, okV_int, okV_bool, okV_str, okV_agg, okV_ptr, okV_slice, okV_func, okV_nilFunc, okV_iface, okV_nilIface, cells_bool, cells_bool_size, cells_ptr, cells_ptr_size, cells_slice, cells_slice_size, cells_str, cells_str_size, eq_self, wrapI64_small, Int.natCast_zero, Int.natCast_one, Int.cast_ofNat_Int, List.length_nil, List.length_cons, List.getElem?_cons_zero, List.getElem?_cons_succ, List.set_cons_zero, List.set_cons_succ, Nat.zero_add, Nat.add_zero, Nat.mul_one, Nat.zero_mul, Int.toNat_natCast, Int.toNat_zero, Int.lt_irrefl, Int.le_refl, Nat.le_refl, and_self, true_and, and_true, decide_true, decide_false, Int.reduceLE, Int.reduceLT, Int.reduceAdd, Int.reduceMul, Int.reduceSub, Int.reduceTDiv, Int.reduceTMod, Int.reduceNeg, Int.reduceToNat, Int.reduceGT, Int.reduceGE, Int.reducePow, Nat.reduceAdd, Nat.reduceMul, Nat.reduceSub, Nat.reduceDiv, Nat.reduceMod, Nat.reducePow, Nat.reduceLT, Nat.reduceLeDiff, Nat.min_self, ge_iff_le, gt_iff_lt, Option.isNone_none, Option.isSome_none, Option.isNone_some, Option.isSome_some, Bool.and_true, Bool.true_and, Bool.and_false, Bool.false_and, not_true_eq_false, not_false_eq_true, or_true, true_or, false_or, or_false, hget0, hgetK, hset0, hsetK, splice_single, splice_whole, take_whole, List.getElem?_nil, List.length_append, List.append_assoc, u0, u1, u2, v0, v1, v2, ha, hb, hc, he, q1, q2, List.length_replicate, take_all, eV_cells, eV_size, eV_ok, eV_fold, ns_len, p1, p2, rf_eV]
    rfl
theorem eight_eq (p : Go.Cv.Pt Go.Fp.P Go.Fp.d) : padd (padd (padd p p) (padd p p)) (padd (padd p p) (padd p p)) = pmul 8 p := by
  have h2 : pmul 2 p = padd p p := Go.Cv.mul_two Go.Fp.fld p
  have h4 : pmul 4 p = padd (pmul 2 p) (pmul 2 p) := Go.Cv.mul_add Go.Fp.fld 2 2 p
  have h8 : pmul 8 p = padd (pmul 4 p) (pmul 4 p) := Go.Cv.mul_add Go.Fp.fld 4 4 p
  rw [h8, h4, h2]
theorem tiny_v {l : List Nat} {p : Go.Cv.Pt Go.Fp.P Go.Fp.d} (h : RepL l p) : evVal T 39 [eV l] = some (.bool (decide (pmul 8 p = pzero))) := by
  obtain ⟨a, ha, ra⟩ := twiceL h
  obtain ⟨b, hb, rb⟩ := twiceL ra
  obtain ⟨c, hc, rc⟩ := twiceL rb
  obtain ⟨z, hz, rz⟩ := zero_v
  have he := equal_v rc rz
  rw [eight_eq] at he
  have p1 := h.len
  apply evVal_ex
  apply Exists.intro
  rw [evFun_fn (fn := a39) rfl]
  simp only [a39, envOf, evCode_skip, evCode_exit, evCode_seq, fs_blockS, fs_blockR, fs_blockC, fs_blockK, fs_blockB, evCode_ret, quiet, keep_nil, keep_cons, fs_cond, fs_region, fs_regionQ, quiet2_eq, lastOf_nil, lastOf_cons, List.take_succ_cons, List.take_zero, List.drop_succ_cons, List.drop_zero, Int.reduceBEq, Int.reduceBNe,  fs_nil, fs_guard, fs_move, fs_pick, fs_alloc, fs_box, fs_load, fs_store, fs_bin, fs_eqv, fs_isNil, fs_un, fs_conv, fs_convStr, fs_field, fs_index, fs_indexStr, fs_build, fs_buildSlice, fs_fieldAddr, fs_indexAddr, fs_indexSl, fs_sliceArr, fs_sliceSl, fs_sliceStr, fs_makeSlice, fs_extract, fs_mkIface, fs_mkFunc, fs_nilCheck, fs_s2ap, fs_len, fs_minmax, fs_s2b, fs_b2s, fs_append, fs_copy, fs_callW, fs_callR, fs_callv, opd_tmp, opd_const, opd_func, opds_nil, opds_cons, opdOpt_none, opdOpt_some, opdParts_nil, opdParts_cons, get_miss, vPick_t, vPick_f, vEq_agg, vEq_aggN, vEq_bool, vEq_boolN, vConv_int, vStr_s, vField_agg, vIndex_agg, vIndexStr_s, vFieldAddr_p, vIndexAddr_p, vIndexSl_s, vSliceArr_p, vSliceSl_s, vSliceSl_n, vSliceStr_s, vExtract_t, vNilCheck_p, vS2ap_s, vLen_s, vLen_str, vMin_i, vMax_i, vLoad_p, vStore_p, baseP_p, vB2s_s, vMake_i, vS2b_s, callee_f, liveAt_eq, storeAt_eq, partL_none, partL_some, natIn_none, natIn_int, bounds3_two, bin_add, bin_sub, bin_mul, bin_quo, bin_rem, bin_and, bin_or, bin_xor, bin_andNot, bin_eql, bin_neq, bin_lss, bin_leq, bin_gtr, bin_geq, bin_shl, bin_shr, bin_sadd, bin_seql, bin_sneq, un_not, un_neg, un_xor, after_some, put_some, put_none, res_nil, res_val, res_var, packed_one, packed_two, merge_nil, merge_ge, rf_tup2, rfIn_int, rfIn_bool, rfIn_u8s, rf_str, rfIn_str, ↓gate_true, gd_bool, gd_ut, gd_uf, ↓guardV_tt, ↓guardV_ff, ↓guardV_tf, ↓guardV_ft, ↓keepV_some, ↓qElse_some, ↓get_hit, ↓Option.bind_some, ↓if_true, ↓if_false, List.nil_append, List.cons_append, List.all_nil, List.all_cons, List.isEmpty_nil, reduceCtorEq, Bool.false_eq_true, Nat.reduceEqDiff, beq_self_eq_true, bne_self_eq_false, Bool.not_true, Bool.not_false, Int.natCast_nonneg, Nat.lt_irrefl, false_and, Int.reduceEq, rf_int, rf_bool, rf_tuple_ints, rf_u8s, arr_list, toList2, Bool.and_self, Nat.not_lt_zero, Nat.sub_zero, Nat.zero_le, Nat.le_add_right, cells_agg, cells_agg_size, cells_int, cells_int_size, okV_int, okV_bool, okV_str, okV_agg, okV_ptr, okV_slice, okV_func, okV_nilFunc, okV_iface, okV_nilIface, cells_bool, cells_bool_size, cells_ptr, cells_ptr_size, cells_slice, cells_slice_size, cells_str, cells_str_size, eq_self, wrapI64_small, Int.natCast_zero, Int.natCast_one, Int.cast_ofNat_Int, List.length_nil, List.length_cons, List.getElem?_cons_zero, List.getElem?_cons_succ, List.set_cons_zero, List.set_cons_succ, Nat.zero_add, Nat.add_zero, Nat.mul_one, Nat.zero_mul, Int.toNat_natCast, Int.toNat_zero, Int.lt_irrefl, Int.le_refl, Nat.le_refl, and_self, true_and, and_true, decide_true, decide_false, Int.reduceLE, Int.reduceLT, Int.reduceAdd, Int.reduceMul, Int.reduceSub, Int.reduceTDiv, Int.reduceTMod, Int.reduceNeg, Int.reduceToNat, Int.reduceGT, Int.reduceGE, Int.reducePow, Nat.reduceAdd, Nat.reduceMul, Nat.reduceSub, Nat.reduceDiv, Nat.reduceMod, Nat.reducePow, Nat.reduceLT, Nat.reduceLeDiff, Nat.min_self, ge_iff_le, gt_iff_lt, Option.isNone_none, Option.isSome_none, Option.isNone_some, Option.isSome_some, Bool.and_true, Bool.true_and, Bool.and_false, Bool.false_and, not_true_eq_false, not_false_eq_true, or_true, true_or, false_or, or_false, hget0, hgetK, hset0, hsetK, splice_single, splice_whole, take_whole, List.getElem?_nil, List.length_append, List.append_assoc, ha, hb, hc, hz, he, take_all, eV_cells, eV_size, eV_ok, eV_fold, ns_len, p1, rf_eV]
  rfl
def encN (p : Go.Cv.Pt Go.Fp.P Go.Fp.d) : Nat := p.y.val + (p.x.val % 2) * 2 ^ 255
def enc (p : Go.Cv.Pt Go.Fp.P Go.Fp.d) : List Nat := dig 256 32 (encN p)
theorem enc_len (p : Go.Cv.Pt Go.Fp.P Go.Fp.d) : (enc p).length = 32 := dig_len _ _ _
theorem enc_lt (p : Go.Cv.Pt Go.Fp.P Go.Fp.d) : ∀ x ∈ enc p, x < 256 := dig32_lt
theorem val_lt (a : Go.Fp.Fe) : a.val < 2 ^ 255 := Nat.lt_trans a.isLt (by rw [Go.Fp.P_eq]; decide)
theorem encN_lt (p : Go.Cv.Pt Go.Fp.P Go.Fp.d) : encN p < 256 ^ 32 := by
  have h1 := val_lt p.y
  have h2 := Nat.mod_lt p.x.val (by decide : 0 < 2)
  unfold encN
  have : p.x.val % 2 * 2 ^ 255 ≤ 1 * 2 ^ 255 := Nat.mul_le_mul_right _ (by omega)
  have e : (256 : Nat) ^ 32 = 2 ^ 255 + 2 ^ 255 := by decide
  omega
theorem encode_v {l : List Nat} {p : Go.Cv.Pt Go.Fp.P Go.Fp.d} (h : RepL l p) : evVal T 29 [eV l] = some (.agg (u8s (enc p)).toArray) := by
  obtain ⟨x, y, z, t, rfl, h⟩ := h
  obtain ⟨i, hi, Ei, fi⟩ := invert_v h.ez
  obtain ⟨a, ha, Ea, fa⟩ := mul_ev h.ey Ei
  obtain ⟨b, hb, Eb, fb⟩ := mul_ev h.ex Ei
  have hinv := Go.Fp.iv_mul h.nz
  have fa' : fe a = p.y := by rw [fa, fi, h.y]; grobner
  have fb' : fe b = p.x := by rw [fb, fi, h.x]; grobner
  have k1 := bytes_v Ea
  have k2 := odd_v Eb
  rw [fa'] at k1
  rw [fb'] at k2
  obtain ⟨u0, u1, u2, u3⟩ := quad h.ex h.ey h.ez h.et
  have p1 := pL_len h.ex h.ey h.ez h.et
  have L1 := Ei.len
  have lk : (dig 256 32 p.y.val).length = 32 := dig_len _ _ _
  have l0 : (dig 256 32 0).length = 32 := rfl
  have hz32 : List.replicate 32 (Value.int .u8 0) = u8s (dig 256 32 0) := rfl
  generalize pL x y z t = L at *
  by_cases ho : p.x.val % 2 = 1
  · rw [decide_eq_true ho] at k2
    have hv := val_lt p.y
    obtain ⟨w, hw⟩ : ∃ w, (dig 256 32 p.y.val)[31]? = some w := ⟨_, List.getElem?_eq_getElem (by rw [dig_len]; decide)⟩
    have hwc := u8s_get hw
    have hw' : w < 256 := dig_lt (by decide) (List.mem_of_getElem? hw)
    have hput := dig_put (w := 8) (m := 32) (q := 31) (s := 7) (y := 1) (M := p.y.val) (by decide) (by decide) hv (by decide)
    have hgd : (dig (2 ^ 8) 32 p.y.val).getD 31 0 = w := by rw [List.getD_eq_getElem?_getD]; rw [show (2 : Nat) ^ 8 = 256 from rfl, hw]; rfl
    rw [hgd] at hput
    have hset := u8s_set (dig 256 32 p.y.val) 31 (w ||| 128)
    rw [show (dig 256 32 p.y.val).set 31 (w ||| 128) = enc p from by rw [enc, encN, ho]; exact hput] at hset
    have o1 : bitsOp .or .u8 (w : Int) 128 = ((w ||| 128 : Nat) : Int) := bits_or (k := .u8) (a := w) (b := 128) rfl hw' (by decide)
    have le := enc_len p
    generalize enc p = E at *
    apply evVal_ex
    apply Exists.intro
    rw [evFun_fn (fn := a29) rfl]
    simp only [a29, envOf, evCode_skip, evCode_exit, evCode_seq, fs_blockS, fs_blockR, fs_blockC, fs_blockK, fs_blockB, evCode_ret, quiet, keep_nil, keep_cons, fs_cond, fs_region, fs_regionQ, quiet2_eq, lastOf_nil, lastOf_cons, List.take_succ_cons, List.take_zero, List.drop_succ_cons, List.drop_zero, Int.reduceBEq, Int.reduceBNe,  fs_nil, fs_guard, fs_move, fs_pick, fs_alloc, fs_box, fs_load, fs_store, fs_bin, fs_eqv, fs_isNil, fs_un, fs_conv, fs_convStr, fs_field, fs_index, fs_indexStr, fs_build, fs_buildSlice, fs_fieldAddr, fs_indexAddr, fs_indexSl, fs_sliceArr, fs_sliceSl, fs_sliceStr, fs_makeSlice, fs_extract, fs_mkIface, fs_mkFunc, fs_nilCheck, fs_s2ap, fs_len, fs_minmax, fs_s2b, fs_b2s, fs_append, fs_copy, fs_callW, fs_callR, fs_callv, opd_tmp, opd_const, opd_func, opds_nil, opds_cons, opdOpt_none, opdOpt_some, opdParts_nil, opdParts_cons, get_miss, vPick_t, vPick_f, vEq_agg, vEq_aggN, vEq_bool, vEq_boolN, vConv_int, vStr_s, vField_agg, vIndex_agg, vIndexStr_s, vFieldAddr_p, vIndexAddr_p, vIndexSl_s, vSliceArr_p, vSliceSl_s, vSliceSl_n, vSliceStr_s, vExtract_t, vNilCheck_p, vS2ap_s, vLen_s, vLen_str, vMin_i, vMax_i, vLoad_p, vStore_p, baseP_p, vB2s_s, vMake_i, vS2b_s, callee_f, liveAt_eq, storeAt_eq, partL_none, partL_some, natIn_none, natIn_int, bounds3_two, bin_add, bin_sub, bin_mul, bin_quo, bin_rem, bin_and, bin_or, bin_xor, bin_andNot, bin_eql, bin_neq, bin_lss, bin_leq, bin_gtr, bin_geq, bin_shl, bin_shr, bin_sadd, bin_seql, bin_sneq, un_not, un_neg, un_xor, after_some, put_some, put_none, res_nil, res_val, res_var, packed_one, packed_two, merge_nil, merge_ge, rf_tup2, rfIn_int, rfIn_bool, rfIn_u8s, rf_str, rfIn_str, ↓gate_true, gd_bool, gd_ut, gd_uf, ↓guardV_tt, ↓guardV_ff, ↓guardV_tf, ↓guardV_ft, ↓keepV_some, ↓qElse_some, ↓get_hit, ↓Option.bind_some, ↓if_true, ↓if_false, List.nil_append, List.cons_append, List.all_nil, List.all_cons, List.isEmpty_nil, reduceCtorEq, Bool.false_eq_true, Nat.reduceEqDiff, beq_self_eq_true, bne_self_eq_false, Bool.not_true, Bool.not_false, Int.natCast_nonneg, Nat.lt_irrefl, false_and, Int.reduceEq, rf_int, rf_bool, rf_tuple_ints, rf_u8s, arr_list, toList2, Bool.and_self, Nat.not_lt_zero, Nat.sub_zero, Nat.zero_le, Nat.le_add_right, cells_agg, cells_agg_size, cells_int, cells_int_size, okV_int, okV_bool, okV_str, okV_agg, okV_ptr, okV_slice, okV_func, okV_nilFunc, okV_iface, okV_nilIface, cells_bool, cells_bool_size, cells_ptr, cells_ptr_size, cells_slice, cells_slice_size, cells_str, cells_str_size, eq_self, wrapI64_small, Int.natCast_zero, Int.natCast_one, Int.cast_ofNat_Int, List.length_nil, List.length_cons, List.getElem?_cons_zero, List.getElem?_cons_succ, List.set_cons_zero, List.set_cons_succ, Nat.zero_add, Nat.add_zero, Nat.mul_one, Nat.zero_mul, Int.toNat_natCast, Int.toNat_zero, Int.lt_irrefl, Int.le_refl, Nat.le_refl, and_self, true_and, and_true, decide_true, decide_false, Int.reduceLE, Int.reduceLT, Int.reduceAdd, Int.reduceMul, Int.reduceSub, Int.reduceTDiv, Int.reduceTMod, Int.reduceNeg, Int.reduceToNat, Int.reduceGT, Int.reduceGE, Int.reducePow, Nat.reduceAdd, Nat.reduceMul, Nat.reduceSub, Nat.reduceDiv, Nat.reduceMod, Nat.reducePow, Nat.reduceLT, Nat.reduceLeDiff, Nat.min_self, ge_iff_le, gt_iff_lt, Option.isNone_none, Option.isSome_none, Option.isNone_some, Option.isSome_some, Bool.and_true, Bool.true_and, Bool.and_false, Bool.false_and, not_true_eq_false, not_false_eq_true, or_true, true_or, false_or, or_false, hget0, hgetK, hset0, hsetK, splice_single, splice_whole, take_whole, List.getElem?_nil, List.length_append, List.append_assoc, hz32, u0, u1, u2, hi, ha, hb, k1, k2, hwc, o1, hset, List.length_replicate, take_all, eV_cells, eV_size, eV_ok, eV_fold, ns_len, u8s_len, lk, l0, le, p1, L1, rf_eV]
    rfl
  · rw [decide_eq_false ho] at k2
    have he : enc p = dig 256 32 p.y.val := by rw [enc, encN, show p.x.val % 2 = 0 by omega, Nat.zero_mul, Nat.add_zero]
    rw [he]
    generalize dig 256 32 p.y.val = E at *
    apply evVal_ex
    apply Exists.intro
    rw [evFun_fn (fn := a29) rfl]
    simp only [a29, envOf, evCode_skip, evCode_exit, evCode_seq, fs_blockS, fs_blockR, fs_blockC, fs_blockK, fs_blockB, evCode_ret, quiet, keep_nil, keep_cons, fs_cond, fs_region, fs_regionQ, quiet2_eq, lastOf_nil, lastOf_cons, List.take_succ_cons, List.take_zero, List.drop_succ_cons, List.drop_zero, Int.reduceBEq, Int.reduceBNe,  fs_nil, fs_guard, fs_move, fs_pick, fs_alloc, fs_box, fs_load, fs_store, fs_bin, fs_eqv, fs_isNil, fs_un, fs_conv, fs_convStr, fs_field, fs_index, fs_indexStr, fs_build, fs_buildSlice, fs_fieldAddr, fs_indexAddr, fs_indexSl, fs_sliceArr, fs_sliceSl, fs_sliceStr, fs_makeSlice, fs_extract, fs_mkIface, fs_mkFunc, fs_nilCheck, fs_s2ap, fs_len, fs_minmax, fs_s2b, fs_b2s, fs_append, fs_copy, fs_callW, fs_callR, fs_callv, opd_tmp, opd_const, opd_func, opds_nil, opds_cons, opdOpt_none, opdOpt_some, opdParts_nil, opdParts_cons, get_miss, vPick_t, vPick_f, vEq_agg, vEq_aggN, vEq_bool, vEq_boolN, vConv_int, vStr_s, vField_agg, vIndex_agg, vIndexStr_s, vFieldAddr_p, vIndexAddr_p, vIndexSl_s, vSliceArr_p, vSliceSl_s, vSliceSl_n, vSliceStr_s, vExtract_t, vNilCheck_p, vS2ap_s, vLen_s, vLen_str, vMin_i, vMax_i, vLoad_p, vStore_p, baseP_p, vB2s_s, vMake_i, vS2b_s, callee_f, liveAt_eq, storeAt_eq, partL_none, partL_some, natIn_none, natIn_int, bounds3_two, bin_add, bin_sub, bin_mul, bin_quo, bin_rem, bin_and, bin_or, bin_xor, bin_andNot, bin_eql, bin_neq, bin_lss, bin_leq, bin_gtr, bin_geq, bin_shl, bin_shr, bin_sadd, bin_seql, bin_sneq, un_not, un_neg, un_xor, after_some, put_some, put_none, res_nil, res_val, res_var, packed_one, packed_two, merge_nil, merge_ge, rf_tup2, rfIn_int, rfIn_bool, rfIn_u8s, rf_str, rfIn_str, ↓gate_true, gd_bool, gd_ut, gd_uf, ↓guardV_tt, ↓guardV_ff, ↓guardV_tf, ↓guardV_ft, ↓keepV_some, ↓qElse_some, ↓get_hit, ↓Option.bind_some, ↓if_true, ↓if_false, List.nil_append, List.cons_append, List.all_nil, List.all_cons, List.isEmpty_nil, reduceCtorEq, Bool.false_eq_true, Nat.reduceEqDiff, beq_self_eq_true, bne_self_eq_false, Bool.not_true, Bool.not_false, Int.natCast_nonneg, Nat.lt_irrefl, false_and, Int.reduceEq, rf_int, rf_bool, rf_tuple_ints, rf_u8s, arr_list, toList2, Bool.and_self, Nat.not_lt_zero, Nat.sub_zero, Nat.zero_le, Nat.le_add_right, cells_agg, cells_agg_size, cells_int, cells_int_size, okV_int, okV_bool, okV_str, okV_agg, okV_ptr, okV_slice, okV_func, okV_nilFunc, okV_iface, okV_nilIface, cells_bool, cells_bool_size, cells_ptr, cells_ptr_size, cells_slice, cells_slice_size, cells_str, cells_str_size, eq_self, wrapI64_small, Int.natCast_zero, Int.natCast_one, Int.cast_ofNat_Int, List.length_nil, List.length_cons, List.getElem?_cons_zero, List.getElem?_cons_succ, List.set_cons_zero, List.set_cons_succ, Nat.zero_add, Nat.add_zero, Nat.mul_one, Nat.zero_mul, Int.toNat_natCast, Int.toNat_zero, Int.lt_irrefl, Int.le_refl, Nat.le_refl, and_self, true_and, and_true, decide_true, decide_false, Int.reduceLE, Int.reduceLT, Int.reduceAdd, Int.reduceMul, Int.reduceSub, Int.reduceTDiv, Int.reduceTMod, Int.reduceNeg, Int.reduceToNat, Int.reduceGT, Int.reduceGE, Int.reducePow, Nat.reduceAdd, Nat.reduceMul, Nat.reduceSub, Nat.reduceDiv, Nat.reduceMod, Nat.reducePow, Nat.reduceLT, Nat.reduceLeDiff, Nat.min_self, ge_iff_le, gt_iff_lt, Option.isNone_none, Option.isSome_none, Option.isNone_some, Option.isSome_some, Bool.and_true, Bool.true_and, Bool.and_false, Bool.false_and, not_true_eq_false, not_false_eq_true, or_true, true_or, false_or, or_false, hget0, hgetK, hset0, hsetK, splice_single, splice_whole, take_whole, List.getElem?_nil, List.length_append, List.append_assoc, hz32, u0, u1, u2, hi, ha, hb, k1, k2, List.length_replicate, take_all, eV_cells, eV_size, eV_ok, eV_fold, ns_len, u8s_len, lk, l0, p1, L1, rf_eV]
    rfl
def bxN : Nat := 15112221349535400772501151409588531511454012693041857206046113283949847762202
def byN : Nat := 46316835694926478169428394003475163141307993866256225615783033603165251855960
def pbase : Go.Cv.Pt Go.Fp.P Go.Fp.d := ⟨Go.Fp.fp bxN, Go.Fp.fp byN, by
  unfold Go.Cv.On Go.Fp.d
  have h : (Go.Fp.fp byN * Go.Fp.fp byN : Go.Fp.Fe) = Go.Fp.fp bxN * Go.Fp.fp bxN + (1 + Go.Fp.fp Go.Fp.dN * (Go.Fp.fp bxN * Go.Fp.fp bxN) * (Go.Fp.fp byN * Go.Fp.fp byN)) := by
    rw [← Go.Fp.fp_one, ← Go.Fp.fp_mul, ← Go.Fp.fp_mul, ← Go.Fp.fp_mul, ← Go.Fp.fp_mul, ← Go.Fp.fp_add, ← Go.Fp.fp_add]
    exact Go.Fp.fp_eq.2 (by decide +kernel)
  grobner⟩
def bxK : List Nat := dig 256 32 bxN
def byK : List Nat := dig 256 32 byN
theorem bxK_num : num 256 bxK = bxN := by decide +kernel
theorem byK_num : num 256 byK = byN := by decide +kernel
theorem base_v : ∃ r, evVal T 25 [] = some (eV r) ∧ RepL r pbase := by
  have h1 := of_v (k := bxK) (dig_len _ _ _) dig32_lt
  have h2 := of_v (k := byK) (dig_len _ _ _) dig32_lt
  have E1 := of_el (V := num 256 bxK % 2 ^ 255)
  have E2 := of_el (V := num 256 byK % 2 ^ 255)
  have f1 : fe (dig (2 ^ 51) 5 (num 256 bxK % 2 ^ 255)) = Go.Fp.fp bxN := by unfold fe; rw [of_v51, bxK_num]; rfl
  have f2 : fe (dig (2 ^ 51) 5 (num 256 byK % 2 ^ 255)) = Go.Fp.fp byN := by unfold fe; rw [of_v51, byK_num]; rfl
  generalize dig (2 ^ 51) 5 (num 256 bxK % 2 ^ 255) = X at *
  generalize dig (2 ^ 51) 5 (num 256 byK % 2 ^ 255) = Y at *
  obtain ⟨t, ht, Et, ft⟩ := mul_ev E1 E2
  have E3 : ∃ O : List Nat, O = [1, 0, 0, 0, 0] := ⟨_, rfl⟩
  obtain ⟨O, hO⟩ := E3
  have E3 : El O (2 ^ 52) := by rw [hO]; exact one_el
  have v1 : evVal T 50 [.int .u32 1] = some (eV O) := by rw [hO]; exact one_v
  have f3 : fe O = 1 := by rw [hO]; exact one_fe
  clear hO
  have hf := fill4 E1 E2 E3 Et
  have p1 := pL_len E1 E2 E3 Et
  refine ⟨pL X Y O t, ?_, X, Y, O, t, rfl, E1, E2, E3, Et, by rw [f3]; exact Go.Fp.one_ne, by rw [f1, f3]; simp only [pbase]; grobner, by rw [f2, f3]; simp only [pbase]; grobner, by rw [ft, f1, f2, f3]; simp only [pbase]; grobner⟩
  have L1 := E1.len
  have L2 := E2.len
  have g1 : fillL (List.replicate 32 (Value.int .u8 0)) [(0, 1, .int .u8 26), (1, 1, .int .u8 213), (2, 1, .int .u8 37), (3, 1, .int .u8 143), (4, 1, .int .u8 96), (5, 1, .int .u8 45), (6, 1, .int .u8 86), (7, 1, .int .u8 201), (8, 1, .int .u8 178), (9, 1, .int .u8 167), (10, 1, .int .u8 37), (11, 1, .int .u8 149), (12, 1, .int .u8 96), (13, 1, .int .u8 199), (14, 1, .int .u8 44), (15, 1, .int .u8 105), (16, 1, .int .u8 92), (17, 1, .int .u8 220), (18, 1, .int .u8 214), (19, 1, .int .u8 253), (20, 1, .int .u8 49), (21, 1, .int .u8 226), (22, 1, .int .u8 164), (23, 1, .int .u8 192), (24, 1, .int .u8 254), (25, 1, .int .u8 83), (26, 1, .int .u8 110), (27, 1, .int .u8 205), (28, 1, .int .u8 211), (29, 1, .int .u8 54), (30, 1, .int .u8 105), (31, 1, .int .u8 33)] = some (u8s bxK) := by
    have : bxK = [26, 213, 37, 143, 96, 45, 86, 201, 178, 167, 37, 149, 96, 199, 44, 105, 92, 220, 214, 253, 49, 226, 164, 192, 254, 83, 110, 205, 211, 54, 105, 33] := by decide +kernel
    rw [this]; rfl
  have g2 : fillL (List.replicate 32 (Value.int .u8 0)) [(0, 1, .int .u8 88), (1, 1, .int .u8 102), (2, 1, .int .u8 102), (3, 1, .int .u8 102), (4, 1, .int .u8 102), (5, 1, .int .u8 102), (6, 1, .int .u8 102), (7, 1, .int .u8 102), (8, 1, .int .u8 102), (9, 1, .int .u8 102), (10, 1, .int .u8 102), (11, 1, .int .u8 102), (12, 1, .int .u8 102), (13, 1, .int .u8 102), (14, 1, .int .u8 102), (15, 1, .int .u8 102), (16, 1, .int .u8 102), (17, 1, .int .u8 102), (18, 1, .int .u8 102), (19, 1, .int .u8 102), (20, 1, .int .u8 102), (21, 1, .int .u8 102), (22, 1, .int .u8 102), (23, 1, .int .u8 102), (24, 1, .int .u8 102), (25, 1, .int .u8 102), (26, 1, .int .u8 102), (27, 1, .int .u8 102), (28, 1, .int .u8 102), (29, 1, .int .u8 102), (30, 1, .int .u8 102), (31, 1, .int .u8 102)] = some (u8s byK) := by
    have : byK = [88, 102, 102, 102, 102, 102, 102, 102, 102, 102, 102, 102, 102, 102, 102, 102, 102, 102, 102, 102, 102, 102, 102, 102, 102, 102, 102, 102, 102, 102, 102, 102] := by decide +kernel
    rw [this]; rfl
  generalize pL X Y O t = Q at *
  apply evVal_ex
  apply Exists.intro
  rw [evFun_fn (fn := a25) rfl]
  simp only [a25, envOf, evCode_skip, evCode_exit, evCode_seq, fs_blockS, fs_blockR, fs_blockC, fs_blockK, fs_blockB, evCode_ret, quiet, keep_nil, keep_cons, fs_cond, fs_region, fs_regionQ, quiet2_eq, lastOf_nil, lastOf_cons, List.take_succ_cons, List.take_zero, List.drop_succ_cons, List.drop_zero, Int.reduceBEq, Int.reduceBNe,  fs_nil, fs_guard, fs_move, fs_pick, fs_alloc, fs_box, fs_load, fs_store, fs_bin, fs_eqv, fs_isNil, fs_un, fs_conv, fs_convStr, fs_field, fs_index, fs_indexStr, fs_build, fs_buildSlice, fs_fieldAddr, fs_indexAddr, fs_indexSl, fs_sliceArr, fs_sliceSl, fs_sliceStr, fs_makeSlice, fs_extract, fs_mkIface, fs_mkFunc, fs_nilCheck, fs_s2ap, fs_len, fs_minmax, fs_s2b, fs_b2s, fs_append, fs_copy, fs_callW, fs_callR, fs_callv, opd_tmp, opd_const, opd_func, opds_nil, opds_cons, opdOpt_none, opdOpt_some, opdParts_nil, opdParts_cons, get_miss, vPick_t, vPick_f, vEq_agg, vEq_aggN, vEq_bool, vEq_boolN, vConv_int, vStr_s, vField_agg, vIndex_agg, vIndexStr_s, vFieldAddr_p, vIndexAddr_p, vIndexSl_s, vSliceArr_p, vSliceSl_s, vSliceSl_n, vSliceStr_s, vExtract_t, vNilCheck_p, vS2ap_s, vLen_s, vLen_str, vMin_i, vMax_i, vLoad_p, vStore_p, baseP_p, vB2s_s, vMake_i, vS2b_s, callee_f, liveAt_eq, storeAt_eq, partL_none, partL_some, natIn_none, natIn_int, bounds3_two, bin_add, bin_sub, bin_mul, bin_quo, bin_rem, bin_and, bin_or, bin_xor, bin_andNot, bin_eql, bin_neq, bin_lss, bin_leq, bin_gtr, bin_geq, bin_shl, bin_shr, bin_sadd, bin_seql, bin_sneq, un_not, un_neg, un_xor, after_some, put_some, put_none, res_nil, res_val, res_var, packed_one, packed_two, merge_nil, merge_ge, rf_tup2, rfIn_int, rfIn_bool, rfIn_u8s, rf_str, rfIn_str, ↓gate_true, gd_bool, gd_ut, gd_uf, ↓guardV_tt, ↓guardV_ff, ↓guardV_tf, ↓guardV_ft, ↓keepV_some, ↓qElse_some, ↓get_hit, ↓Option.bind_some, ↓if_true, ↓if_false, List.nil_append, List.cons_append, List.all_nil, List.all_cons, List.isEmpty_nil, reduceCtorEq, Bool.false_eq_true, Nat.reduceEqDiff, beq_self_eq_true, bne_self_eq_false, Bool.not_true, Bool.not_false, Int.natCast_nonneg, Nat.lt_irrefl, false_and, Int.reduceEq, rf_int, rf_bool, rf_tuple_ints, rf_u8s, arr_list, toList2, Bool.and_self, Nat.not_lt_zero, Nat.sub_zero, Nat.zero_le, Nat.le_add_right, cells_agg, cells_agg_size, cells_int, cells_int_size, okV_int, okV_bool, okV_str, okV_agg, okV_ptr, okV_slice, okV_func, okV_nilFunc, okV_iface, okV_nilIface, cells_bool, cells_bool_size, cells_ptr, cells_ptr_size, cells_slice, cells_slice_size, cells_str, cells_str_size, eq_self, wrapI64_small, Int.natCast_zero, Int.natCast_one, Int.cast_ofNat_Int, List.length_nil, List.length_cons, List.getElem?_cons_zero, List.getElem?_cons_succ, List.set_cons_zero, List.set_cons_succ, Nat.zero_add, Nat.add_zero, Nat.mul_one, Nat.zero_mul, Int.toNat_natCast, Int.toNat_zero, Int.lt_irrefl, Int.le_refl, Nat.le_refl, and_self, true_and, and_true, decide_true, decide_false, Int.reduceLE, Int.reduceLT, Int.reduceAdd, Int.reduceMul, Int.reduceSub, Int.reduceTDiv, Int.reduceTMod, Int.reduceNeg, Int.reduceToNat, Int.reduceGT, Int.reduceGE, Int.reducePow, Nat.reduceAdd, Nat.reduceMul, Nat.reduceSub, Nat.reduceDiv, Nat.reduceMod, Nat.reducePow, Nat.reduceLT, Nat.reduceLeDiff, Nat.min_self, ge_iff_le, gt_iff_lt, Option.isNone_none, Option.isSome_none, Option.isNone_some, Option.isSome_some, Bool.and_true, Bool.true_and, Bool.and_false, Bool.false_and, not_true_eq_false, not_false_eq_true, or_true, true_or, false_or, or_false, hget0, hgetK, hset0, hsetK, splice_single, splice_whole, take_whole, List.getElem?_nil, List.length_append, List.append_assoc, g1, g2, h1, h2, v1, ht, hf, List.length_replicate, take_all, eV_cells, eV_size, eV_ok, eV_fold, ns_len, p1, L1, L2, rf_eV]
  rfl
end Go.Ev.Ytaceeoghjgggjaa
set_option linter.unusedSimpArgs false
set_option linter.unusedVariables false
namespace Go.Ev.Ytaceeoghjgggjaa
open Go Go.Ev
attribute [local congr] bind_congr2 ite_congr2 qElse_congr gate_congr guardV_congr
set_option maxRecDepth 100000
inductive Reps : List (List Nat) → List (Go.Cv.Pt Go.Fp.P Go.Fp.d) → Prop
  | nil : Reps [] []
  | cons {x xs p ps} : RepL x p → Reps xs ps → Reps (x :: xs) (p :: ps)
theorem Reps.len {xs : List (List Nat)} {ps : List (Go.Cv.Pt Go.Fp.P Go.Fp.d)} (h : Reps xs ps) : xs.length = ps.length := by
  induction h with
  | nil => rfl
  | cons _ _ ih => simp [ih]
theorem Reps.all {xs : List (List Nat)} {ps : List (Go.Cv.Pt Go.Fp.P Go.Fp.d)} (h : Reps xs ps) : ∀ x ∈ xs, x.length = 20 := by
  induction h with
  | nil => simp
  | cons h _ ih => intro y hy; rcases List.mem_cons.1 hy with rfl | hy; exact h.len; exact ih y hy
theorem Reps.get {xs : List (List Nat)} {ps : List (Go.Cv.Pt Go.Fp.P Go.Fp.d)} (h : Reps xs ps) : ∀ {i : Nat} {x : List Nat}, xs[i]? = some x → ∃ p, ps[i]? = some p ∧ RepL x p := by
  induction h with
  | nil => intro i x h; simp at h
  | cons h _ ih =>
    intro i x hx
    cases i with
    | zero => simp at hx; subst hx; exact ⟨_, rfl, h⟩
    | succ i => simp at hx; simpa using ih hx
end Go.Ev.Ytaceeoghjgggjaa
set_option linter.unusedSimpArgs false
set_option linter.unusedVariables false
namespace Go.Ev.Ytaceeoghjgggjaa
open Go Go.Ev
attribute [local congr] bind_congr2 ite_congr2 qElse_congr gate_congr guardV_congr
set_option maxRecDepth 100000
def rootW (u v : Go.Fp.Fe) : Go.Fp.Fe := u * (v * v * v) * Go.Fp.pow (u * (v * v * v) * (v * v * v) * v) (2 ^ 252 - 1 - 2)
def jj : Go.Fp.Fe := Go.Fp.pow 2 (2 ^ 253 - 1 - 4)
theorem jj_eq : jj = Go.Fp.i := by
  show Go.Fp.pow (Go.Fp.fp 2) _ = Go.Fp.fp Go.Fp.iN
  exact Go.Fp.pow_test (f := 256) (by decide +kernel) (by decide +kernel)
theorem jj_sq : jj * jj = -1 := by rw [jj_eq]; exact Go.Fp.root_i
theorem quarter : (2 ^ 252 - 1 - 2) + (2 ^ 252 - 1 - 2) + 1 + ((2 ^ 252 - 1 - 2) + (2 ^ 252 - 1 - 2) + 1) = (Go.Fp.P - 1) / 2 := by rw [Go.Fp.P_eq]
theorem no_root {u v s : Go.Fp.Fe} (h1 : v * rootW u v * rootW u v ≠ u) (h2 : v * rootW u v * rootW u v ≠ -u) : v * (s * s) ≠ u := fun hs => by
  have F := Go.Fp.fld
  obtain ⟨g, hg⟩ : ∃ g, g = v * v * v * v * s := ⟨_, rfl⟩
  have ht : u * (v * v * v) * (v * v * v) * v = g * g := by subst hg; subst hs; grobner
  rcases Go.Fp.pow_half g with h | h
  · obtain ⟨k, hk⟩ : ∃ k, k = 2 ^ 252 - 1 - 2 := ⟨_, rfl⟩
    have hq := quarter
    rw [← hk] at hq
    rw [← hq, Go.Fp.pow_add, Go.Fp.pow_add, Go.Fp.pow_add, Go.Fp.pow_one] at h
    have hw : rootW u v = u * (v * v * v) * Go.Fp.pow (g * g) k := by unfold rootW; rw [ht, hk]
    rw [hw] at h1 h2
    generalize Go.Fp.pow (g * g) k = q at *
    have he : (q * q * (g * g) - 1) * (q * q * (g * g) + 1) = 0 := by clear h1 h2 hw ht hg hs; grobner
    have hv : v * (u * (v * v * v) * q) * (u * (v * v * v) * q) = u * (q * q * (g * g)) := by clear h1 h2 hw hg hs he h; grobner
    rcases F.dom he with h | h
    · exact h1 (by rw [hv]; clear h1 h2 hw ht hg hs he hv; grobner)
    · exact h2 (by rw [hv]; clear h1 h2 hw ht hg hs he hv; grobner)
  · have hu : u * (v * v * v) * (v * v * v) * v = 0 := by rw [ht, h]; grobner
    have hu0 : u = 0 := by
      rcases F.dom hu with h0 | h0
      · rcases F.dom h0 with h0 | h0
        · rcases F.dom h0 with h0 | h0
          · exact h0
          · rcases F.dom h0 with h0 | h0
            · rcases F.dom h0 with h0 | h0 <;> (rw [← hs, h0]; grobner)
            · rw [← hs, h0]; grobner
        · rcases F.dom h0 with h0 | h0
          · rcases F.dom h0 with h0 | h0 <;> (rw [← hs, h0]; grobner)
          · rw [← hs, h0]; grobner
      · rw [← hs, h0]; grobner
    exact h1 (by unfold rootW; rw [hu0]; grobner)
theorem ones252 : evVal T 84 [.int .i64 252, .int .u8 2] = some (.agg (u8s (dig 256 32 (2 ^ 252 - 1 - 2))).toArray) := ones_v (n := 252) (less := 2) (by decide) (by decide) (by decide)
theorem ones253 : evVal T 84 [.int .i64 253, .int .u8 4] = some (.agg (u8s (dig 256 32 (2 ^ 253 - 1 - 4))).toArray) := ones_v (n := 253) (less := 4) (by decide) (by decide) (by decide)
def rootV (r : List Nat) (ok : Bool) : Value := .tuple #[eV r, .bool ok]
theorem root_v {u v : List Nat} (Eu : El u (2 ^ 52)) (Ev : El v (2 ^ 52)) :
    ∃ r ok, evVal T 60 [eV u, eV v] = some (rootV r ok) ∧ El r (2 ^ 52) ∧ (ok = true → fe v * (fe r * fe r) = fe u ∧ ((fe r).val % 2 = 0 ∨ fe r = 0)) ∧ (ok = false → ∀ s, fe v * (s * s) ≠ fe u) := by
  obtain ⟨r1, hr1, Er1, fr1⟩ := prod_ev (H := [⟨ns .u64 u, true, true, true, 1⟩, ⟨ns .u64 v, true, true, true, 1⟩, ⟨ns .u64 [0, 0, 0, 0, 0], true, true, true, 1⟩, ⟨ns .u64 [v, v, v].flatten, true, true, true, 1⟩]) (id := 3) (n := 3) (xs := [v, v, v]) rfl (by decide) (by intro w hw; simp only [List.mem_cons, List.not_mem_nil, or_false] at hw; rcases hw with rfl | rfl | rfl <;> assumption) rfl
  simp only [List.map_cons, List.map_nil, List.cons_append, List.nil_append] at hr1
  simp only [List.map_cons, List.map_nil, List.foldl_cons, List.foldl_nil] at fr1
  obtain ⟨r2, hr2, Er2, fr2⟩ := prod_ev (H := [⟨ns .u64 u, true, true, true, 1⟩, ⟨ns .u64 v, true, true, true, 1⟩, ⟨ns .u64 [0, 0, 0, 0, 0], true, true, true, 1⟩, ⟨ns .u64 [v, v, v].flatten, true, true, true, 1⟩, ⟨ns .u64 r1, true, true, true, 1⟩, ⟨ns .u64 r1, true, true, true, 1⟩, ⟨ns .u64 v, true, true, true, 1⟩, ⟨ns .u64 v, true, true, true, 1⟩, ⟨ns .u64 v, true, true, true, 1⟩, ⟨ns .u64 r1, true, true, true, 1⟩, ⟨ns .u64 [u, r1, r1, v].flatten, true, true, true, 1⟩]) (id := 10) (n := 4) (xs := [u, r1, r1, v]) rfl (by decide) (by intro w hw; simp only [List.mem_cons, List.not_mem_nil, or_false] at hw; rcases hw with rfl | rfl | rfl | rfl <;> assumption) rfl
  simp only [List.map_cons, List.map_nil, List.cons_append, List.nil_append] at hr2
  simp only [List.map_cons, List.map_nil, List.foldl_cons, List.foldl_nil] at fr2
  obtain ⟨r3, hr3, Er3, fr3⟩ := power_ones (n := 252) (less := 2) Er2 (by decide) (by decide) (by decide)
  obtain ⟨r4, hr4, Er4, fr4⟩ := prod_ev (H := [⟨ns .u64 u, true, true, true, 1⟩, ⟨ns .u64 v, true, true, true, 1⟩, ⟨ns .u64 [0, 0, 0, 0, 0], true, true, true, 1⟩, ⟨ns .u64 [v, v, v].flatten, true, true, true, 1⟩, ⟨ns .u64 r1, true, true, true, 1⟩, ⟨ns .u64 r1, true, true, true, 1⟩, ⟨ns .u64 v, true, true, true, 1⟩, ⟨ns .u64 v, true, true, true, 1⟩, ⟨ns .u64 v, true, true, true, 1⟩, ⟨ns .u64 r1, true, true, true, 1⟩, ⟨ns .u64 [u, r1, r1, v].flatten, true, true, true, 1⟩, ⟨ns .u64 r2, true, true, true, 1⟩, ⟨ns .u64 r2, true, true, true, 1⟩, ⟨ns .u64 u, true, true, true, 1⟩, ⟨ns .u64 r1, true, true, true, 1⟩, ⟨ns .u64 r1, true, true, true, 1⟩, ⟨ns .u64 v, true, true, true, 1⟩, ⟨ns .u64 [u, r1, r3].flatten, true, true, true, 1⟩]) (id := 17) (n := 3) (xs := [u, r1, r3]) rfl (by decide) (by intro w hw; simp only [List.mem_cons, List.not_mem_nil, or_false] at hw; rcases hw with rfl | rfl | rfl <;> assumption) rfl
  simp only [List.map_cons, List.map_nil, List.cons_append, List.nil_append] at hr4
  simp only [List.map_cons, List.map_nil, List.foldl_cons, List.foldl_nil] at fr4
  obtain ⟨r5, hr5, Er5, fr5⟩ := prod_ev (H := [⟨ns .u64 u, true, true, true, 1⟩, ⟨ns .u64 v, true, true, true, 1⟩, ⟨ns .u64 [0, 0, 0, 0, 0], true, true, true, 1⟩, ⟨ns .u64 [v, v, v].flatten, true, true, true, 1⟩, ⟨ns .u64 r1, true, true, true, 1⟩, ⟨ns .u64 r1, true, true, true, 1⟩, ⟨ns .u64 v, true, true, true, 1⟩, ⟨ns .u64 v, true, true, true, 1⟩, ⟨ns .u64 v, true, true, true, 1⟩, ⟨ns .u64 r1, true, true, true, 1⟩, ⟨ns .u64 [u, r1, r1, v].flatten, true, true, true, 1⟩, ⟨ns .u64 r2, true, true, true, 1⟩, ⟨ns .u64 r2, true, true, true, 1⟩, ⟨ns .u64 u, true, true, true, 1⟩, ⟨ns .u64 r1, true, true, true, 1⟩, ⟨ns .u64 r1, true, true, true, 1⟩, ⟨ns .u64 v, true, true, true, 1⟩, ⟨ns .u64 [u, r1, r3].flatten, true, true, true, 1⟩, ⟨ns .u64 r4, true, true, true, 1⟩, ⟨ns .u64 r4, true, true, true, 1⟩, ⟨ns .u64 u, true, true, true, 1⟩, ⟨ns .u64 r1, true, true, true, 1⟩, ⟨ns .u64 r3, true, true, true, 1⟩, ⟨ns .u64 r4, true, true, true, 1⟩, ⟨ns .u64 [v, r4, r4].flatten, true, true, true, 1⟩]) (id := 24) (n := 3) (xs := [v, r4, r4]) rfl (by decide) (by intro w hw; simp only [List.mem_cons, List.not_mem_nil, or_false] at hw; rcases hw with rfl | rfl | rfl <;> assumption) rfl
  simp only [List.map_cons, List.map_nil, List.cons_append, List.nil_append] at hr5
  simp only [List.map_cons, List.map_nil, List.foldl_cons, List.foldl_nil] at fr5
  have k1 := eq_v Er5 Eu
  obtain ⟨nu, hnu, Enu, fnu⟩ := neg_v Eu
  have k2 := eq_v Er5 Enu
  obtain ⟨two, htwo⟩ : ∃ two : List Nat, two = [2, 0, 0, 0, 0] := ⟨_, rfl⟩
  have Etwo : El two (2 ^ 52) := by rw [htwo]; exact two_E
  have vtwo : evVal T 50 [.int .u32 2] = some (eV two) := by rw [htwo]; exact two_v
  have ftwo : fe two = 2 := by rw [htwo]; exact two_fe
  clear htwo
  obtain ⟨j, hj, Ej, fj⟩ := power_ones (n := 253) (less := 4) Etwo (by decide) (by decide) (by decide)
  obtain ⟨q, hq, Eq, fq⟩ := mul_ev Er4 Ej
  obtain ⟨n1, hn1, En1, fn1⟩ := neg_v Er4
  obtain ⟨n2, hn2, En2, fn2⟩ := neg_v Eq
  have o1 := odd_v Er4
  have o2 := odd_v Eq
  have c1 := ones252
  have c2 := ones253
  have g1 := fill3 Ev Ev Ev
  have g2 := fill4 Eu Er1 Er1 Ev
  rw [pL_flat] at g2
  have g3 := fill3 Eu Er1 Er3
  have g4 := fill3 Ev Er4 Er4
  have hw : fe r4 = rootW (fe u) (fe v) := by
    rw [fr4, fr3, fr1, fr2, fr1]; unfold rootW
    rw [show (1 * fe u * (1 * fe v * fe v * fe v) * (1 * fe v * fe v * fe v) * fe v) = fe u * (fe v * fe v * fe v) * (fe v * fe v * fe v) * fe v from by grobner]
    generalize Go.Fp.pow _ _ = p
    grobner
  have hjj : fe j = jj := by rw [fj, ftwo]; rfl
  have l1 := Eu.len
  have l2 := Ev.len
  have l3 := Er1.len
  have l4 := Er4.len
  have l5 := Er5.len
  have l6 := Eq.len
  have l7 := En1.len
  have l8 := En2.len
  have hz5 : List.replicate 5 (Value.int .u64 0) = ns .u64 [0, 0, 0, 0, 0] := rfl
  have hf5 : fillL (ns .u64 [0, 0, 0, 0, 0]) [] = some (ns .u64 [0, 0, 0, 0, 0]) := rfl
  have l0 : ([0, 0, 0, 0, 0] : List Nat).length = 5 := rfl
  clear Ej Etwo ftwo fj
  generalize dig 256 32 (2 ^ 252 - 1 - 2) = K1 at *
  generalize dig 256 32 (2 ^ 253 - 1 - 4) = K2 at *
  have hsq : fe r5 = fe v * rootW (fe u) (fe v) * rootW (fe u) (fe v) := by rw [fr5, hw]; generalize rootW (fe u) (fe v) = w; grobner
  have evn : ∀ a : Go.Fp.Fe, a.val % 2 = 1 → (-a).val % 2 = 0 ∨ -a = 0 := by
    intro a ha
    left
    have hlt := a.isLt
    have h0 : (Go.Fp.P - a.val) < Go.Fp.P := by omega
    have h1 : (-a).val = (Go.Fp.P - a.val) % Go.Fp.P := rfl
    rw [h1, Nat.mod_eq_of_lt h0]
    have hP : Go.Fp.P % 2 = 1 := by rw [Go.Fp.P_eq]
    omega
  by_cases hA : fe r5 = fe u
  · rw [decide_eq_true hA] at k1
    have hroot : fe v * (fe r4 * fe r4) = fe u := by rw [← hA, hsq, hw]; generalize rootW (fe u) (fe v) = w; grobner
    by_cases hO : (fe r4).val % 2 = 1
    · rw [decide_eq_true hO] at o1
      refine ⟨n1, true, ?_, En1, fun _ => ⟨?_, ?_⟩, fun h => by cases h⟩
      · apply evVal_ex
        apply Exists.intro
        rw [evFun_fn (fn := a60) rfl]
        simp only [a60, envOf, evCode_skip, evCode_exit, evCode_seq, fs_blockS, fs_blockR, fs_blockC, fs_blockK, fs_blockB, evCode_ret, quiet, keep_nil, keep_cons, fs_cond, fs_region, fs_regionQ, quiet2_eq, lastOf_nil, lastOf_cons, List.take_succ_cons, List.take_zero, List.drop_succ_cons, List.drop_zero, Int.reduceBEq, Int.reduceBNe,  fs_nil, fs_guard, fs_move, fs_pick, fs_alloc, fs_box, fs_load, fs_store, fs_bin, fs_eqv, fs_isNil, fs_un, fs_conv, fs_convStr, fs_field, fs_index, fs_indexStr, fs_build, fs_buildSlice, fs_fieldAddr, fs_indexAddr, fs_indexSl, fs_sliceArr, fs_sliceSl, fs_sliceStr, fs_makeSlice, fs_extract, fs_mkIface, fs_mkFunc, fs_nilCheck, fs_s2ap, fs_len, fs_minmax, fs_s2b, fs_b2s, fs_append, fs_copy, fs_callW, fs_callR, fs_callv, opd_tmp, opd_const, opd_func, opds_nil, opds_cons, opdOpt_none, opdOpt_some, opdParts_nil, opdParts_cons, get_miss, vPick_t, vPick_f, vEq_agg, vEq_aggN, vEq_bool, vEq_boolN, vConv_int, vStr_s, vField_agg, vIndex_agg, vIndexStr_s, vFieldAddr_p, vIndexAddr_p, vIndexSl_s, vSliceArr_p, vSliceSl_s, vSliceSl_n, vSliceStr_s, vExtract_t, vNilCheck_p, vS2ap_s, vLen_s, vLen_str, vMin_i, vMax_i, vLoad_p, vStore_p, baseP_p, vB2s_s, vMake_i, vS2b_s, callee_f, liveAt_eq, storeAt_eq, partL_none, partL_some, natIn_none, natIn_int, bounds3_two, bin_add, bin_sub, bin_mul, bin_quo, bin_rem, bin_and, bin_or, bin_xor, bin_andNot, bin_eql, bin_neq, bin_lss, bin_leq, bin_gtr, bin_geq, bin_shl, bin_shr, bin_sadd, bin_seql, bin_sneq, un_not, un_neg, un_xor, after_some, put_some, put_none, res_nil, res_val, res_var, packed_one, packed_two, merge_nil, merge_ge, rf_tup2, rfIn_int, rfIn_bool, rfIn_u8s, rf_str, rfIn_str, ↓gate_true, gd_bool, gd_ut, gd_uf, ↓guardV_tt, ↓guardV_ff, ↓guardV_tf, ↓guardV_ft, ↓keepV_some, ↓qElse_some, ↓get_hit, ↓Option.bind_some, ↓if_true, ↓if_false, List.nil_append, List.cons_append, List.all_nil, List.all_cons, List.isEmpty_nil, reduceCtorEq, Bool.false_eq_true, Nat.reduceEqDiff, beq_self_eq_true, bne_self_eq_false, Bool.not_true, Bool.not_false, Int.natCast_nonneg, Nat.lt_irrefl, false_and, Int.reduceEq, rf_int, rf_bool, rf_tuple_ints, rf_u8s, arr_list, toList2, Bool.and_self, Nat.not_lt_zero, Nat.sub_zero, Nat.zero_le, Nat.le_add_right, cells_agg, cells_agg_size, cells_int, cells_int_size, okV_int, okV_bool, okV_str, okV_agg, okV_ptr, okV_slice, okV_func, okV_nilFunc, okV_iface, okV_nilIface, cells_bool, cells_bool_size, cells_ptr, cells_ptr_size, cells_slice, cells_slice_size, cells_str, cells_str_size, eq_self, wrapI64_small, Int.natCast_zero, Int.natCast_one, Int.cast_ofNat_Int, List.length_nil, List.length_cons, List.getElem?_cons_zero, List.getElem?_cons_succ, List.set_cons_zero, List.set_cons_succ, Nat.zero_add, Nat.add_zero, Nat.mul_one, Nat.zero_mul, Int.toNat_natCast, Int.toNat_zero, Int.lt_irrefl, Int.le_refl, Nat.le_refl, and_self, true_and, and_true, decide_true, decide_false, Int.reduceLE, Int.reduceLT, Int.reduceAdd, Int.reduceMul, Int.reduceSub, Int.reduceTDiv, Int.reduceTMod, Int.reduceNeg, Int.reduceToNat, Int.reduceGT, Int.reduceGE, Int.reducePow, Nat.reduceAdd, Nat.reduceMul, Nat.reduceSub, Nat.reduceDiv, Nat.reduceMod, Nat.reducePow, Nat.reduceLT, Nat.reduceLeDiff, Nat.min_self, ge_iff_le, gt_iff_lt, Option.isNone_none, Option.isSome_none, Option.isNone_some, Option.isSome_some, Bool.and_true, Bool.true_and, Bool.and_false, Bool.false_and, not_true_eq_false, not_false_eq_true, or_true, true_or, false_or, or_false, hget0, hgetK, hset0, hsetK, splice_single, splice_whole, take_whole, List.getElem?_nil, List.length_append, List.append_assoc, hz5, hf5, l0, g1, g2, g3, g4, c1, c2, hr1, hr2, hr3, hr4, hr5, k1, o1, hn1, l1, l2, l3, l4, l5, l7, List.length_replicate, take_all, eV_cells, eV_size, eV_ok, eV_fold, ns_len, rf_eV]
        rfl
      · rw [fn1, ← hroot]; generalize fe r4 = w; grobner
      · rw [fn1]; exact evn _ hO
    · rw [decide_eq_false hO] at o1
      refine ⟨r4, true, ?_, Er4, fun _ => ⟨hroot, by left; omega⟩, fun h => by cases h⟩
      apply evVal_ex
      apply Exists.intro
      rw [evFun_fn (fn := a60) rfl]
      simp only [a60, envOf, evCode_skip, evCode_exit, evCode_seq, fs_blockS, fs_blockR, fs_blockC, fs_blockK, fs_blockB, evCode_ret, quiet, keep_nil, keep_cons, fs_cond, fs_region, fs_regionQ, quiet2_eq, lastOf_nil, lastOf_cons, List.take_succ_cons, List.take_zero, List.drop_succ_cons, List.drop_zero, Int.reduceBEq, Int.reduceBNe,  fs_nil, fs_guard, fs_move, fs_pick, fs_alloc, fs_box, fs_load, fs_store, fs_bin, fs_eqv, fs_isNil, fs_un, fs_conv, fs_convStr, fs_field, fs_index, fs_indexStr, fs_build, fs_buildSlice, fs_fieldAddr, fs_indexAddr, fs_indexSl, fs_sliceArr, fs_sliceSl, fs_sliceStr, fs_makeSlice, fs_extract, fs_mkIface, fs_mkFunc, fs_nilCheck, fs_s2ap, fs_len, fs_minmax, fs_s2b, fs_b2s, fs_append, fs_copy, fs_callW, fs_callR, fs_callv, opd_tmp, opd_const, opd_func, opds_nil, opds_cons, opdOpt_none, opdOpt_some, opdParts_nil, opdParts_cons, get_miss, vPick_t, vPick_f, vEq_agg, vEq_aggN, vEq_bool, vEq_boolN, vConv_int, vStr_s, vField_agg, vIndex_agg, vIndexStr_s, vFieldAddr_p, vIndexAddr_p, vIndexSl_s, vSliceArr_p, vSliceSl_s, vSliceSl_n, vSliceStr_s, vExtract_t, vNilCheck_p, vS2ap_s, vLen_s, vLen_str, vMin_i, vMax_i, vLoad_p, vStore_p, baseP_p, vB2s_s, vMake_i, vS2b_s, callee_f, liveAt_eq, storeAt_eq, partL_none, partL_some, natIn_none, natIn_int, bounds3_two, bin_add, bin_sub, bin_mul, bin_quo, bin_rem, bin_and, bin_or, bin_xor, bin_andNot, bin_eql, bin_neq, bin_lss, bin_leq, bin_gtr, bin_geq, bin_shl, bin_shr, bin_sadd, bin_seql, bin_sneq, un_not, un_neg, un_xor, after_some, put_some, put_none, res_nil, res_val, res_var, packed_one, packed_two, merge_nil, merge_ge, rf_tup2, rfIn_int, rfIn_bool, rfIn_u8s, rf_str, rfIn_str, ↓gate_true, gd_bool, gd_ut, gd_uf, ↓guardV_tt, ↓guardV_ff, ↓guardV_tf, ↓guardV_ft, ↓keepV_some, ↓qElse_some, ↓get_hit, ↓Option.bind_some, ↓if_true, ↓if_false, List.nil_append, List.cons_append, List.all_nil, List.all_cons, List.isEmpty_nil, reduceCtorEq, Bool.false_eq_true, Nat.reduceEqDiff, beq_self_eq_true, bne_self_eq_false, Bool.not_true, Bool.not_false, Int.natCast_nonneg, Nat.lt_irrefl, false_and, Int.reduceEq, rf_int, rf_bool, rf_tuple_ints, rf_u8s, arr_list, toList2, Bool.and_self, Nat.not_lt_zero, Nat.sub_zero, Nat.zero_le, Nat.le_add_right, cells_agg, cells_agg_size, cells_int, cells_int_size, okV_int, okV_bool, okV_str, okV_agg, okV_ptr, okV_slice, okV_func, okV_nilFunc, okV_iface, okV_nilIface, cells_bool, cells_bool_size, cells_ptr, cells_ptr_size, cells_slice, cells_slice_size, cells_str, cells_str_size, eq_self, wrapI64_small, Int.natCast_zero, Int.natCast_one, Int.cast_ofNat_Int, List.length_nil, List.length_cons, List.getElem?_cons_zero, List.getElem?_cons_succ, List.set_cons_zero, List.set_cons_succ, Nat.zero_add, Nat.add_zero, Nat.mul_one, Nat.zero_mul, Int.toNat_natCast, Int.toNat_zero, Int.lt_irrefl, Int.le_refl, Nat.le_refl, and_self, true_and, and_true, decide_true, decide_false, Int.reduceLE, Int.reduceLT, Int.reduceAdd, Int.reduceMul, Int.reduceSub, Int.reduceTDiv, Int.reduceTMod, Int.reduceNeg, Int.reduceToNat, Int.reduceGT, Int.reduceGE, Int.reducePow, Nat.reduceAdd, Nat.reduceMul, Nat.reduceSub, Nat.reduceDiv, Nat.reduceMod, Nat.reducePow, Nat.reduceLT, Nat.reduceLeDiff, Nat.min_self, ge_iff_le, gt_iff_lt, Option.isNone_none, Option.isSome_none, Option.isNone_some, Option.isSome_some, Bool.and_true, Bool.true_and, Bool.and_false, Bool.false_and, not_true_eq_false, not_false_eq_true, or_true, true_or, false_or, or_false, hget0, hgetK, hset0, hsetK, splice_single, splice_whole, take_whole, List.getElem?_nil, List.length_append, List.append_assoc, hz5, hf5, l0, g1, g2, g3, g4, c1, c2, hr1, hr2, hr3, hr4, hr5, k1, o1, hn1, l1, l2, l3, l4, l5, l7, List.length_replicate, take_all, eV_cells, eV_size, eV_ok, eV_fold, ns_len, rf_eV]
      rfl
  · rw [decide_eq_false hA] at k1
    by_cases hB : fe r5 = fe nu
    · rw [decide_eq_true hB] at k2
      have hroot : fe v * (fe q * fe q) = fe u := by
        have hs := jj_sq
        rw [hsq, fnu] at hB
        rw [fq, hw, hjj]
        generalize rootW (fe u) (fe v) = w at *
        clear k1 k2 o1 o2 c1 c2 hA hsq hw fr1 fr2 fr3 fr4 fr5
        grobner
      by_cases hO : (fe q).val % 2 = 1
      · rw [decide_eq_true hO] at o2
        refine ⟨n2, true, ?_, En2, fun _ => ⟨?_, ?_⟩, fun h => by cases h⟩
        · apply evVal_ex
          apply Exists.intro
          rw [evFun_fn (fn := a60) rfl]
          simp only [a60, envOf, evCode_skip, evCode_exit, evCode_seq, fs_blockS, fs_blockR, fs_blockC, fs_blockK, fs_blockB, evCode_ret, quiet, keep_nil, keep_cons, fs_cond, fs_region, fs_regionQ, quiet2_eq, lastOf_nil, lastOf_cons, List.take_succ_cons, List.take_zero, List.drop_succ_cons, List.drop_zero, Int.reduceBEq, Int.reduceBNe,  fs_nil, fs_guard, fs_move, fs_pick, fs_alloc, fs_box, fs_load, fs_store, fs_bin, fs_eqv, fs_isNil, fs_un, fs_conv, fs_convStr, fs_field, fs_index, fs_indexStr, fs_build, fs_buildSlice, fs_fieldAddr, fs_indexAddr, fs_indexSl, fs_sliceArr, fs_sliceSl, fs_sliceStr, fs_makeSlice, fs_extract, fs_mkIface, fs_mkFunc, fs_nilCheck, fs_s2ap, fs_len, fs_minmax, fs_s2b, fs_b2s, fs_append, fs_copy, fs_callW, fs_callR, fs_callv, opd_tmp, opd_const, opd_func, opds_nil, opds_cons, opdOpt_none, opdOpt_some, opdParts_nil, opdParts_cons, get_miss, vPick_t, vPick_f, vEq_agg, vEq_aggN, vEq_bool, vEq_boolN, vConv_int, vStr_s, vField_agg, vIndex_agg, vIndexStr_s, vFieldAddr_p, vIndexAddr_p, vIndexSl_s, vSliceArr_p, vSliceSl_s, vSliceSl_n, vSliceStr_s, vExtract_t, vNilCheck_p, vS2ap_s, vLen_s, vLen_str, vMin_i, vMax_i, vLoad_p, vStore_p, baseP_p, vB2s_s, vMake_i, vS2b_s, callee_f, liveAt_eq, storeAt_eq, partL_none, partL_some, natIn_none, natIn_int, bounds3_two, bin_add, bin_sub, bin_mul, bin_quo, bin_rem, bin_and, bin_or, bin_xor, bin_andNot, bin_eql, bin_neq, bin_lss, bin_leq, bin_gtr, bin_geq, bin_shl, bin_shr, bin_sadd, bin_seql, bin_sneq, un_not, un_neg, un_xor, after_some, put_some, put_none, res_nil, res_val, res_var, packed_one, packed_two, merge_nil, merge_ge, rf_tup2, rfIn_int, rfIn_bool, rfIn_u8s, rf_str, rfIn_str, ↓gate_true, gd_bool, gd_ut, gd_uf, ↓guardV_tt, ↓guardV_ff, ↓guardV_tf, ↓guardV_ft, ↓keepV_some, ↓qElse_some, ↓get_hit, ↓Option.bind_some, ↓if_true, ↓if_false, List.nil_append, List.cons_append, List.all_nil, List.all_cons, List.isEmpty_nil, reduceCtorEq, Bool.false_eq_true, Nat.reduceEqDiff, beq_self_eq_true, bne_self_eq_false, Bool.not_true, Bool.not_false, Int.natCast_nonneg, Nat.lt_irrefl, false_and, Int.reduceEq, rf_int, rf_bool, rf_tuple_ints, rf_u8s, arr_list, toList2, Bool.and_self, Nat.not_lt_zero, Nat.sub_zero, Nat.zero_le, Nat.le_add_right, cells_agg, cells_agg_size, cells_int, cells_int_size, okV_int, okV_bool, okV_str, okV_agg, okV_ptr, okV_slice, okV_func, okV_nilFunc, okV_iface, okV_nilIface, cells_bool, cells_bool_size, cells_ptr, cells_ptr_size, cells_slice, cells_slice_size, cells_str, cells_str_size, eq_self, wrapI64_small, Int.natCast_zero, Int.natCast_one, Int.cast_ofNat_Int, List.length_nil, List.length_cons, List.getElem?_cons_zero, List.getElem?_cons_succ, List.set_cons_zero, List.set_cons_succ, Nat.zero_add, Nat.add_zero, Nat.mul_one, Nat.zero_mul, Int.toNat_natCast, Int.toNat_zero, Int.lt_irrefl, Int.le_refl, Nat.le_refl, and_self, true_and, and_true, decide_true, decide_false, Int.reduceLE, Int.reduceLT, Int.reduceAdd, Int.reduceMul, Int.reduceSub, Int.reduceTDiv, Int.reduceTMod, Int.reduceNeg, Int.reduceToNat, Int.reduceGT, Int.reduceGE, Int.reducePow, Nat.reduceAdd, Nat.reduceMul, Nat.reduceSub, Nat.reduceDiv, Nat.reduceMod, Nat.reducePow, Nat.reduceLT, Nat.reduceLeDiff, Nat.min_self, ge_iff_le, gt_iff_lt, Option.isNone_none, Option.isSome_none, Option.isNone_some, Option.isSome_some, Bool.and_true, Bool.true_and, Bool.and_false, Bool.false_and, not_true_eq_false, not_false_eq_true, or_true, true_or, false_or, or_false, hget0, hgetK, hset0, hsetK, splice_single, splice_whole, take_whole, List.getElem?_nil, List.length_append, List.append_assoc, hz5, hf5, l0, g1, g2, g3, g4, c1, c2, hr1, hr2, hr3, hr4, hr5, k1, k2, hnu, vtwo, hj, hq, o2, hn2, l1, l2, l3, l4, l5, l6, l8, List.length_replicate, take_all, eV_cells, eV_size, eV_ok, eV_fold, ns_len, rf_eV]
          rfl
        · rw [fn2, ← hroot]; generalize fe q = w; grobner
        · rw [fn2]; exact evn _ hO
      · rw [decide_eq_false hO] at o2
        refine ⟨q, true, ?_, Eq, fun _ => ⟨hroot, by left; omega⟩, fun h => by cases h⟩
        apply evVal_ex
        apply Exists.intro
        rw [evFun_fn (fn := a60) rfl]
        simp only [a60, envOf, evCode_skip, evCode_exit, evCode_seq, fs_blockS, fs_blockR, fs_blockC, fs_blockK, fs_blockB, evCode_ret, quiet, keep_nil, keep_cons, fs_cond, fs_region, fs_regionQ, quiet2_eq, lastOf_nil, lastOf_cons, List.take_succ_cons, List.take_zero, List.drop_succ_cons, List.drop_zero, Int.reduceBEq, Int.reduceBNe,  fs_nil, fs_guard, fs_move, fs_pick, fs_alloc, fs_box, fs_load, fs_store, fs_bin, fs_eqv, fs_isNil, fs_un, fs_conv, fs_convStr, fs_field, fs_index, fs_indexStr, fs_build, fs_buildSlice, fs_fieldAddr, fs_indexAddr, fs_indexSl, fs_sliceArr, fs_sliceSl, fs_sliceStr, fs_makeSlice, fs_extract, fs_mkIface, fs_mkFunc, fs_nilCheck, fs_s2ap, fs_len, fs_minmax, fs_s2b, fs_b2s, fs_append, fs_copy, fs_callW, fs_callR, fs_callv, opd_tmp, opd_const, opd_func, opds_nil, opds_cons, opdOpt_none, opdOpt_some, opdParts_nil, opdParts_cons, get_miss, vPick_t, vPick_f, vEq_agg, vEq_aggN, vEq_bool, vEq_boolN, vConv_int, vStr_s, vField_agg, vIndex_agg, vIndexStr_s, vFieldAddr_p, vIndexAddr_p, vIndexSl_s, vSliceArr_p, vSliceSl_s, vSliceSl_n, vSliceStr_s, vExtract_t, vNilCheck_p, vS2ap_s, vLen_s, vLen_str, vMin_i, vMax_i, vLoad_p, vStore_p, baseP_p, vB2s_s, vMake_i, vS2b_s, callee_f, liveAt_eq, storeAt_eq, partL_none, partL_some, natIn_none, natIn_int, bounds3_two, bin_add, bin_sub, bin_mul, bin_quo, bin_rem, bin_and, bin_or, bin_xor, bin_andNot, bin_eql, bin_neq, bin_lss, bin_leq, bin_gtr, bin_geq, bin_shl, bin_shr, bin_sadd, bin_seql, bin_sneq, un_not, un_neg, un_xor, after_some, put_some, put_none, res_nil, res_val, res_var, packed_one, packed_two, merge_nil, merge_ge, rf_tup2, rfIn_int, rfIn_bool, rfIn_u8s, rf_str, rfIn_str, ↓gate_true, gd_bool, gd_ut, gd_uf, ↓guardV_tt, ↓guardV_ff, ↓guardV_tf, ↓guardV_ft, ↓keepV_some, ↓qElse_some, ↓get_hit, ↓Option.bind_some, ↓if_true, ↓if_false, List.nil_append, List.cons_append, List.all_nil, List.all_cons, List.isEmpty_nil, reduceCtorEq, Bool.false_eq_true, Nat.reduceEqDiff, beq_self_eq_true, bne_self_eq_false, Bool.not_true, Bool.not_false, Int.natCast_nonneg, Nat.lt_irrefl, false_and, Int.reduceEq, rf_int, rf_bool, rf_tuple_ints, rf_u8s, arr_list, toList2, Bool.and_self, Nat.not_lt_zero, Nat.sub_zero, Nat.zero_le, Nat.le_add_right, cells_agg, cells_agg_size, cells_int, cells_int_size, okV_int, okV_bool, okV_str, okV_agg, okV_ptr, okV_slice, okV_func, okV_nilFunc, okV_iface, okV_nilIface, cells_bool, cells_bool_size, cells_ptr, cells_ptr_size, cells_slice, cells_slice_size, cells_str, cells_str_size, eq_self, wrapI64_small, Int.natCast_zero, Int.natCast_one, Int.cast_ofNat_Int, List.length_nil, List.length_cons, List.getElem?_cons_zero, List.getElem?_cons_succ, List.set_cons_zero, List.set_cons_succ, Nat.zero_add, Nat.add_zero, Nat.mul_one, Nat.zero_mul, Int.toNat_natCast, Int.toNat_zero, Int.lt_irrefl, Int.le_refl, Nat.le_refl, and_self, true_and, and_true, decide_true, decide_false, Int.reduceLE, Int.reduceLT, Int.reduceAdd, Int.reduceMul, Int.reduceSub, Int.reduceTDiv, Int.reduceTMod, Int.reduceNeg, Int.reduceToNat, Int.reduceGT, Int.reduceGE, Int.reducePow, Nat.reduceAdd, Nat.reduceMul, Nat.reduceSub, Nat.reduceDiv, Nat.reduceMod, Nat.reducePow, Nat.reduceLT, Nat.reduceLeDiff, Nat.min_self, ge_iff_le, gt_iff_lt, Option.isNone_none, Option.isSome_none, Option.isNone_some, Option.isSome_some, Bool.and_true, Bool.true_and, Bool.and_false, Bool.false_and, not_true_eq_false, not_false_eq_true, or_true, true_or, false_or, or_false, hget0, hgetK, hset0, hsetK, splice_single, splice_whole, take_whole, List.getElem?_nil, List.length_append, List.append_assoc, hz5, hf5, l0, g1, g2, g3, g4, c1, c2, hr1, hr2, hr3, hr4, hr5, k1, k2, hnu, vtwo, hj, hq, o2, hn2, l1, l2, l3, l4, l5, l6, l8, List.length_replicate, take_all, eV_cells, eV_size, eV_ok, eV_fold, ns_len, rf_eV]
        rfl
    · rw [decide_eq_false hB] at k2
      refine ⟨[0, 0, 0, 0, 0], false, ?_, zero_el5, fun h => (by cases h), fun _ s => no_root (by rw [← hsq]; exact hA) (by rw [← hsq, ← fnu]; exact hB)⟩
      apply evVal_ex
      apply Exists.intro
      rw [evFun_fn (fn := a60) rfl]
      simp only [a60, envOf, evCode_skip, evCode_exit, evCode_seq, fs_blockS, fs_blockR, fs_blockC, fs_blockK, fs_blockB, evCode_ret, quiet, keep_nil, keep_cons, fs_cond, fs_region, fs_regionQ, quiet2_eq, lastOf_nil, lastOf_cons, List.take_succ_cons, List.take_zero, List.drop_succ_cons, List.drop_zero, Int.reduceBEq, Int.reduceBNe,  fs_nil, fs_guard, fs_move, fs_pick, fs_alloc, fs_box, fs_load, fs_store, fs_bin, fs_eqv, fs_isNil, fs_un, fs_conv, fs_convStr, fs_field, fs_index, fs_indexStr, fs_build, fs_buildSlice, fs_fieldAddr, fs_indexAddr, fs_indexSl, fs_sliceArr, fs_sliceSl, fs_sliceStr, fs_makeSlice, fs_extract, fs_mkIface, fs_mkFunc, fs_nilCheck, fs_s2ap, fs_len, fs_minmax, fs_s2b, fs_b2s, fs_append, fs_copy, fs_callW, fs_callR, fs_callv, opd_tmp, opd_const, opd_func, opds_nil, opds_cons, opdOpt_none, opdOpt_some, opdParts_nil, opdParts_cons, get_miss, vPick_t, vPick_f, vEq_agg, vEq_aggN, vEq_bool, vEq_boolN, vConv_int, vStr_s, vField_agg, vIndex_agg, vIndexStr_s, vFieldAddr_p, vIndexAddr_p, vIndexSl_s, vSliceArr_p, vSliceSl_s, vSliceSl_n, vSliceStr_s, vExtract_t, vNilCheck_p, vS2ap_s, vLen_s, vLen_str, vMin_i, vMax_i, vLoad_p, vStore_p, baseP_p, vB2s_s, vMake_i, vS2b_s, callee_f, liveAt_eq, storeAt_eq, partL_none, partL_some, natIn_none, natIn_int, bounds3_two, bin_add, bin_sub, bin_mul, bin_quo, bin_rem, bin_and, bin_or, bin_xor, bin_andNot, bin_eql, bin_neq, bin_lss, bin_leq, bin_gtr, bin_geq, bin_shl, bin_shr, bin_sadd, bin_seql, bin_sneq, un_not, un_neg, un_xor, after_some, put_some, put_none, res_nil, res_val, res_var, packed_one, packed_two, merge_nil, merge_ge, rf_tup2, rfIn_int, rfIn_bool, rfIn_u8s, rf_str, rfIn_str, ↓gate_true, gd_bool, gd_ut, gd_uf, ↓guardV_tt, ↓guardV_ff, ↓guardV_tf, ↓guardV_ft, ↓keepV_some, ↓qElse_some, ↓get_hit, ↓Option.bind_some, ↓if_true, ↓if_false, List.nil_append, List.cons_append, List.all_nil, List.all_cons, List.isEmpty_nil, reduceCtorEq, Bool.false_eq_true, Nat.reduceEqDiff, beq_self_eq_true, bne_self_eq_false, Bool.not_true, Bool.not_false, Int.natCast_nonneg, Nat.lt_irrefl, false_and, Int.reduceEq, rf_int, rf_bool, rf_tuple_ints, rf_u8s, arr_list, toList2, Bool.and_self, Nat.not_lt_zero, Nat.sub_zero, Nat.zero_le, Nat.le_add_right, cells_agg, cells_agg_size, cells_int, cells_int_size, okV_int, okV_bool, okV_str, okV_agg, okV_ptr, okV_slice, okV_func, okV_nilFunc, okV_iface, okV_nilIface, cells_bool, cells_bool_size, cells_ptr, cells_ptr_size, cells_slice, cells_slice_size, cells_str, cells_str_size, eq_self, wrapI64_small, Int.natCast_zero, Int.natCast_one, Int.cast_ofNat_Int, List.length_nil, List.length_cons, List.getElem?_cons_zero, List.getElem?_cons_succ, List.set_cons_zero, List.set_cons_succ, Nat.zero_add, Nat.add_zero, Nat.mul_one, Nat.zero_mul, Int.toNat_natCast, Int.toNat_zero, Int.lt_irrefl, Int.le_refl, Nat.le_refl, and_self, true_and, and_true, decide_true, decide_false, Int.reduceLE, Int.reduceLT, Int.reduceAdd, Int.reduceMul, Int.reduceSub, Int.reduceTDiv, Int.reduceTMod, Int.reduceNeg, Int.reduceToNat, Int.reduceGT, Int.reduceGE, Int.reducePow, Nat.reduceAdd, Nat.reduceMul, Nat.reduceSub, Nat.reduceDiv, Nat.reduceMod, Nat.reducePow, Nat.reduceLT, Nat.reduceLeDiff, Nat.min_self, ge_iff_le, gt_iff_lt, Option.isNone_none, Option.isSome_none, Option.isNone_some, Option.isSome_some, Bool.and_true, Bool.true_and, Bool.and_false, Bool.false_and, not_true_eq_false, not_false_eq_true, or_true, true_or, false_or, or_false, hget0, hgetK, hset0, hsetK, splice_single, splice_whole, take_whole, List.getElem?_nil, List.length_append, List.append_assoc, hz5, hf5, l0, g1, g2, g3, g4, c1, c2, hr1, hr2, hr3, hr4, hr5, k1, k2, hnu, l1, l2, l3, l4, l5, List.length_replicate, take_all, eV_cells, eV_size, eV_ok, eV_fold, ns_len, rf_eV]
      rfl
end Go.Ev.Ytaceeoghjgggjaa
set_option linter.unusedSimpArgs false
set_option linter.unusedVariables false
namespace Go.Ev.Ytaceeoghjgggjaa
open Go Go.Ev
attribute [local congr] bind_congr2 ite_congr2 qElse_congr gate_congr guardV_congr
set_option maxRecDepth 100000
structure Jac where
  x : Nat
  y : Nat
  z : Nat
  t : Nat
structure JRep (a : Jac) (p : Go.Cv.Pt Go.Fp.P Go.Fp.d) : Prop where
  nz : Go.Fp.fp a.z ≠ 0
  x : Go.Fp.fp a.x = p.x * Go.Fp.fp a.z
  y : Go.Fp.fp a.y = p.y * Go.Fp.fp a.z
  t : Go.Fp.fp a.t = p.x * p.y * Go.Fp.fp a.z
def nsub (a b : Nat) : Nat := a + (Go.Fp.P - b % Go.Fp.P)
theorem fp_nsub (a b : Nat) : Go.Fp.fp (nsub a b) = Go.Fp.fp a - Go.Fp.fp b := by
  unfold nsub
  have h : b % Go.Fp.P ≤ Go.Fp.P := Nat.le_of_lt (Nat.mod_lt _ (by rw [Go.Fp.P_eq]; decide))
  rw [Go.Fp.fp_add, Go.Fp.fp_sub h, Go.Fp.fp_P, Go.Fp.fp_mod]
  grobner
def jaddA (a b : Jac) : Nat := nsub a.y a.x * nsub b.y b.x % Go.Fp.P
def jaddB (a b : Jac) : Nat := (a.y + a.x) * (b.y + b.x) % Go.Fp.P
def jaddC (a b : Jac) : Nat := 1 * 2 * Go.Fp.dN * a.t * b.t % Go.Fp.P
def jaddD (a b : Jac) : Nat := 1 * 2 * a.z * b.z % Go.Fp.P
def jfin (a b c e : Nat) : Jac := ⟨nsub b a * nsub e c % Go.Fp.P, (e + c) * (b + a) % Go.Fp.P, nsub e c * (e + c) % Go.Fp.P, nsub b a * (b + a) % Go.Fp.P⟩
def jadd (a b : Jac) : Jac := jfin (jaddA a b) (jaddB a b) (jaddC a b) (jaddD a b)
theorem JRep.add {a b : Jac} {p q : Go.Cv.Pt Go.Fp.P Go.Fp.d} (h1 : JRep a p) (h2 : JRep b q) : JRep (jadd a b) (padd p q) := by
  have ha : Go.Fp.fp (jaddA a b) = (Go.Fp.fp a.y - Go.Fp.fp a.x) * (Go.Fp.fp b.y - Go.Fp.fp b.x) := by
    unfold jaddA; rw [Go.Fp.fp_mod, Go.Fp.fp_mul, fp_nsub, fp_nsub]
  have hb : Go.Fp.fp (jaddB a b) = (Go.Fp.fp a.y + Go.Fp.fp a.x) * (Go.Fp.fp b.y + Go.Fp.fp b.x) := by
    unfold jaddB; rw [Go.Fp.fp_mod, Go.Fp.fp_mul, Go.Fp.fp_add, Go.Fp.fp_add]
  have hc : Go.Fp.fp (jaddC a b) = 1 * 2 * Go.Fp.d * Go.Fp.fp a.t * Go.Fp.fp b.t := by
    unfold jaddC; rw [Go.Fp.fp_mod, Go.Fp.fp_mul, Go.Fp.fp_mul, Go.Fp.fp_mul, Go.Fp.fp_mul, Go.Fp.fp_one, Go.Fp.fp_two]; rfl
  have hd : Go.Fp.fp (jaddD a b) = 1 * 2 * Go.Fp.fp a.z * Go.Fp.fp b.z := by
    unfold jaddD; rw [Go.Fp.fp_mod, Go.Fp.fp_mul, Go.Fp.fp_mul, Go.Fp.fp_mul, Go.Fp.fp_one, Go.Fp.fp_two]
  have hx : Go.Fp.fp (jadd a b).x = (Go.Fp.fp (jaddB a b) - Go.Fp.fp (jaddA a b)) * (Go.Fp.fp (jaddD a b) - Go.Fp.fp (jaddC a b)) := by
    show Go.Fp.fp (_ % _) = _; rw [Go.Fp.fp_mod, Go.Fp.fp_mul, fp_nsub, fp_nsub]
  have hy : Go.Fp.fp (jadd a b).y = (Go.Fp.fp (jaddD a b) + Go.Fp.fp (jaddC a b)) * (Go.Fp.fp (jaddB a b) + Go.Fp.fp (jaddA a b)) := by
    show Go.Fp.fp (_ % _) = _; rw [Go.Fp.fp_mod, Go.Fp.fp_mul, Go.Fp.fp_add, Go.Fp.fp_add]
  have hz : Go.Fp.fp (jadd a b).z = (Go.Fp.fp (jaddD a b) - Go.Fp.fp (jaddC a b)) * (Go.Fp.fp (jaddD a b) + Go.Fp.fp (jaddC a b)) := by
    show Go.Fp.fp (_ % _) = _; rw [Go.Fp.fp_mod, Go.Fp.fp_mul, Go.Fp.fp_add, fp_nsub]
  have ht : Go.Fp.fp (jadd a b).t = (Go.Fp.fp (jaddB a b) - Go.Fp.fp (jaddA a b)) * (Go.Fp.fp (jaddB a b) + Go.Fp.fp (jaddA a b)) := by
    show Go.Fp.fp (_ % _) = _; rw [Go.Fp.fp_mod, Go.Fp.fp_mul, Go.Fp.fp_add, fp_nsub]
  obtain ⟨g1, g2, g3, g4⟩ := plus_math h1.x h1.y h1.t h2.x h2.y h2.t ha hb hc hd hx hy hz ht (Go.Cv.add_x Go.Fp.fld p q) (Go.Cv.add_y Go.Fp.fld p q)
  refine ⟨?_, g1, g2, g3⟩
  rw [g4]
  have F := Go.Fp.fld
  have w := F.mul_ne (F.mul_ne F.two h1.nz) h2.nz
  exact F.mul_ne (F.mul_ne w w) (F.mul_ne (F.denM p.on q.on) (F.denP p.on q.on))
def jmul (p : Jac) : Nat → Nat → Jac
  | 0, _ => ⟨0, 1, 1, 0⟩
  | f + 1, k => (fun r => if k % 2 = 1 then jadd (jadd r r) p else jadd r r) (jmul p f (k / 2))
theorem JRep.mul {a : Jac} {p : Go.Cv.Pt Go.Fp.P Go.Fp.d} (h : JRep a p) : ∀ {f k : Nat}, k < 2 ^ f → JRep (jmul a f k) (pmul k p)
  | 0, k, hk => by
    have : k = 0 := by omega
    subst this
    exact ⟨Go.Fp.one_ne, by show (0 : Go.Fp.Fe) = 0 * 1; grobner, by show (1 : Go.Fp.Fe) = 1 * 1; grobner, by show (0 : Go.Fp.Fe) = 0 * 1 * 1; grobner⟩
  | f + 1, k, hk => by
    have ih := JRep.mul h (f := f) (k := k / 2) (by omega)
    have hb := Nat.mod_lt k (by decide : 0 < 2)
    have e : pmul k p = pmul (2 * (k / 2) + k % 2) p := by rw [Nat.div_add_mod]
    rw [e, pmul_step p (k / 2) (k % 2) hb]
    simp only [jmul]
    split
    · exact (ih.add ih).add h
    · exact ih.add ih
def jbase : Jac := ⟨bxN, byN, 1, bxN * byN % Go.Fp.P⟩
theorem jbase_rep : JRep jbase pbase := by
  have h1 : Go.Fp.fp 1 = (1 : Go.Fp.Fe) := rfl
  refine ⟨Go.Fp.one_ne, ?_, ?_, ?_⟩
  · show Go.Fp.fp bxN = Go.Fp.fp bxN * Go.Fp.fp 1; rw [h1]; grobner
  · show Go.Fp.fp byN = Go.Fp.fp byN * Go.Fp.fp 1; rw [h1]; grobner
  · show Go.Fp.fp (bxN * byN % Go.Fp.P) = Go.Fp.fp bxN * Go.Fp.fp byN * Go.Fp.fp 1; rw [h1, Go.Fp.fp_mod, Go.Fp.fp_mul]; grobner
theorem eight_base : pmul 8 pbase ≠ pzero := fun h => by
  have r := jbase_rep.mul (f := 4) (k := 8) (by decide)
  rw [h] at r
  have hx := r.x
  rw [show (pzero : Go.Cv.Pt Go.Fp.P Go.Fp.d).x = 0 from rfl] at hx
  have h0 : Go.Fp.fp (jmul jbase 4 8).x = Go.Fp.fp 0 := by rw [hx]; show _ = (0 : Go.Fp.Fe); grobner
  have h1 := Go.Fp.fp_eq.1 h0
  have h2 : (jmul jbase 4 8).x % Go.Fp.P ≠ 0 % Go.Fp.P := by decide +kernel
  exact h2 h1
end Go.Ev.Ytaceeoghjgggjaa
set_option linter.unusedSimpArgs false
set_option linter.unusedVariables false
namespace Go.Ev.Ytaceeoghjgggjaa
open Go Go.Ev
attribute [local congr] bind_congr2 ite_congr2 qElse_congr gate_congr guardV_congr
set_option maxRecDepth 100000
theorem guardW_tt {α : Type} {x y : Option α} : guardV (.bool true) true x y = x := Eq.trans rfl rfl
theorem guardW_ff {α : Type} {x y : Option α} : guardV (.bool false) false x y = x := Eq.trans rfl rfl
theorem guardW_tf {α : Type} {x y : Option α} : guardV (.bool true) false x y = y := Eq.trans rfl rfl
theorem guardW_ft {α : Type} {x y : Option α} : guardV (.bool false) true x y = y := Eq.trans rfl rfl
theorem keepW_some {t : Nat} {v : Value} {l : Env} : keepV t (some v) l = (t, v) :: l := Eq.trans rfl rfl
theorem qElseW_some {α : Type} {v : α} {y : Option α} : qElse (some v) y = some v := Eq.trans rfl rfl
theorem steps_app {T : Tab} {b : Nat} {q : Bool} : ∀ (o1 o2 : List AOper) (s : St), steps T b q (o1 ++ o2) s = (steps T b q o1 s).bind (steps T b q o2)
  | [], o2, s => rfl
  | o :: o1, o2, s => by
    rw [List.cons_append]
    unfold steps
    cases hg : guardOf s.env o.guard with
    | none => rfl
    | some g =>
      cases g with
      | true =>
        simp only
        cases hx : evOper T o.op s.env s.h with
        | none => rfl
        | some x =>
          simp only [Option.bind_some]
          split
          · rfl
          · exact steps_app o1 o2 _
      | false => exact steps_app o1 o2 _
theorem steps_chunk {T : Tab} {b : Nat} {q : Bool} {a1 a2 a3 a4 a5 a6 a7 : AOper} {r : List AOper} {s : St} : steps T b q (a1 :: a2 :: a3 :: a4 :: a5 :: a6 :: a7 :: r) s = (steps T b q [a1, a2, a3, a4, a5, a6] s).bind fun s' => steps T b q (a7 :: r) s' := by
  rw [← steps_app]; rfl
def encB : List Nat := [88, 102, 102, 102, 102, 102, 102, 102, 102, 102, 102, 102, 102, 102, 102, 102, 102, 102, 102, 102, 102, 102, 102, 102, 102, 102, 102, 102, 102, 102, 102, 102]
def encZ : List Nat := [1, 0, 0, 0, 0, 0, 0, 0, 0, 0, 0, 0, 0, 0, 0, 0, 0, 0, 0, 0, 0, 0, 0, 0, 0, 0, 0, 0, 0, 0, 0, 0]
theorem enc_base : enc pbase = encB := by decide +kernel
theorem enc_zero : enc pzero = encZ := by decide +kernel
theorem tiny_no {p : Go.Cv.Pt Go.Fp.P Go.Fp.d} {l : List Nat} (h : RepL l p) (hp : pmul 8 p ≠ pzero) : evVal T 39 [eV l] = some (.bool false) := by
  have := tiny_v h
  rw [decide_eq_false hp] at this
  exact this
theorem tiny_yes {p : Go.Cv.Pt Go.Fp.P Go.Fp.d} {l : List Nat} (h : RepL l p) (hp : pmul 8 p = pzero) : evVal T 39 [eV l] = some (.bool true) := by
  have := tiny_v h
  rw [decide_eq_true hp] at this
  exact this
theorem enc_of {p : Go.Cv.Pt Go.Fp.P Go.Fp.d} {l E : List Nat} (h : RepL l p) (hp : enc p = E) : evVal T 29 [eV l] = some (.agg (u8s E).toArray) := by
  have := encode_v h
  rw [hp] at this
  exact this
theorem base_facts : ∃ b, evVal T 25 [] = some (eV b) ∧ b.length = 20 ∧ evVal T 29 [eV b] = some (.agg (u8s encB).toArray) ∧ evVal T 39 [eV b] = some (.bool false) := by
  obtain ⟨b, hb, rb⟩ := base_v
  exact ⟨b, hb, rb.len, enc_of rb enc_base, tiny_no rb eight_base⟩
theorem zero_facts : ∃ b, evVal T 30 [] = some (eV b) ∧ b.length = 20 ∧ evVal T 29 [eV b] = some (.agg (u8s encZ).toArray) ∧ evVal T 39 [eV b] = some (.bool true) := by
  obtain ⟨b, hb, rb⟩ := zero_v
  exact ⟨b, hb, rb.len, enc_of rb enc_zero, tiny_yes rb (Go.Cv.mul_zero Go.Fp.fld 8)⟩
theorem bl1 : encB.length = 32 := rfl
theorem bl2 : encZ.length = 32 := rfl
theorem bz32 : List.replicate 32 (Value.int .u8 0) = u8s (dig 256 32 0) := rfl
theorem bl3 : (dig 256 32 0).length = 32 := rfl
theorem bg0 : (u8s encB)[0]? = some (.int .u8 88) := rfl
theorem bg1 : (u8s encB)[1]? = some (.int .u8 102) := rfl
theorem bg2 : (u8s encB)[31]? = some (.int .u8 102) := rfl
theorem bf1 : fillL (u8s (dig 256 32 0)) [(0, 1, .int .u8 1)] = some (u8s encZ) := rfl
theorem bq : (encZ == encZ) = true := by decide
theorem based_w {U : Tab} (hU : U.fn 24 = some a24) {b z B Z O : List Nat} {c0 c1 c2 : Int} (h0 : (c0 == 88) = true) (h1 : (c1 == 102) = true) (h2 : (c2 == 102) = true) (hb : evVal U 25 [] = some (eV b)) (p1 : b.length = 20) (e1 : evVal U 29 [eV b] = some (.agg (u8s B).toArray)) (t1 : evVal U 39 [eV b] = some (.bool false))
    (hz : evVal U 30 [] = some (eV z)) (p2 : z.length = 20) (e2 : evVal U 29 [eV z] = some (.agg (u8s Z).toArray)) (t2 : evVal U 39 [eV z] = some (.bool true)) (l1 : B.length = 32) (l2 : Z.length = 32) (l3 : O.length = 32)
    (g0 : (u8s B)[0]? = some (.int .u8 c0)) (g1 : (u8s B)[1]? = some (.int .u8 c1)) (g2 : (u8s B)[31]? = some (.int .u8 c2)) (hz32 : List.replicate 32 (Value.int .u8 0) = u8s O) (f1 : fillL (u8s O) [(0, 1, .int .u8 1)] = some (u8s Z)) (q : (Z == Z) = true) : evVal U 24 [] = some (.bool true) := by
  apply evVal_ex
  apply Exists.intro
  rw [evFun_fn hU]
  simp only [a24, ↓steps_chunk, envOf, evCode_skip, evCode_exit, evCode_seq, fs_blockS, fs_blockR, fs_blockC, fs_blockK, fs_blockB, evCode_ret, quiet, keep_nil, keep_cons, fs_cond, fs_region, fs_regionQ, quiet2_eq, lastOf_nil, lastOf_cons, List.take_succ_cons, List.take_zero, List.drop_succ_cons, List.drop_zero, Int.reduceBEq, Int.reduceBNe,  fs_nil, fs_guard, fs_move, fs_pick, fs_alloc, fs_box, fs_load, fs_store, fs_bin, fs_eqv, fs_isNil, fs_un, fs_conv, fs_convStr, fs_field, fs_index, fs_indexStr, fs_build, fs_buildSlice, fs_fieldAddr, fs_indexAddr, fs_indexSl, fs_sliceArr, fs_sliceSl, fs_sliceStr, fs_makeSlice, fs_extract, fs_mkIface, fs_mkFunc, fs_nilCheck, fs_s2ap, fs_len, fs_minmax, fs_s2b, fs_b2s, fs_append, fs_copy, fs_callW, fs_callR, fs_callv, opd_tmp, opd_const, opd_func, opds_nil, opds_cons, opdOpt_none, opdOpt_some, opdParts_nil, opdParts_cons, get_miss, vPick_t, vPick_f, vEq_agg, vEq_aggN, vEq_bool, vEq_boolN, vConv_int, vStr_s, vField_agg, vIndex_agg, vIndexStr_s, vFieldAddr_p, vIndexAddr_p, vIndexSl_s, vSliceArr_p, vSliceSl_s, vSliceSl_n, vSliceStr_s, vExtract_t, vNilCheck_p, vS2ap_s, vLen_s, vLen_str, vMin_i, vMax_i, vLoad_p, vStore_p, baseP_p, vB2s_s, vMake_i, vS2b_s, callee_f, liveAt_eq, storeAt_eq, partL_none, partL_some, natIn_none, natIn_int, bounds3_two, bin_add, bin_sub, bin_mul, bin_quo, bin_rem, bin_and, bin_or, bin_xor, bin_andNot, bin_eql, bin_neq, bin_lss, bin_leq, bin_gtr, bin_geq, bin_shl, bin_shr, bin_sadd, bin_seql, bin_sneq, un_not, un_neg, un_xor, after_some, put_some, put_none, res_nil, res_val, res_var, packed_one, packed_two, merge_nil, merge_ge, rf_tup2, rfIn_int, rfIn_bool, rfIn_u8s, rf_str, rfIn_str, ↓gate_true, gd_bool, gd_ut, gd_uf, ↓guardW_tt, ↓guardW_ff, ↓guardW_tf, ↓guardW_ft, ↓keepW_some, ↓qElseW_some, ↓get_hit, ↓Option.bind_some, ↓if_true, ↓if_false, List.nil_append, List.cons_append, List.all_nil, List.all_cons, List.isEmpty_nil, reduceCtorEq, Bool.false_eq_true, Nat.reduceEqDiff, beq_self_eq_true, bne_self_eq_false, Bool.not_true, Bool.not_false, Int.natCast_nonneg, Nat.lt_irrefl, false_and, Int.reduceEq, rf_int, rf_bool, rf_tuple_ints, rf_u8s, arr_list, toList2, Bool.and_self, Nat.not_lt_zero, Nat.sub_zero, Nat.zero_le, Nat.le_add_right, cells_agg, cells_agg_size, cells_int, cells_int_size, okV_int, okV_bool, okV_str, okV_agg, okV_ptr, okV_slice, okV_func, okV_nilFunc, okV_iface, okV_nilIface, cells_bool, cells_bool_size, cells_ptr, cells_ptr_size, cells_slice, cells_slice_size, cells_str, cells_str_size, eq_self, wrapI64_small, Int.natCast_zero, Int.natCast_one, Int.cast_ofNat_Int, List.length_nil, List.length_cons, List.getElem?_cons_zero, List.getElem?_cons_succ, List.set_cons_zero, List.set_cons_succ, Nat.zero_add, Nat.add_zero, Nat.mul_one, Nat.zero_mul, Int.toNat_natCast, Int.toNat_zero, Int.lt_irrefl, Int.le_refl, Nat.le_refl, and_self, true_and, and_true, decide_true, decide_false, Int.reduceLE, Int.reduceLT, Int.reduceAdd, Int.reduceMul, Int.reduceSub, Int.reduceTDiv, Int.reduceTMod, Int.reduceNeg, Int.reduceToNat, Int.reduceGT, Int.reduceGE, Int.reducePow, Nat.reduceAdd, Nat.reduceMul, Nat.reduceSub, Nat.reduceDiv, Nat.reduceMod, Nat.reducePow, Nat.reduceLT, Nat.reduceLeDiff, Nat.min_self, ge_iff_le, gt_iff_lt, Option.isNone_none, Option.isSome_none, Option.isNone_some, Option.isSome_some, Bool.and_true, Bool.true_and, Bool.and_false, Bool.false_and, not_true_eq_false, not_false_eq_true, or_true, true_or, false_or, or_false, hget0, hgetK, hset0, hsetK, splice_single, splice_whole, take_whole, List.getElem?_nil, List.length_append, List.append_assoc, hz32, hb, hz, e1, e2, t1, t2, g0, g1, g2, h0, h1, h2, f1, q, cellsEq_u8, List.length_replicate, take_all, eV_cells, eV_size, eV_ok, eV_fold, ns_len, u8s_len, l1, l2, l3, p1, p2, rf_eV]
  rfl
theorem based_v : evVal T 24 [] = some (.bool true) := by
  obtain ⟨b, hb, p1, e1, t1⟩ := base_facts
  obtain ⟨z, hz, p2, e2, t2⟩ := zero_facts
  exact based_w (U := T) rfl (by decide) (by decide) (by decide) hb p1 e1 t1 hz p2 e2 t2 bl1 bl2 bl3 bg0 bg1 bg2 bz32 bf1 bq
end Go.Ev.Ytaceeoghjgggjaa
set_option linter.unusedSimpArgs false
set_option linter.unusedVariables false
namespace Go.Ev.Ytaceeoghjgggjaa
open Go Go.Ev
attribute [local congr] bind_congr2 ite_congr2 qElse_congr gate_congr guardV_congr
set_option maxRecDepth 100000
theorem par_neg {a : Go.Fp.Fe} (h0 : a ≠ 0) : (-a).val % 2 ≠ a.val % 2 := by
  have hlt := a.isLt
  have hne : a.val ≠ 0 := fun h => h0 (Fin.ext h)
  have h1 : (-a).val = (Go.Fp.P - a.val) % Go.Fp.P := rfl
  have h2 : (Go.Fp.P - a.val) < Go.Fp.P := by omega
  rw [h1, Nat.mod_eq_of_lt h2]
  have hP : Go.Fp.P % 2 = 1 := by rw [Go.Fp.P_eq]
  omega
theorem sq_eq {a b : Go.Fp.Fe} (h : a * a = b * b) : a = b ∨ a = -b := by
  have F := Go.Fp.fld
  have : (a - b) * (a + b) = 0 := by grobner
  rcases F.dom this with h1 | h1
  · left; clear h this; grobner
  · right; clear h this; grobner
theorem one_of (dd z : Go.Fp.Fe) (hz : z = 0) : dd * (z * z) + 1 = 1 := by grobner
theorem den_ne (y : Go.Fp.Fe) : Go.Fp.d * (y * y) + 1 ≠ 0 := fun h => by
  have F := Go.Fp.fld
  have hy : y ≠ 0 := by
    intro h0
    rw [one_of _ _ h0] at h
    exact Go.Fp.one_ne h
  have hi := Go.Fp.iv_mul hy
  have hr := Go.Fp.root_i
  apply Go.Fp.nosq (Go.Fp.i * Go.Fp.iv y)
  generalize Go.Fp.d = dd at *
  generalize Go.Fp.i = ii at *
  generalize Go.Fp.iv y = w at *
  clear F hy
  have e1 : dd * (y * w) * (y * w) + w * w = 0 := by
    have : dd * (y * w) * (y * w) + w * w = (dd * (y * y) + 1) * (w * w) := by clear h hi hr; grobner
    rw [this, h]; clear this h hi hr; grobner
  rw [hi] at e1
  have e2 : ii * w * (ii * w) = (ii * ii) * (w * w) := by clear h hi hr e1; grobner
  rw [e2, hr]
  clear h hi hr e2
  grobner
theorem x_sq (p : Go.Cv.Pt Go.Fp.P Go.Fp.d) : (Go.Fp.d * (p.y * p.y) + 1) * (p.x * p.x) = p.y * p.y - 1 := by
  have h := p.on
  unfold Go.Cv.On at h
  generalize Go.Fp.d = dd at *
  generalize p.x = x at *
  generalize p.y = y at *
  grobner
theorem encN_inj {p q : Go.Cv.Pt Go.Fp.P Go.Fp.d} (h : encN p = encN q) : p = q := by
  unfold encN at h
  have h1 := val_lt p.y
  have h2 := val_lt q.y
  have h3 := Nat.mod_lt p.x.val (by decide : 0 < 2)
  have h4 := Nat.mod_lt q.x.val (by decide : 0 < 2)
  have hy : p.y.val = q.y.val := by omega
  have hx : p.x.val % 2 = q.x.val % 2 := by omega
  have hy' : p.y = q.y := Fin.ext hy
  have e1 := x_sq p
  have e2 := x_sq q
  rw [hy', ← e2] at e1
  have e3 := Go.Fp.fld.cancel (den_ne q.y) e1
  refine Go.Cv.Pt.ext ?_ hy'
  rcases sq_eq e3 with h | h
  · exact h
  · by_cases h0 : q.x = 0
    · rw [h, h0]; grobner
    · exfalso
      have := par_neg h0
      rw [← h] at this
      exact this hx
theorem enc_beq (p q : Go.Cv.Pt Go.Fp.P Go.Fp.d) : (enc p == enc q) = decide (p = q) := by
  unfold enc
  rw [key_inj (encN_lt p) (encN_lt q)]
  by_cases h : p = q
  · subst h; rw [decide_eq_true rfl, decide_eq_true rfl]
  · rw [decide_eq_false h, decide_eq_false (fun e => h (encN_inj e))]
end Go.Ev.Ytaceeoghjgggjaa
set_option linter.unusedSimpArgs false
set_option linter.unusedVariables false
namespace Go.Ev.Ytaceeoghjgggjaa
open Go Go.Ev
attribute [local congr] bind_congr2 ite_congr2 qElse_congr gate_congr guardV_congr
set_option maxRecDepth 100000
theorem enc_key {k : List Nat} (lk : k.length = 32) (xk : ∀ x ∈ k, x < 256) {p : Go.Cv.Pt Go.Fp.P Go.Fp.d} : enc p = k ↔ encN p = num 256 k := by
  have h1 := num_lt xk
  rw [lk] at h1
  have h2 := dig_num (by decide : 0 < 256) xk
  rw [lk] at h2
  constructor
  · intro h
    have := num_dig (B := 256) (by decide) 32 (encN p)
    rw [Nat.mod_eq_of_lt (encN_lt p)] at this
    rw [← this, ← h]; rfl
  · intro h
    unfold enc
    rw [h, h2]
theorem enc_parts {p : Go.Cv.Pt Go.Fp.P Go.Fp.d} {V : Nat} : encN p = V ↔ p.y.val = V % 2 ^ 255 ∧ p.x.val % 2 = V / 2 ^ 255 := by
  have h1 := val_lt p.y
  have h3 := Nat.mod_lt p.x.val (by decide : 0 < 2)
  unfold encN
  constructor
  · intro h; omega
  · rintro ⟨h, h'⟩; rw [h, h', Nat.mul_comm, Nat.mod_add_div]
theorem on_of {u v x y : Go.Fp.Fe} (hu : u = y * y - 1) (hv : v = Go.Fp.d * (y * y) + 1) (h : v * (x * x) = u) : Go.Cv.On Go.Fp.d x y := by
  unfold Go.Cv.On
  generalize Go.Fp.d = dd at *
  subst hu hv
  grobner
theorem key_top {k : List Nat} (lk : k.length = 32) (xk : ∀ x ∈ k, x < 256) : ∃ w, k[31]? = some w ∧ w < 256 ∧ w / 128 = num 256 k / 2 ^ 255 ∧ num 256 (k.set 31 (w &&& 127)) = num 256 k % 2 ^ 255 ∧ (∀ x ∈ k.set 31 (w &&& 127), x < 256) ∧ (k.set 31 (w &&& 127)).length = 32 := by
  obtain ⟨w, hw⟩ : ∃ w, k[31]? = some w := ⟨_, List.getElem?_eq_getElem (by omega)⟩
  have hw' : w < 256 := xk w (List.mem_of_getElem? hw)
  have hV := num_lt xk
  rw [lk] at hV
  have hg := num_get (by decide : 0 < 256) xk hw
  have hs := num_set (B := 256) (w &&& 127) hw
  have ha : w &&& 127 = w % 128 := Nat.and_two_pow_sub_one_eq_mod w 7
  refine ⟨w, hw, hw', ?_⟩
  rw [ha] at hs ⊢
  have e31 : (256 : Nat) ^ 31 = 452312848583266388373324160190187140051835877600158453279131187530910662656 := by decide
  have e32 : (256 : Nat) ^ 32 = 115792089237316195423570985008687907853269984665640564039457584007913129639936 := by decide
  have e255 : (2 : Nat) ^ 255 = 57896044618658097711785492504343953926634992332820282019728792003956564819968 := by decide
  rw [e31] at hg hs
  rw [e32] at hV
  rw [e255]
  refine ⟨by omega, by omega, ?_, by rw [List.length_set]; exact lk⟩
  intro x hx
  rcases List.mem_or_eq_of_mem_set hx with h | h
  · exact xk x h
  · omega
def decV (l : List Nat) (c : Int) : Value := .tuple #[eV l, .int .i64 c]
theorem decode_v {k : List Nat} (lk : k.length = 32) (xk : ∀ x ∈ k, x < 256) :
    (∃ l p, evVal T 31 [.agg (u8s k).toArray] = some (decV l 0) ∧ RepL l p ∧ enc p = k) ∨ (∃ l, evVal T 31 [.agg (u8s k).toArray] = some (decV l 60) ∧ l.length = 20 ∧ ∀ p, enc p ≠ k) := by
  obtain ⟨w, hw, hw', ht, hm, xm, lm⟩ := key_top lk xk
  have hwc := u8s_get hw
  have hset := u8s_set k 31 (w &&& 127)
  have o1 : bitsOp .and .u8 (w : Int) 127 = ((w &&& 127 : Nat) : Int) := bits_and (k := .u8) (a := w) (b := 127) rfl hw' (by decide)
  have hof := of_v lm xm
  have hcan := canonical_v lm xm
  rw [hm] at hof hcan
  rw [Nat.mod_mod] at hof
  have hkey : ∀ p : Go.Cv.Pt Go.Fp.P Go.Fp.d, enc p = k ↔ p.y.val = num 256 k % 2 ^ 255 ∧ p.x.val % 2 = num 256 k / 2 ^ 255 := fun p => by rw [enc_key lk xk, enc_parts]
  rw [← ht] at hkey
  have Ey := of_el (V := num 256 k % 2 ^ 255)
  have fy : fe (dig (2 ^ 51) 5 (num 256 k % 2 ^ 255)) = Go.Fp.fp (num 256 k % 2 ^ 255) := by unfold fe; rw [of_v51]
  generalize k.set 31 (w &&& 127) = km at *
  generalize dig (2 ^ 51) 5 (num 256 k % 2 ^ 255) = Y at *
  generalize num 256 k % 2 ^ 255 = V at *
  have hz20 : ∃ O, List.replicate 20 (Value.int .u64 0) = ns .u64 O ∧ O.length = 20 ∧ fillL (ns .u64 O) [] = some (ns .u64 O) := ⟨List.replicate 20 0, rfl, rfl, rfl⟩
  obtain ⟨O, hz20, l0, hf0⟩ := hz20
  have l1 := Ey.len
  have hz5 : List.replicate 5 (Value.int .u64 0) = ns .u64 [0, 0, 0, 0, 0] := rfl
  have l5 : ([0, 0, 0, 0, 0] : List Nat).length = 5 := rfl
  have hbit : ((((w / 128 : Nat) : Int)) == 1) = decide (w / 128 = 1) := by
    by_cases h : w / 128 = 1
    · rw [h]; rfl
    · have : ¬ (((w / 128 : Nat) : Int) = 1) := by omega
      rw [decide_eq_false h, beq_eq_false_iff_ne.2 this]
  have hshr : ((w : Int) / 128) = ((w / 128 : Nat) : Int) := rfl
  by_cases hV : V < Go.Fp.P
  · rw [decide_eq_true hV] at hcan
    have hYv : (Go.Fp.fp V).val = V := Nat.mod_eq_of_lt hV
    obtain ⟨one, hone⟩ : ∃ O : List Nat, O = [1, 0, 0, 0, 0] := ⟨_, rfl⟩
    have Eone : El one (2 ^ 52) := by rw [hone]; exact one_el
    have vone : evVal T 50 [.int .u32 1] = some (eV one) := by rw [hone]; exact one_v
    have fone : fe one = 1 := by rw [hone]; exact one_fe
    clear hone
    obtain ⟨yy, hyy, Eyy, fyy⟩ := mul_ev Ey Ey
    obtain ⟨D, hD, ED, fD⟩ := factor_v
    obtain ⟨uu, huu, Euu, fuu⟩ := sub_v Eyy Eone
    obtain ⟨dy, hdy, Edy, fdy⟩ := mul_ev ED Eyy
    obtain ⟨vv, sv, hvv, Evv, fvv⟩ := add2_ev (H := [⟨u8s km, true, true, true, 1⟩, ⟨ns .u64 O, true, true, true, 1⟩, ⟨ns .u64 Y, true, true, true, 1⟩, ⟨ns .u64 yy, true, true, true, 1⟩, ⟨ns .u64 (dy ++ one), true, true, true, 1⟩]) (id := 4) Edy Eone rfl
    simp only [List.cons_append, List.nil_append] at hvv
    obtain ⟨r, ok, hr, Er, hok, hno⟩ := root_v Euu Evv
    have hf2 := fill2 Edy Eone
    have l6 := Eyy.len
    have l7 := Er.len
    have kz := isZero_v Er
    obtain ⟨nr, hnr, Enr, fnr⟩ := neg_v Er
    obtain ⟨t1, ht1, Et1, ft1⟩ := mul_ev Er Ey
    obtain ⟨t2, ht2, Et2, ft2⟩ := mul_ev Enr Ey
    have g1 := fill4 Er Ey Eone Et1
    have g2 := fill4 Enr Ey Eone Et2
    rw [hz20] at g1 g2
    have q1 := pL_len Er Ey Eone Et1
    have q2 := pL_len Enr Ey Eone Et2
    have l8 := Enr.len
    have hu : fe uu = Go.Fp.fp V * Go.Fp.fp V - 1 := by rw [fuu, fyy, fy, fone]
    have hv : fe vv = Go.Fp.d * (Go.Fp.fp V * Go.Fp.fp V) + 1 := by rw [fvv, fdy, fD, fyy, fy, fone]
    have hyp : ∀ p : Go.Cv.Pt Go.Fp.P Go.Fp.d, enc p = k → p.y = Go.Fp.fp V := fun p hp => Fin.ext (by rw [hYv]; exact ((hkey p).1 hp).1)
    have hxx : ∀ p : Go.Cv.Pt Go.Fp.P Go.Fp.d, enc p = k → fe vv * (p.x * p.x) = fe uu := fun p hp => by
      have := x_sq p
      rw [hyp p hp] at this
      rw [hu, hv]; exact this
    have rft : ∀ b : Bool, rf (Value.tuple #[eV r, .bool b]) = true := fun b => rf_tup2 (a := eV r) (b := .bool b) (rf_eV r) rfl
    cases ok with
    | false =>
      refine .inr ⟨O, ?_, l0, fun p hp => hno rfl p.x (hxx p hp)⟩
      apply evVal_ex
      apply Exists.intro
      rw [evFun_fn (fn := a31) rfl]
      simp only [a31, ↓steps_chunk, envOf, evCode_skip, evCode_exit, evCode_seq, fs_blockS, fs_blockR, fs_blockC, fs_blockK, fs_blockB, evCode_ret, quiet, keep_nil, keep_cons, fs_cond, fs_region, fs_regionQ, quiet2_eq, lastOf_nil, lastOf_cons, List.take_succ_cons, List.take_zero, List.drop_succ_cons, List.drop_zero, Int.reduceBEq, Int.reduceBNe,  fs_nil, fs_guard, fs_move, fs_pick, fs_alloc, fs_box, fs_load, fs_store, fs_bin, fs_eqv, fs_isNil, fs_un, fs_conv, fs_convStr, fs_field, fs_index, fs_indexStr, fs_build, fs_buildSlice, fs_fieldAddr, fs_indexAddr, fs_indexSl, fs_sliceArr, fs_sliceSl, fs_sliceStr, fs_makeSlice, fs_extract, fs_mkIface, fs_mkFunc, fs_nilCheck, fs_s2ap, fs_len, fs_minmax, fs_s2b, fs_b2s, fs_append, fs_copy, fs_callW, fs_callR, fs_callv, opd_tmp, opd_const, opd_func, opds_nil, opds_cons, opdOpt_none, opdOpt_some, opdParts_nil, opdParts_cons, get_miss, vPick_t, vPick_f, vEq_agg, vEq_aggN, vEq_bool, vEq_boolN, vConv_int, vStr_s, vField_agg, vIndex_agg, vIndexStr_s, vFieldAddr_p, vIndexAddr_p, vIndexSl_s, vSliceArr_p, vSliceSl_s, vSliceSl_n, vSliceStr_s, vExtract_t, vNilCheck_p, vS2ap_s, vLen_s, vLen_str, vMin_i, vMax_i, vLoad_p, vStore_p, baseP_p, vB2s_s, vMake_i, vS2b_s, callee_f, liveAt_eq, storeAt_eq, partL_none, partL_some, natIn_none, natIn_int, bounds3_two, bin_add, bin_sub, bin_mul, bin_quo, bin_rem, bin_and, bin_or, bin_xor, bin_andNot, bin_eql, bin_neq, bin_lss, bin_leq, bin_gtr, bin_geq, bin_shl, bin_shr, bin_sadd, bin_seql, bin_sneq, un_not, un_neg, un_xor, after_some, put_some, put_none, res_nil, res_val, res_var, packed_one, packed_two, merge_nil, merge_ge, rf_tup2, rfIn_int, rfIn_bool, rfIn_u8s, rf_str, rfIn_str, ↓gate_true, gd_bool, gd_ut, gd_uf, ↓guardW_tt, ↓guardW_ff, ↓guardW_tf, ↓guardW_ft, ↓keepW_some, ↓qElseW_some, ↓get_hit, ↓Option.bind_some, ↓if_true, ↓if_false, List.nil_append, List.cons_append, List.all_nil, List.all_cons, List.isEmpty_nil, reduceCtorEq, Bool.false_eq_true, Nat.reduceEqDiff, beq_self_eq_true, bne_self_eq_false, Bool.not_true, Bool.not_false, Int.natCast_nonneg, Nat.lt_irrefl, false_and, Int.reduceEq, rf_int, rf_bool, rf_tuple_ints, rf_u8s, arr_list, toList2, Bool.and_self, Nat.not_lt_zero, Nat.sub_zero, Nat.zero_le, Nat.le_add_right, cells_agg, cells_agg_size, cells_int, cells_int_size, okV_int, okV_bool, okV_str, okV_agg, okV_ptr, okV_slice, okV_func, okV_nilFunc, okV_iface, okV_nilIface, cells_bool, cells_bool_size, cells_ptr, cells_ptr_size, cells_slice, cells_slice_size, cells_str, cells_str_size, eq_self, wrapI64_small, Int.natCast_zero, Int.natCast_one, Int.cast_ofNat_Int, List.length_nil, List.length_cons, List.getElem?_cons_zero, List.getElem?_cons_succ, List.set_cons_zero, List.set_cons_succ, Nat.zero_add, Nat.add_zero, Nat.mul_one, Nat.zero_mul, Int.toNat_natCast, Int.toNat_zero, Int.lt_irrefl, Int.le_refl, Nat.le_refl, and_self, true_and, and_true, decide_true, decide_false, Int.reduceLE, Int.reduceLT, Int.reduceAdd, Int.reduceMul, Int.reduceSub, Int.reduceTDiv, Int.reduceTMod, Int.reduceNeg, Int.reduceToNat, Int.reduceGT, Int.reduceGE, Int.reducePow, Nat.reduceAdd, Nat.reduceMul, Nat.reduceSub, Nat.reduceDiv, Nat.reduceMod, Nat.reducePow, Nat.reduceLT, Nat.reduceLeDiff, Nat.min_self, ge_iff_le, gt_iff_lt, Option.isNone_none, Option.isSome_none, Option.isNone_some, Option.isSome_some, Bool.and_true, Bool.true_and, Bool.and_false, Bool.false_and, not_true_eq_false, not_false_eq_true, or_true, true_or, false_or, or_false, hget0, hgetK, hset0, hsetK, splice_single, splice_whole, take_whole, List.getElem?_nil, List.length_append, List.append_assoc, n_add, n_mul, n_ladd, n_addl, n_lmul, n_mull, n_fdiv, n_fdivl, n_tdiv, n_tmod, n_w64, n_w32, n_w16, n_w8, n_sub64, n_lsub64, n_subl64, n_m32, n_m51, n_m1, n_m1b, n_m7b, p64_32, p64_51, p64_13, p8_7, hz20, hf0, hz5, hwc, hset, o1, hof, hcan, hbit, hshr, vone, hyy, hD, huu, hdy, hf2, hvv, hr, List.length_replicate, take_all, eV_cells, eV_size, eV_ok, eV_fold, ns_len, u8s_len, lk, lm, l0, l1, l5, l6, l7, vExtract_t, rootV, rft, rf_eV]
      rfl
    | true =>
      obtain ⟨hroot, hev⟩ := hok rfl
      have hev' : (fe r).val % 2 = 0 := by
        rcases hev with h | h
        · exact h
        · rw [h]; rfl
      by_cases hb : w / 128 = 1
      · rw [decide_eq_true hb] at hbit
        by_cases h0 : fe r = 0
        · rw [decide_eq_true h0] at kz
          refine .inr ⟨O, ?_, l0, fun p hp => ?_⟩
          · apply evVal_ex
            apply Exists.intro
            rw [evFun_fn (fn := a31) rfl]
            simp only [a31, ↓steps_chunk, envOf, evCode_skip, evCode_exit, evCode_seq, fs_blockS, fs_blockR, fs_blockC, fs_blockK, fs_blockB, evCode_ret, quiet, keep_nil, keep_cons, fs_cond, fs_region, fs_regionQ, quiet2_eq, lastOf_nil, lastOf_cons, List.take_succ_cons, List.take_zero, List.drop_succ_cons, List.drop_zero, Int.reduceBEq, Int.reduceBNe,  fs_nil, fs_guard, fs_move, fs_pick, fs_alloc, fs_box, fs_load, fs_store, fs_bin, fs_eqv, fs_isNil, fs_un, fs_conv, fs_convStr, fs_field, fs_index, fs_indexStr, fs_build, fs_buildSlice, fs_fieldAddr, fs_indexAddr, fs_indexSl, fs_sliceArr, fs_sliceSl, fs_sliceStr, fs_makeSlice, fs_extract, fs_mkIface, fs_mkFunc, fs_nilCheck, fs_s2ap, fs_len, fs_minmax, fs_s2b, fs_b2s, fs_append, fs_copy, fs_callW, fs_callR, fs_callv, opd_tmp, opd_const, opd_func, opds_nil, opds_cons, opdOpt_none, opdOpt_some, opdParts_nil, opdParts_cons, get_miss, vPick_t, vPick_f, vEq_agg, vEq_aggN, vEq_bool, vEq_boolN, vConv_int, vStr_s, vField_agg, vIndex_agg, vIndexStr_s, vFieldAddr_p, vIndexAddr_p, vIndexSl_s, vSliceArr_p, vSliceSl_s, vSliceSl_n, vSliceStr_s, vExtract_t, vNilCheck_p, vS2ap_s, vLen_s, vLen_str, vMin_i, vMax_i, vLoad_p, vStore_p, baseP_p, vB2s_s, vMake_i, vS2b_s, callee_f, liveAt_eq, storeAt_eq, partL_none, partL_some, natIn_none, natIn_int, bounds3_two, bin_add, bin_sub, bin_mul, bin_quo, bin_rem, bin_and, bin_or, bin_xor, bin_andNot, bin_eql, bin_neq, bin_lss, bin_leq, bin_gtr, bin_geq, bin_shl, bin_shr, bin_sadd, bin_seql, bin_sneq, un_not, un_neg, un_xor, after_some, put_some, put_none, res_nil, res_val, res_var, packed_one, packed_two, merge_nil, merge_ge, rf_tup2, rfIn_int, rfIn_bool, rfIn_u8s, rf_str, rfIn_str, ↓gate_true, gd_bool, gd_ut, gd_uf, ↓guardW_tt, ↓guardW_ff, ↓guardW_tf, ↓guardW_ft, ↓keepW_some, ↓qElseW_some, ↓get_hit, ↓Option.bind_some, ↓if_true, ↓if_false, List.nil_append, List.cons_append, List.all_nil, List.all_cons, List.isEmpty_nil, reduceCtorEq, Bool.false_eq_true, Nat.reduceEqDiff, beq_self_eq_true, bne_self_eq_false, Bool.not_true, Bool.not_false, Int.natCast_nonneg, Nat.lt_irrefl, false_and, Int.reduceEq, rf_int, rf_bool, rf_tuple_ints, rf_u8s, arr_list, toList2, Bool.and_self, Nat.not_lt_zero, Nat.sub_zero, Nat.zero_le, Nat.le_add_right, cells_agg, cells_agg_size, cells_int, cells_int_size, okV_int, okV_bool, okV_str, okV_agg, okV_ptr, okV_slice, okV_func, okV_nilFunc, okV_iface, okV_nilIface, cells_bool, cells_bool_size, cells_ptr, cells_ptr_size, cells_slice, cells_slice_size, cells_str, cells_str_size, eq_self, wrapI64_small, Int.natCast_zero, Int.natCast_one, Int.cast_ofNat_Int, List.length_nil, List.length_cons, List.getElem?_cons_zero, List.getElem?_cons_succ, List.set_cons_zero, List.set_cons_succ, Nat.zero_add, Nat.add_zero, Nat.mul_one, Nat.zero_mul, Int.toNat_natCast, Int.toNat_zero, Int.lt_irrefl, Int.le_refl, Nat.le_refl, and_self, true_and, and_true, decide_true, decide_false, Int.reduceLE, Int.reduceLT, Int.reduceAdd, Int.reduceMul, Int.reduceSub, Int.reduceTDiv, Int.reduceTMod, Int.reduceNeg, Int.reduceToNat, Int.reduceGT, Int.reduceGE, Int.reducePow, Nat.reduceAdd, Nat.reduceMul, Nat.reduceSub, Nat.reduceDiv, Nat.reduceMod, Nat.reducePow, Nat.reduceLT, Nat.reduceLeDiff, Nat.min_self, ge_iff_le, gt_iff_lt, Option.isNone_none, Option.isSome_none, Option.isNone_some, Option.isSome_some, Bool.and_true, Bool.true_and, Bool.and_false, Bool.false_and, not_true_eq_false, not_false_eq_true, or_true, true_or, false_or, or_false, hget0, hgetK, hset0, hsetK, splice_single, splice_whole, take_whole, List.getElem?_nil, List.length_append, List.append_assoc, n_add, n_mul, n_ladd, n_addl, n_lmul, n_mull, n_fdiv, n_fdivl, n_tdiv, n_tmod, n_w64, n_w32, n_w16, n_w8, n_sub64, n_lsub64, n_subl64, n_m32, n_m51, n_m1, n_m1b, n_m7b, p64_32, p64_51, p64_13, p8_7, hz20, hf0, hz5, hwc, hset, o1, hof, hcan, hbit, hshr, vone, hyy, hD, huu, hdy, hf2, hvv, hr, List.length_replicate, take_all, eV_cells, eV_size, eV_ok, eV_fold, ns_len, u8s_len, lk, lm, l0, l1, l5, l6, l7, vExtract_t, rootV, rft, rf_eV, kz]
            rfl
          · have h2 := ((hkey p).1 hp).2
            have h3 := hxx p hp
            rw [← hroot, h0] at h3
            have h4 : p.x * p.x = 0 * 0 := Go.Fp.fld.cancel (by rw [hv]; exact den_ne _) h3
            rcases sq_eq h4 with h5 | h5
            · rw [h5, hb] at h2; exact absurd h2 (by decide)
            · rw [h5, hb] at h2; exact absurd h2 (by decide)
        · rw [decide_eq_false h0] at kz
          have hroot' : fe vv * (-fe r * -fe r) = fe uu := by rw [← hroot]; generalize fe r = a; generalize fe vv = b; grobner
          refine .inl ⟨pL nr Y one t2, ⟨-fe r, Go.Fp.fp V, on_of hu hv hroot'⟩, ?_, ⟨nr, Y, one, t2, rfl, Enr, Ey, Eone, Et2, by rw [fone]; exact Go.Fp.one_ne, ?_, ?_, ?_⟩, (hkey _).2 ⟨hYv, ?_⟩⟩
          · generalize pL nr Y one t2 = L at *
            apply evVal_ex
            apply Exists.intro
            rw [evFun_fn (fn := a31) rfl]
            simp only [a31, ↓steps_chunk, envOf, evCode_skip, evCode_exit, evCode_seq, fs_blockS, fs_blockR, fs_blockC, fs_blockK, fs_blockB, evCode_ret, quiet, keep_nil, keep_cons, fs_cond, fs_region, fs_regionQ, quiet2_eq, lastOf_nil, lastOf_cons, List.take_succ_cons, List.take_zero, List.drop_succ_cons, List.drop_zero, Int.reduceBEq, Int.reduceBNe,  fs_nil, fs_guard, fs_move, fs_pick, fs_alloc, fs_box, fs_load, fs_store, fs_bin, fs_eqv, fs_isNil, fs_un, fs_conv, fs_convStr, fs_field, fs_index, fs_indexStr, fs_build, fs_buildSlice, fs_fieldAddr, fs_indexAddr, fs_indexSl, fs_sliceArr, fs_sliceSl, fs_sliceStr, fs_makeSlice, fs_extract, fs_mkIface, fs_mkFunc, fs_nilCheck, fs_s2ap, fs_len, fs_minmax, fs_s2b, fs_b2s, fs_append, fs_copy, fs_callW, fs_callR, fs_callv, opd_tmp, opd_const, opd_func, opds_nil, opds_cons, opdOpt_none, opdOpt_some, opdParts_nil, opdParts_cons, get_miss, vPick_t, vPick_f, vEq_agg, vEq_aggN, vEq_bool, vEq_boolN, vConv_int, vStr_s, vField_agg, vIndex_agg, vIndexStr_s, vFieldAddr_p, vIndexAddr_p, vIndexSl_s, vSliceArr_p, vSliceSl_s, vSliceSl_n, vSliceStr_s, vExtract_t, vNilCheck_p, vS2ap_s, vLen_s, vLen_str, vMin_i, vMax_i, vLoad_p, vStore_p, baseP_p, vB2s_s, vMake_i, vS2b_s, callee_f, liveAt_eq, storeAt_eq, partL_none, partL_some, natIn_none, natIn_int, bounds3_two, bin_add, bin_sub, bin_mul, bin_quo, bin_rem, bin_and, bin_or, bin_xor, bin_andNot, bin_eql, bin_neq, bin_lss, bin_leq, bin_gtr, bin_geq, bin_shl, bin_shr, bin_sadd, bin_seql, bin_sneq, un_not, un_neg, un_xor, after_some, put_some, put_none, res_nil, res_val, res_var, packed_one, packed_two, merge_nil, merge_ge, rf_tup2, rfIn_int, rfIn_bool, rfIn_u8s, rf_str, rfIn_str, ↓gate_true, gd_bool, gd_ut, gd_uf, ↓guardW_tt, ↓guardW_ff, ↓guardW_tf, ↓guardW_ft, ↓keepW_some, ↓qElseW_some, ↓get_hit, ↓Option.bind_some, ↓if_true, ↓if_false, List.nil_append, List.cons_append, List.all_nil, List.all_cons, List.isEmpty_nil, reduceCtorEq, Bool.false_eq_true, Nat.reduceEqDiff, beq_self_eq_true, bne_self_eq_false, Bool.not_true, Bool.not_false, Int.natCast_nonneg, Nat.lt_irrefl, false_and, Int.reduceEq, rf_int, rf_bool, rf_tuple_ints, rf_u8s, arr_list, toList2, Bool.and_self, Nat.not_lt_zero, Nat.sub_zero, Nat.zero_le, Nat.le_add_right, cells_agg, cells_agg_size, cells_int, cells_int_size, okV_int, okV_bool, okV_str, okV_agg, okV_ptr, okV_slice, okV_func, okV_nilFunc, okV_iface, okV_nilIface, cells_bool, cells_bool_size, cells_ptr, cells_ptr_size, cells_slice, cells_slice_size, cells_str, cells_str_size, eq_self, wrapI64_small, Int.natCast_zero, Int.natCast_one, Int.cast_ofNat_Int, List.length_nil, List.length_cons, List.getElem?_cons_zero, List.getElem?_cons_succ, List.set_cons_zero, List.set_cons_succ, Nat.zero_add, Nat.add_zero, Nat.mul_one, Nat.zero_mul, Int.toNat_natCast, Int.toNat_zero, Int.lt_irrefl, Int.le_refl, Nat.le_refl, and_self, true_and, and_true, decide_true, decide_false, Int.reduceLE, Int.reduceLT, Int.reduceAdd, Int.reduceMul, Int.reduceSub, Int.reduceTDiv, Int.reduceTMod, Int.reduceNeg, Int.reduceToNat, Int.reduceGT, Int.reduceGE, Int.reducePow, Nat.reduceAdd, Nat.reduceMul, Nat.reduceSub, Nat.reduceDiv, Nat.reduceMod, Nat.reducePow, Nat.reduceLT, Nat.reduceLeDiff, Nat.min_self, ge_iff_le, gt_iff_lt, Option.isNone_none, Option.isSome_none, Option.isNone_some, Option.isSome_some, Bool.and_true, Bool.true_and, Bool.and_false, Bool.false_and, not_true_eq_false, not_false_eq_true, or_true, true_or, false_or, or_false, hget0, hgetK, hset0, hsetK, splice_single, splice_whole, take_whole, List.getElem?_nil, List.length_append, List.append_assoc, n_add, n_mul, n_ladd, n_addl, n_lmul, n_mull, n_fdiv, n_fdivl, n_tdiv, n_tmod, n_w64, n_w32, n_w16, n_w8, n_sub64, n_lsub64, n_subl64, n_m32, n_m51, n_m1, n_m1b, n_m7b, p64_32, p64_51, p64_13, p8_7, hz20, hf0, hz5, hwc, hset, o1, hof, hcan, hbit, hshr, vone, hyy, hD, huu, hdy, hf2, hvv, hr, List.length_replicate, take_all, eV_cells, eV_size, eV_ok, eV_fold, ns_len, u8s_len, lk, lm, l0, l1, l5, l6, l7, vExtract_t, rootV, rft, rf_eV, kz, hnr, ht2, g2, q2, l8]
            rfl
          · rw [fnr, fone]; show -fe r = -fe r * 1; generalize fe r = a; grobner
          · rw [fy, fone]; show Go.Fp.fp V = Go.Fp.fp V * 1; generalize Go.Fp.fp V = a; grobner
          · rw [ft2, fnr, fy, fone]; show -fe r * Go.Fp.fp V = -fe r * Go.Fp.fp V * 1; generalize Go.Fp.fp V = a; generalize fe r = b; grobner
          · have := par_neg h0
            rw [hev'] at this
            show (-fe r).val % 2 = _
            rw [hb]; omega
      · rw [decide_eq_false hb] at hbit
        refine .inl ⟨pL r Y one t1, ⟨fe r, Go.Fp.fp V, on_of hu hv hroot⟩, ?_, ⟨r, Y, one, t1, rfl, Er, Ey, Eone, Et1, by rw [fone]; exact Go.Fp.one_ne, ?_, ?_, ?_⟩, (hkey _).2 ⟨hYv, ?_⟩⟩
        · generalize pL r Y one t1 = L at *
          apply evVal_ex
          apply Exists.intro
          rw [evFun_fn (fn := a31) rfl]
          simp only [a31, ↓steps_chunk, envOf, evCode_skip, evCode_exit, evCode_seq, fs_blockS, fs_blockR, fs_blockC, fs_blockK, fs_blockB, evCode_ret, quiet, keep_nil, keep_cons, fs_cond, fs_region, fs_regionQ, quiet2_eq, lastOf_nil, lastOf_cons, List.take_succ_cons, List.take_zero, List.drop_succ_cons, List.drop_zero, Int.reduceBEq, Int.reduceBNe,  fs_nil, fs_guard, fs_move, fs_pick, fs_alloc, fs_box, fs_load, fs_store, fs_bin, fs_eqv, fs_isNil, fs_un, fs_conv, fs_convStr, fs_field, fs_index, fs_indexStr, fs_build, fs_buildSlice, fs_fieldAddr, fs_indexAddr, fs_indexSl, fs_sliceArr, fs_sliceSl, fs_sliceStr, fs_makeSlice, fs_extract, fs_mkIface, fs_mkFunc, fs_nilCheck, fs_s2ap, fs_len, fs_minmax, fs_s2b, fs_b2s, fs_append, fs_copy, fs_callW, fs_callR, fs_callv, opd_tmp, opd_const, opd_func, opds_nil, opds_cons, opdOpt_none, opdOpt_some, opdParts_nil, opdParts_cons, get_miss, vPick_t, vPick_f, vEq_agg, vEq_aggN, vEq_bool, vEq_boolN, vConv_int, vStr_s, vField_agg, vIndex_agg, vIndexStr_s, vFieldAddr_p, vIndexAddr_p, vIndexSl_s, vSliceArr_p, vSliceSl_s, vSliceSl_n, vSliceStr_s, vExtract_t, vNilCheck_p, vS2ap_s, vLen_s, vLen_str, vMin_i, vMax_i, vLoad_p, vStore_p, baseP_p, vB2s_s, vMake_i, vS2b_s, callee_f, liveAt_eq, storeAt_eq, partL_none, partL_some, natIn_none, natIn_int, bounds3_two, bin_add, bin_sub, bin_mul, bin_quo, bin_rem, bin_and, bin_or, bin_xor, bin_andNot, bin_eql, bin_neq, bin_lss, bin_leq, bin_gtr, bin_geq, bin_shl, bin_shr, bin_sadd, bin_seql, bin_sneq, un_not, un_neg, un_xor, after_some, put_some, put_none, res_nil, res_val, res_var, packed_one, packed_two, merge_nil, merge_ge, rf_tup2, rfIn_int, rfIn_bool, rfIn_u8s, rf_str, rfIn_str, ↓gate_true, gd_bool, gd_ut, gd_uf, ↓guardW_tt, ↓guardW_ff, ↓guardW_tf, ↓guardW_ft, ↓keepW_some, ↓qElseW_some, ↓get_hit, ↓Option.bind_some, ↓if_true, ↓if_false, List.nil_append, List.cons_append, List.all_nil, List.all_cons, List.isEmpty_nil, reduceCtorEq, Bool.false_eq_true, Nat.reduceEqDiff, beq_self_eq_true, bne_self_eq_false, Bool.not_true, Bool.not_false, Int.natCast_nonneg, Nat.lt_irrefl, false_and, Int.reduceEq, rf_int, rf_bool, rf_tuple_ints, rf_u8s, arr_list, toList2, Bool.and_self, Nat.not_lt_zero, Nat.sub_zero, Nat.zero_le, Nat.le_add_right, cells_agg, cells_agg_size, cells_int, cells_int_size, okV_int, okV_bool, okV_str, okV_agg, okV_ptr, okV_slice, okV_func, okV_nilFunc, okV_iface, okV_nilIface, cells_bool, cells_bool_size, cells_ptr, cells_ptr_size, cells_slice, cells_slice_size, cells_str, cells_str_size, eq_self, wrapI64_small, Int.natCast_zero, Int.natCast_one, Int.cast_ofNat_Int, List.length_nil, List.length_cons, List.getElem?_cons_zero, List.getElem?_cons_succ, List.set_cons_zero, List.set_cons_succ, Nat.zero_add, Nat.add_zero, Nat.mul_one, Nat.zero_mul, Int.toNat_natCast, Int.toNat_zero, Int.lt_irrefl, Int.le_refl, Nat.le_refl, and_self, true_and, and_true, decide_true, decide_false, Int.reduceLE, Int.reduceLT, Int.reduceAdd, Int.reduceMul, Int.reduceSub, Int.reduceTDiv, Int.reduceTMod, Int.reduceNeg, Int.reduceToNat, Int.reduceGT, Int.reduceGE, Int.reducePow, Nat.reduceAdd, Nat.reduceMul, Nat.reduceSub, Nat.reduceDiv, Nat.reduceMod, Nat.reducePow, Nat.reduceLT, Nat.reduceLeDiff, Nat.min_self, ge_iff_le, gt_iff_lt, Option.isNone_none, Option.isSome_none, Option.isNone_some, Option.isSome_some, Bool.and_true, Bool.true_and, Bool.and_false, Bool.false_and, not_true_eq_false, not_false_eq_true, or_true, true_or, false_or, or_false, hget0, hgetK, hset0, hsetK, splice_single, splice_whole, take_whole, List.getElem?_nil, List.length_append, List.append_assoc, n_add, n_mul, n_ladd, n_addl, n_lmul, n_mull, n_fdiv, n_fdivl, n_tdiv, n_tmod, n_w64, n_w32, n_w16, n_w8, n_sub64, n_lsub64, n_subl64, n_m32, n_m51, n_m1, n_m1b, n_m7b, p64_32, p64_51, p64_13, p8_7, hz20, hf0, hz5, hwc, hset, o1, hof, hcan, hbit, hshr, vone, hyy, hD, huu, hdy, hf2, hvv, hr, List.length_replicate, take_all, eV_cells, eV_size, eV_ok, eV_fold, ns_len, u8s_len, lk, lm, l0, l1, l5, l6, l7, vExtract_t, rootV, rft, rf_eV, ht1, g1, q1]
          rfl
        · rw [fone]; show fe r = fe r * 1; generalize fe r = a; grobner
        · rw [fy, fone]; show Go.Fp.fp V = Go.Fp.fp V * 1; generalize Go.Fp.fp V = a; grobner
        · rw [ft1, fy, fone]; show fe r * Go.Fp.fp V = fe r * Go.Fp.fp V * 1; generalize Go.Fp.fp V = a; generalize fe r = b; grobner
        · show (fe r).val % 2 = _
          rw [hev']; omega
  · rw [decide_eq_false hV] at hcan
    refine .inr ⟨O, ?_, l0, fun p hp => hV ?_⟩
    · apply evVal_ex
      apply Exists.intro
      rw [evFun_fn (fn := a31) rfl]
      simp only [a31, ↓steps_chunk, envOf, evCode_skip, evCode_exit, evCode_seq, fs_blockS, fs_blockR, fs_blockC, fs_blockK, fs_blockB, evCode_ret, quiet, keep_nil, keep_cons, fs_cond, fs_region, fs_regionQ, quiet2_eq, lastOf_nil, lastOf_cons, List.take_succ_cons, List.take_zero, List.drop_succ_cons, List.drop_zero, Int.reduceBEq, Int.reduceBNe,  fs_nil, fs_guard, fs_move, fs_pick, fs_alloc, fs_box, fs_load, fs_store, fs_bin, fs_eqv, fs_isNil, fs_un, fs_conv, fs_convStr, fs_field, fs_index, fs_indexStr, fs_build, fs_buildSlice, fs_fieldAddr, fs_indexAddr, fs_indexSl, fs_sliceArr, fs_sliceSl, fs_sliceStr, fs_makeSlice, fs_extract, fs_mkIface, fs_mkFunc, fs_nilCheck, fs_s2ap, fs_len, fs_minmax, fs_s2b, fs_b2s, fs_append, fs_copy, fs_callW, fs_callR, fs_callv, opd_tmp, opd_const, opd_func, opds_nil, opds_cons, opdOpt_none, opdOpt_some, opdParts_nil, opdParts_cons, get_miss, vPick_t, vPick_f, vEq_agg, vEq_aggN, vEq_bool, vEq_boolN, vConv_int, vStr_s, vField_agg, vIndex_agg, vIndexStr_s, vFieldAddr_p, vIndexAddr_p, vIndexSl_s, vSliceArr_p, vSliceSl_s, vSliceSl_n, vSliceStr_s, vExtract_t, vNilCheck_p, vS2ap_s, vLen_s, vLen_str, vMin_i, vMax_i, vLoad_p, vStore_p, baseP_p, vB2s_s, vMake_i, vS2b_s, callee_f, liveAt_eq, storeAt_eq, partL_none, partL_some, natIn_none, natIn_int, bounds3_two, bin_add, bin_sub, bin_mul, bin_quo, bin_rem, bin_and, bin_or, bin_xor, bin_andNot, bin_eql, bin_neq, bin_lss, bin_leq, bin_gtr, bin_geq, bin_shl, bin_shr, bin_sadd, bin_seql, bin_sneq, un_not, un_neg, un_xor, after_some, put_some, put_none, res_nil, res_val, res_var, packed_one, packed_two, merge_nil, merge_ge, rf_tup2, rfIn_int, rfIn_bool, rfIn_u8s, rf_str, rfIn_str, ↓gate_true, gd_bool, gd_ut, gd_uf, ↓guardW_tt, ↓guardW_ff, ↓guardW_tf, ↓guardW_ft, ↓keepW_some, ↓qElseW_some, ↓get_hit, ↓Option.bind_some, ↓if_true, ↓if_false, List.nil_append, List.cons_append, List.all_nil, List.all_cons, List.isEmpty_nil, reduceCtorEq, Bool.false_eq_true, Nat.reduceEqDiff, beq_self_eq_true, bne_self_eq_false, Bool.not_true, Bool.not_false, Int.natCast_nonneg, Nat.lt_irrefl, false_and, Int.reduceEq, rf_int, rf_bool, rf_tuple_ints, rf_u8s, arr_list, toList2, Bool.and_self, Nat.not_lt_zero, Nat.sub_zero, Nat.zero_le, Nat.le_add_right, cells_agg, cells_agg_size, cells_int, cells_int_size, okV_int, okV_bool, okV_str, okV_agg, okV_ptr, okV_slice, okV_func, okV_nilFunc, okV_iface, okV_nilIface, cells_bool, cells_bool_size, cells_ptr, cells_ptr_size, cells_slice, cells_slice_size, cells_str, cells_str_size, eq_self, wrapI64_small, Int.natCast_zero, Int.natCast_one, Int.cast_ofNat_Int, List.length_nil, List.length_cons, List.getElem?_cons_zero, List.getElem?_cons_succ, List.set_cons_zero, List.set_cons_succ, Nat.zero_add, Nat.add_zero, Nat.mul_one, Nat.zero_mul, Int.toNat_natCast, Int.toNat_zero, Int.lt_irrefl, Int.le_refl, Nat.le_refl, and_self, true_and, and_true, decide_true, decide_false, Int.reduceLE, Int.reduceLT, Int.reduceAdd, Int.reduceMul, Int.reduceSub, Int.reduceTDiv, Int.reduceTMod, Int.reduceNeg, Int.reduceToNat, Int.reduceGT, Int.reduceGE, Int.reducePow, Nat.reduceAdd, Nat.reduceMul, Nat.reduceSub, Nat.reduceDiv, Nat.reduceMod, Nat.reducePow, Nat.reduceLT, Nat.reduceLeDiff, Nat.min_self, ge_iff_le, gt_iff_lt, Option.isNone_none, Option.isSome_none, Option.isNone_some, Option.isSome_some, Bool.and_true, Bool.true_and, Bool.and_false, Bool.false_and, not_true_eq_false, not_false_eq_true, or_true, true_or, false_or, or_false, hget0, hgetK, hset0, hsetK, splice_single, splice_whole, take_whole, List.getElem?_nil, List.length_append, List.append_assoc, n_add, n_mul, n_ladd, n_addl, n_lmul, n_mull, n_fdiv, n_fdivl, n_tdiv, n_tmod, n_w64, n_w32, n_w16, n_w8, n_sub64, n_lsub64, n_subl64, n_m32, n_m51, n_m1, n_m1b, n_m7b, p64_32, p64_51, p64_13, p8_7, hz20, hf0, hz5, hwc, hset, o1, hof, hcan, hbit, hshr, List.length_replicate, take_all, eV_cells, eV_size, eV_ok, eV_fold, ns_len, u8s_len, lk, lm, l0, l1, l5, rf_eV]
      rfl
    · rw [← ((hkey p).1 hp).1]; exact p.y.isLt
end Go.Ev.Ytaceeoghjgggjaa
set_option linter.unusedSimpArgs false
set_option linter.unusedVariables false
namespace Go.Ev.Ytaceeoghjgggjaa
open Go Go.Ev
attribute [local congr] bind_congr2 ite_congr2 qElse_congr gate_congr guardV_congr
set_option maxRecDepth 100000
def pf (n : Nat) (L : List Nat) (i : Nat) : List Nat := L.take i ++ List.replicate (n - i) 0
theorem pf_zero (n : Nat) (L : List Nat) : pf n L 0 = List.replicate n 0 := by simp [pf]
theorem pf_full {n : Nat} {L : List Nat} (h : L.length = n) : pf n L n = L := by simp [pf, ← h]
theorem pf_len {n : Nat} {L : List Nat} (h : L.length = n) {i : Nat} (hi : i ≤ n) : (pf n L i).length = n := by simp [pf]; omega
theorem pf_step {n i x : Nat} {L : List Nat} (h : L.length = n) (hi : i < n) (hx : L[i]? = some x) : (pf n L i).set i x = pf n L (i + 1) := by
  unfold pf
  rw [List.set_append_right _ _ (by simp; omega)]
  have e1 : (L.take i).length = i := by simp; omega
  rw [e1, Nat.sub_self]
  have e2 : n - i = (n - (i + 1)) + 1 := by omega
  rw [e2, List.replicate_succ, List.set_cons_zero, List.take_add_one, hx]
  simp
structure Nm (l : List Nat) : Prop where
  len : l.length = 16
  lt : ∀ x ∈ l, x < 65536
theorem Nm.num_lt {l : List Nat} (h : Nm l) : num 65536 l < 2 ^ 256 := by
  have := Go.Ev.num_lt h.lt
  rw [h.len] at this
  exact this
theorem Nm.dig (v : Nat) : Nm (dig 65536 16 v) := ⟨dig_len _ _ _, fun x h => dig_lt (by decide) h⟩
theorem Nm.eq {l : List Nat} (h : Nm l) : l = Go.Ev.dig 65536 16 (num 65536 l) := by
  have := dig_num (B := 65536) (by decide) h.lt
  rw [h.len] at this
  exact this.symm
theorem Nm.inj {l m : List Nat} (h : Nm l) (h' : Nm m) (e : num 65536 l = num 65536 m) : l = m := by rw [h.eq, h'.eq, e]
theorem nm_dig {v : Nat} (h : v < 2 ^ 256) : num 65536 (dig 65536 16 v) = v := by
  rw [num_dig (by decide)]; exact Nat.mod_eq_of_lt h
def nf (l : List Nat) : Go.Fp.Fe := Go.Fp.fp (num 65536 l)
theorem two_bytes {k : List Nat} (xk : ∀ x ∈ k, x < 256) {i x y : Nat} (hx : k[2 * i]? = some x) (hy : k[2 * i + 1]? = some y) : num 256 k / 65536 ^ i % 65536 = x + 256 * y := by
  have h1 := num_get (B := 256) (by decide) xk hx
  have h2 := num_get (B := 256) (by decide) xk hy
  have e : (65536 : Nat) ^ i = 256 ^ (2 * i) := by rw [show (65536 : Nat) = 256 ^ 2 from rfl, ← Nat.pow_mul]
  rw [e]
  rw [Nat.pow_succ, ← Nat.div_div_eq_div_mul] at h2
  omega
def zero16 : List Nat := List.replicate 16 0
theorem z16_eq : List.replicate 16 (Value.int .u64 0) = ns .u64 zero16 := rfl
theorem z16_fill : fillL (ns .u64 zero16) [] = some (ns .u64 zero16) := rfl
theorem z16_len : zero16.length = 16 := rfl
theorem wn {n : Nat} (h : n < 9223372036854775808) : IntKind.i64.wrap (n : Int) = n := wrap_nat h
theorem w64n {n : Nat} (h : n < 18446744073709551616) : IntKind.u64.wrap (n : Int) = n := by rw [n_w64, Nat.mod_eq_of_lt h]
theorem w64_add {a b : Nat} (h : a + b < 18446744073709551616) : IntKind.u64.wrap ((a : Int) + (b : Int)) = ((a + b : Nat) : Int) := by rw [← Int.natCast_add]; exact w64n h
theorem w64_mul {a b : Nat} (h : a * b < 18446744073709551616) : IntKind.u64.wrap ((a : Int) * (b : Int)) = ((a * b : Nat) : Int) := by rw [← Int.natCast_mul]; exact w64n h
theorem wi_add {a b : Nat} (h : a + b < 9223372036854775808) : IntKind.i64.wrap ((a : Int) + (b : Int)) = ((a + b : Nat) : Int) := by rw [← Int.natCast_add]; exact wn h
theorem wi_mul {a b : Nat} (h : a * b < 9223372036854775808) : IntKind.i64.wrap ((a : Int) * (b : Int)) = ((a * b : Nat) : Int) := by rw [← Int.natCast_mul]; exact wn h
def rofI (k o : List Nat) (i : Int) (ex : Env) : St := ⟨[(1, .pointer (some ⟨0, 0, none⟩)), (2, .pointer (some ⟨1, 0, none⟩)), (3, .pointer (some ⟨2, 0, none⟩)), (4, .int .i64 i)] ++ ex, [⟨u8s k, true, true, true, 1⟩, ⟨ns .u64 zero16, true, true, true, 1⟩, ⟨ns .u64 o, true, true, true, 1⟩], []⟩
theorem rof_body {k : List Nat} {i : Nat} (lk : k.length = 32) (xk : ∀ x ∈ k, x < 256) (hi : i < 16) :
    evCode T 0 a65_l0 (rofI k (pf 16 (dig 65536 16 (num 256 k)) i) i []) = some (.normal, rofI k (pf 16 (dig 65536 16 (num 256 k)) (i + 1)) ((i + 1 : Nat) : Int) []) := by
  obtain ⟨x, hx⟩ : ∃ x, k[2 * i]? = some x := ⟨_, List.getElem?_eq_getElem (by omega)⟩
  obtain ⟨y, hy⟩ : ∃ y, k[2 * i + 1]? = some y := ⟨_, List.getElem?_eq_getElem (by omega)⟩
  have hx' := xk x (List.mem_of_getElem? hx)
  have hy' := xk y (List.mem_of_getElem? hy)
  have hd := two_bytes xk hx hy
  have hg : (dig 65536 16 (num 256 k))[i]? = some (x + 256 * y) := by rw [dig_get hi, hd]
  have hstep := pf_step (dig_len _ _ _) hi hg
  have hlen := pf_len (dig_len 65536 16 (num 256 k)) (Nat.le_of_lt hi)
  have hset := ns_set .u64 (pf 16 (dig 65536 16 (num 256 k)) i) i (x + 256 * y)
  rw [hstep] at hset
  have hxc := u8s_get hx
  have hyc := u8s_get hy
  have w1 : IntKind.i64.wrap ((i : Int) + 1) = ((i + 1 : Nat) : Int) := wi_add (b := 1) (by omega)
  have w2 : IntKind.i64.wrap (2 * (i : Int)) = ((2 * i : Nat) : Int) := wi_mul (a := 2) (by omega)
  have w3 : IntKind.i64.wrap (((2 * i : Nat) : Int) + 1) = ((2 * i + 1 : Nat) : Int) := wi_add (b := 1) (by omega)
  have w4 : IntKind.u64.wrap (x : Int) = (x : Int) := w64n (by omega)
  have w5 : IntKind.u64.wrap (y : Int) = (y : Int) := w64n (by omega)
  have w6 : IntKind.u64.wrap (256 * (y : Int)) = ((256 * y : Nat) : Int) := w64_mul (a := 256) (by omega)
  have w7 : IntKind.u64.wrap ((x : Int) + ((256 * y : Nat) : Int)) = ((x + 256 * y : Nat) : Int) := w64_add (by omega)
  have e1 : ((i : Int) < 16) = True := eq_true (by omega)
  have e2 : (((2 * i : Nat) : Int) < 32) = True := eq_true (by omega)
  have e3 : (((2 * i + 1 : Nat) : Int) < 32) = True := eq_true (by omega)
  have e4 : (i ≤ 15) = True := eq_true (by omega)
  generalize pf 16 (dig 65536 16 (num 256 k)) i = o at *
  generalize hj : 2 * i = j at *
  generalize hj1 : j + 1 = j1 at *
  generalize hv : 256 * y = v at *
  simp only [rofI, a65_l0, envOf, evCode_skip, evCode_exit, evCode_seq, fs_blockS, fs_blockR, fs_blockC, fs_blockK, fs_blockB, evCode_ret, quiet, keep_nil, keep_cons, fs_cond, fs_region, fs_regionQ, quiet2_eq, lastOf_nil, lastOf_cons, List.take_succ_cons, List.take_zero, List.drop_succ_cons, List.drop_zero, Int.reduceBEq, Int.reduceBNe,  fs_nil, fs_guard, fs_move, fs_pick, fs_alloc, fs_box, fs_load, fs_store, fs_bin, fs_eqv, fs_isNil, fs_un, fs_conv, fs_convStr, fs_field, fs_index, fs_indexStr, fs_build, fs_buildSlice, fs_fieldAddr, fs_indexAddr, fs_indexSl, fs_sliceArr, fs_sliceSl, fs_sliceStr, fs_makeSlice, fs_extract, fs_mkIface, fs_mkFunc, fs_nilCheck, fs_s2ap, fs_len, fs_minmax, fs_s2b, fs_b2s, fs_append, fs_copy, fs_callW, fs_callR, fs_callv, opd_tmp, opd_const, opd_func, opds_nil, opds_cons, opdOpt_none, opdOpt_some, opdParts_nil, opdParts_cons, get_miss, vPick_t, vPick_f, vEq_agg, vEq_aggN, vEq_bool, vEq_boolN, vConv_int, vStr_s, vField_agg, vIndex_agg, vIndexStr_s, vFieldAddr_p, vIndexAddr_p, vIndexSl_s, vSliceArr_p, vSliceSl_s, vSliceSl_n, vSliceStr_s, vExtract_t, vNilCheck_p, vS2ap_s, vLen_s, vLen_str, vMin_i, vMax_i, vLoad_p, vStore_p, baseP_p, vB2s_s, vMake_i, vS2b_s, callee_f, liveAt_eq, storeAt_eq, partL_none, partL_some, natIn_none, natIn_int, bounds3_two, bin_add, bin_sub, bin_mul, bin_quo, bin_rem, bin_and, bin_or, bin_xor, bin_andNot, bin_eql, bin_neq, bin_lss, bin_leq, bin_gtr, bin_geq, bin_shl, bin_shr, bin_sadd, bin_seql, bin_sneq, un_not, un_neg, un_xor, after_some, put_some, put_none, res_nil, res_val, res_var, packed_one, packed_two, merge_nil, merge_ge, rf_tup2, rfIn_int, rfIn_bool, rfIn_u8s, rf_str, rfIn_str, ↓gate_true, gd_bool, gd_ut, gd_uf, ↓guardV_tt, ↓guardV_ff, ↓guardV_tf, ↓guardV_ft, ↓keepV_some, ↓qElse_some, ↓get_hit, ↓Option.bind_some, ↓if_true, ↓if_false, List.nil_append, List.cons_append, List.all_nil, List.all_cons, List.isEmpty_nil, reduceCtorEq, Bool.false_eq_true, Nat.reduceEqDiff, beq_self_eq_true, bne_self_eq_false, Bool.not_true, Bool.not_false, Int.natCast_nonneg, Nat.lt_irrefl, false_and, Int.reduceEq, rf_int, rf_bool, rf_tuple_ints, rf_u8s, arr_list, toList2, Bool.and_self, Nat.not_lt_zero, Nat.sub_zero, Nat.zero_le, Nat.le_add_right, cells_agg, cells_agg_size, cells_int, cells_int_size, okV_int, okV_bool, okV_str, okV_agg, okV_ptr, okV_slice, okV_func, okV_nilFunc, okV_iface, okV_nilIface, cells_bool, cells_bool_size, cells_ptr, cells_ptr_size, cells_slice, cells_slice_size, cells_str, cells_str_size, eq_self, wrapI64_small, Int.natCast_zero, Int.natCast_one, Int.cast_ofNat_Int, List.length_nil, List.length_cons, List.getElem?_cons_zero, List.getElem?_cons_succ, List.set_cons_zero, List.set_cons_succ, Nat.zero_add, Nat.add_zero, Nat.mul_one, Nat.zero_mul, Int.toNat_natCast, Int.toNat_zero, Int.lt_irrefl, Int.le_refl, Nat.le_refl, and_self, true_and, and_true, decide_true, decide_false, Int.reduceLE, Int.reduceLT, Int.reduceAdd, Int.reduceMul, Int.reduceSub, Int.reduceTDiv, Int.reduceTMod, Int.reduceNeg, Int.reduceToNat, Int.reduceGT, Int.reduceGE, Int.reducePow, Nat.reduceAdd, Nat.reduceMul, Nat.reduceSub, Nat.reduceDiv, Nat.reduceMod, Nat.reducePow, Nat.reduceLT, Nat.reduceLeDiff, Nat.min_self, ge_iff_le, gt_iff_lt, Option.isNone_none, Option.isSome_none, Option.isNone_some, Option.isSome_some, Bool.and_true, Bool.true_and, Bool.and_false, Bool.false_and, not_true_eq_false, not_false_eq_true, or_true, true_or, false_or, or_false, hget0, hgetK, hset0, hsetK, splice_single, splice_whole, take_whole, List.getElem?_nil, List.length_append, List.append_assoc, hxc, hyc, w1, w2, w3, w4, w5, w6, w7, e1, e2, e3, e4, hset, ns_len, hlen]
theorem rof_v {k : List Nat} (lk : k.length = 32) (xk : ∀ x ∈ k, x < 256) : evVal T 65 [.agg (u8s k).toArray] = some (eV (dig 65536 16 (num 256 k % 2 ^ 255))) := by
  have hb := block_loop (T := T) (base := 0) (id := 0) (body := a65_l0) (fun i => rofI k (pf 16 (dig 65536 16 (num 256 k)) i) i []) (s' := rofI k (dig 65536 16 (num 256 k)) 16 [(7, .bool false)]) 16
    (fun i hi => rof_body lk xk hi) (by
      rw [pf_full (dig_len _ _ _)]
      simp only [rofI, a65_l0, envOf, evCode_skip, evCode_exit, evCode_seq, fs_blockS, fs_blockR, fs_blockC, fs_blockK, fs_blockB, evCode_ret, quiet, keep_nil, keep_cons, fs_cond, fs_region, fs_regionQ, quiet2_eq, lastOf_nil, lastOf_cons, List.take_succ_cons, List.take_zero, List.drop_succ_cons, List.drop_zero, Int.reduceBEq, Int.reduceBNe,  fs_nil, fs_guard, fs_move, fs_pick, fs_alloc, fs_box, fs_load, fs_store, fs_bin, fs_eqv, fs_isNil, fs_un, fs_conv, fs_convStr, fs_field, fs_index, fs_indexStr, fs_build, fs_buildSlice, fs_fieldAddr, fs_indexAddr, fs_indexSl, fs_sliceArr, fs_sliceSl, fs_sliceStr, fs_makeSlice, fs_extract, fs_mkIface, fs_mkFunc, fs_nilCheck, fs_s2ap, fs_len, fs_minmax, fs_s2b, fs_b2s, fs_append, fs_copy, fs_callW, fs_callR, fs_callv, opd_tmp, opd_const, opd_func, opds_nil, opds_cons, opdOpt_none, opdOpt_some, opdParts_nil, opdParts_cons, get_miss, vPick_t, vPick_f, vEq_agg, vEq_aggN, vEq_bool, vEq_boolN, vConv_int, vStr_s, vField_agg, vIndex_agg, vIndexStr_s, vFieldAddr_p, vIndexAddr_p, vIndexSl_s, vSliceArr_p, vSliceSl_s, vSliceSl_n, vSliceStr_s, vExtract_t, vNilCheck_p, vS2ap_s, vLen_s, vLen_str, vMin_i, vMax_i, vLoad_p, vStore_p, baseP_p, vB2s_s, vMake_i, vS2b_s, callee_f, liveAt_eq, storeAt_eq, partL_none, partL_some, natIn_none, natIn_int, bounds3_two, bin_add, bin_sub, bin_mul, bin_quo, bin_rem, bin_and, bin_or, bin_xor, bin_andNot, bin_eql, bin_neq, bin_lss, bin_leq, bin_gtr, bin_geq, bin_shl, bin_shr, bin_sadd, bin_seql, bin_sneq, un_not, un_neg, un_xor, after_some, put_some, put_none, res_nil, res_val, res_var, packed_one, packed_two, merge_nil, merge_ge, rf_tup2, rfIn_int, rfIn_bool, rfIn_u8s, rf_str, rfIn_str, ↓gate_true, gd_bool, gd_ut, gd_uf, ↓guardV_tt, ↓guardV_ff, ↓guardV_tf, ↓guardV_ft, ↓keepV_some, ↓qElse_some, ↓get_hit, ↓Option.bind_some, ↓if_true, ↓if_false, List.nil_append, List.cons_append, List.all_nil, List.all_cons, List.isEmpty_nil, reduceCtorEq, Bool.false_eq_true, Nat.reduceEqDiff, beq_self_eq_true, bne_self_eq_false, Bool.not_true, Bool.not_false, Int.natCast_nonneg, Nat.lt_irrefl, false_and, Int.reduceEq, rf_int, rf_bool, rf_tuple_ints, rf_u8s, arr_list, toList2, Bool.and_self, Nat.not_lt_zero, Nat.sub_zero, Nat.zero_le, Nat.le_add_right, cells_agg, cells_agg_size, cells_int, cells_int_size, okV_int, okV_bool, okV_str, okV_agg, okV_ptr, okV_slice, okV_func, okV_nilFunc, okV_iface, okV_nilIface, cells_bool, cells_bool_size, cells_ptr, cells_ptr_size, cells_slice, cells_slice_size, cells_str, cells_str_size, eq_self, wrapI64_small, Int.natCast_zero, Int.natCast_one, Int.cast_ofNat_Int, List.length_nil, List.length_cons, List.getElem?_cons_zero, List.getElem?_cons_succ, List.set_cons_zero, List.set_cons_succ, Nat.zero_add, Nat.add_zero, Nat.mul_one, Nat.zero_mul, Int.toNat_natCast, Int.toNat_zero, Int.lt_irrefl, Int.le_refl, Nat.le_refl, and_self, true_and, and_true, decide_true, decide_false, Int.reduceLE, Int.reduceLT, Int.reduceAdd, Int.reduceMul, Int.reduceSub, Int.reduceTDiv, Int.reduceTMod, Int.reduceNeg, Int.reduceToNat, Int.reduceGT, Int.reduceGE, Int.reducePow, Nat.reduceAdd, Nat.reduceMul, Nat.reduceSub, Nat.reduceDiv, Nat.reduceMod, Nat.reducePow, Nat.reduceLT, Nat.reduceLeDiff, Nat.min_self, ge_iff_le, gt_iff_lt, Option.isNone_none, Option.isSome_none, Option.isNone_some, Option.isSome_some, Bool.and_true, Bool.true_and, Bool.and_false, Bool.false_and, not_true_eq_false, not_false_eq_true, or_true, true_or, false_or, or_false])
  rw [pf_zero] at hb
  have hV := num_lt xk
  rw [lk] at hV
  have hN := Nm.dig (num 256 k)
  obtain ⟨w, hw⟩ : ∃ w, (dig 65536 16 (num 256 k))[15]? = some w := ⟨_, List.getElem?_eq_getElem (by rw [dig_len]; omega)⟩
  have hw' := hN.lt w (List.mem_of_getElem? hw)
  have hwv : w = num 256 k / 65536 ^ 15 % 65536 := by rw [dig_get (by decide)] at hw; exact (Option.some.inj hw).symm
  have hs := num_set (B := 65536) (w % 32768) hw
  rw [nm_dig hV] at hs
  have hfin : (dig 65536 16 (num 256 k)).set 15 (w % 32768) = dig 65536 16 (num 256 k % 2 ^ 255) := by
    have hNs : Nm ((dig 65536 16 (num 256 k)).set 15 (w % 32768)) := ⟨by rw [List.length_set, dig_len], set_lt hN.lt (by omega)⟩
    refine hNs.eq.trans (congrArg (dig 65536 16) ?_)
    have e15 : (65536 : Nat) ^ 15 = 1766847064778384329583297500742918515827483896875618958121606201292619776 := by decide
    have e255 : (2 : Nat) ^ 255 = 57896044618658097711785492504343953926634992332820282019728792003956564819968 := by decide
    have e256 : (256 : Nat) ^ 32 = 115792089237316195423570985008687907853269984665640564039457584007913129639936 := by decide
    have hq : w = num 256 k / 65536 ^ 15 := by
      rw [e15] at hwv ⊢
      rw [e256] at hV
      omega
    have hq2 : num 256 k / 2 ^ 255 = w / 32768 := by
      rw [hq, e15, e255]
      omega
    have hdm := Nat.div_add_mod (num 256 k) (2 ^ 255)
    rw [hq2] at hdm
    rw [e15] at hs
    rw [e255] at *
    omega
  have hset := ns_set .u64 (dig 65536 16 (num 256 k)) 15 (w % 32768)
  rw [hfin] at hset
  have hwc := ns_get (k := .u64) hw
  have l1 := dig_len 65536 16 (num 256 k)
  have l2 := dig_len 65536 16 (num 256 k % 2 ^ 255)
  have hm : ((w : Int).tmod 32768) = ((w % 32768 : Nat) : Int) := rfl
  have wm : IntKind.u64.wrap ((w % 32768 : Nat) : Int) = ((w % 32768 : Nat) : Int) := w64n (by omega)
  simp only [rofI, List.cons_append, List.nil_append, Int.natCast_zero] at hb
  have hz := z16_eq
  have hf := z16_fill
  have lz := z16_len
  rw [show List.replicate 16 0 = zero16 from rfl] at hb
  generalize zero16 = Z at *
  generalize dig 65536 16 (num 256 k) = D at *
  generalize dig 65536 16 (num 256 k % 2 ^ 255) = R at *
  apply evVal_ex
  apply Exists.intro
  rw [evFun_fn (fn := a65) rfl]
  simp only [a65, ↓steps_chunk, envOf, evCode_skip, evCode_exit, evCode_seq, fs_blockS, fs_blockR, fs_blockC, fs_blockK, fs_blockB, evCode_ret, quiet, keep_nil, keep_cons, fs_cond, fs_region, fs_regionQ, quiet2_eq, lastOf_nil, lastOf_cons, List.take_succ_cons, List.take_zero, List.drop_succ_cons, List.drop_zero, Int.reduceBEq, Int.reduceBNe,  fs_nil, fs_guard, fs_move, fs_pick, fs_alloc, fs_box, fs_load, fs_store, fs_bin, fs_eqv, fs_isNil, fs_un, fs_conv, fs_convStr, fs_field, fs_index, fs_indexStr, fs_build, fs_buildSlice, fs_fieldAddr, fs_indexAddr, fs_indexSl, fs_sliceArr, fs_sliceSl, fs_sliceStr, fs_makeSlice, fs_extract, fs_mkIface, fs_mkFunc, fs_nilCheck, fs_s2ap, fs_len, fs_minmax, fs_s2b, fs_b2s, fs_append, fs_copy, fs_callW, fs_callR, fs_callv, opd_tmp, opd_const, opd_func, opds_nil, opds_cons, opdOpt_none, opdOpt_some, opdParts_nil, opdParts_cons, get_miss, vPick_t, vPick_f, vEq_agg, vEq_aggN, vEq_bool, vEq_boolN, vConv_int, vStr_s, vField_agg, vIndex_agg, vIndexStr_s, vFieldAddr_p, vIndexAddr_p, vIndexSl_s, vSliceArr_p, vSliceSl_s, vSliceSl_n, vSliceStr_s, vExtract_t, vNilCheck_p, vS2ap_s, vLen_s, vLen_str, vMin_i, vMax_i, vLoad_p, vStore_p, baseP_p, vB2s_s, vMake_i, vS2b_s, callee_f, liveAt_eq, storeAt_eq, partL_none, partL_some, natIn_none, natIn_int, bounds3_two, bin_add, bin_sub, bin_mul, bin_quo, bin_rem, bin_and, bin_or, bin_xor, bin_andNot, bin_eql, bin_neq, bin_lss, bin_leq, bin_gtr, bin_geq, bin_shl, bin_shr, bin_sadd, bin_seql, bin_sneq, un_not, un_neg, un_xor, after_some, put_some, put_none, res_nil, res_val, res_var, packed_one, packed_two, merge_nil, merge_ge, rf_tup2, rfIn_int, rfIn_bool, rfIn_u8s, rf_str, rfIn_str, ↓gate_true, gd_bool, gd_ut, gd_uf, ↓guardW_tt, ↓guardW_ff, ↓guardW_tf, ↓guardW_ft, ↓keepW_some, ↓qElseW_some, ↓get_hit, ↓Option.bind_some, ↓if_true, ↓if_false, List.nil_append, List.cons_append, List.all_nil, List.all_cons, List.isEmpty_nil, reduceCtorEq, Bool.false_eq_true, Nat.reduceEqDiff, beq_self_eq_true, bne_self_eq_false, Bool.not_true, Bool.not_false, Int.natCast_nonneg, Nat.lt_irrefl, false_and, Int.reduceEq, rf_int, rf_bool, rf_tuple_ints, rf_u8s, arr_list, toList2, Bool.and_self, Nat.not_lt_zero, Nat.sub_zero, Nat.zero_le, Nat.le_add_right, cells_agg, cells_agg_size, cells_int, cells_int_size, okV_int, okV_bool, okV_str, okV_agg, okV_ptr, okV_slice, okV_func, okV_nilFunc, okV_iface, okV_nilIface, cells_bool, cells_bool_size, cells_ptr, cells_ptr_size, cells_slice, cells_slice_size, cells_str, cells_str_size, eq_self, wrapI64_small, Int.natCast_zero, Int.natCast_one, Int.cast_ofNat_Int, List.length_nil, List.length_cons, List.getElem?_cons_zero, List.getElem?_cons_succ, List.set_cons_zero, List.set_cons_succ, Nat.zero_add, Nat.add_zero, Nat.mul_one, Nat.zero_mul, Int.toNat_natCast, Int.toNat_zero, Int.lt_irrefl, Int.le_refl, Nat.le_refl, and_self, true_and, and_true, decide_true, decide_false, Int.reduceLE, Int.reduceLT, Int.reduceAdd, Int.reduceMul, Int.reduceSub, Int.reduceTDiv, Int.reduceTMod, Int.reduceNeg, Int.reduceToNat, Int.reduceGT, Int.reduceGE, Int.reducePow, Nat.reduceAdd, Nat.reduceMul, Nat.reduceSub, Nat.reduceDiv, Nat.reduceMod, Nat.reducePow, Nat.reduceLT, Nat.reduceLeDiff, Nat.min_self, ge_iff_le, gt_iff_lt, Option.isNone_none, Option.isSome_none, Option.isNone_some, Option.isSome_some, Bool.and_true, Bool.true_and, Bool.and_false, Bool.false_and, not_true_eq_false, not_false_eq_true, or_true, true_or, false_or, or_false, hget0, hgetK, hset0, hsetK, splice_single, splice_whole, take_whole, List.getElem?_nil, List.length_append, List.append_assoc, hz, hf, hb, hwc, hm, wm, hset, List.length_replicate, take_all, eV_cells, eV_size, eV_ok, eV_fold, ns_len, u8s_len, lk, l1, l2, lz, rf_eV]
  rfl
end Go.Ev.Ytaceeoghjgggjaa
set_option linter.unusedSimpArgs false
set_option linter.unusedVariables false
namespace Go.Ev.Ytaceeoghjgggjaa
open Go Go.Ev
attribute [local congr] bind_congr2 ite_congr2 qElse_congr gate_congr guardV_congr
set_option maxRecDepth 100000
theorem w64_sub {a b : Nat} (h : b ≤ a) (ha : a < 18446744073709551616) : IntKind.u64.wrap ((a : Int) - (b : Int)) = ((a - b : Nat) : Int) := by rw [wrap_u64]; omega
theorem cellsEq_u64 {n : Nat} {p q : List Nat} (hp : p.length = n) (hq : q.length = n) : cellsEq (List.replicate n true) (ns .u64 p) (ns .u64 q) = some (p == q) := by
  induction n generalizing p q with
  | zero => cases p with
    | nil => cases q with
      | nil => rfl
      | cons => cases hq
    | cons => cases hp
  | succ n ih => cases p with
    | nil => cases hp
    | cons a p => cases q with
      | nil => cases hq
      | cons b q =>
        have := ih (p := p) (q := q) (by simpa using hp) (by simpa using hq)
        rw [ns_cons, ns_cons, List.replicate_succ]
        simp only [cellsEq, this, cellEq, if_true, Option.bind_some, List.cons_beq_cons]
        congr 2
        by_cases h : a = b
        · subst h; simp
        · have h' : ¬ (a : Int) = (b : Int) := by omega
          rw [beq_eq_false_iff_ne.2 h, beq_eq_false_iff_ne.2 h']
def primeL : List Nat := dig 65536 16 Go.Fp.P
theorem primeL_nm : Nm primeL := Nm.dig _
theorem primeL_num : num 65536 primeL = Go.Fp.P := by decide +kernel
def rprI (o : List Nat) (i : Int) (ex : Env) : St := ⟨[(0, .pointer (some ⟨0, 0, none⟩)), (1, .pointer (some ⟨1, 0, none⟩)), (2, .int .i64 i)] ++ ex, [⟨ns .u64 zero16, true, true, true, 1⟩, ⟨ns .u64 o, true, true, true, 1⟩], []⟩
theorem rpr_body {i : Nat} (hi : i < 16) :
    evCode T 0 a87_l0 (rprI (pf 16 (List.replicate 16 65535) i) i []) = some (.normal, rprI (pf 16 (List.replicate 16 65535) (i + 1)) ((i + 1 : Nat) : Int) []) := by
  have hl : (List.replicate 16 65535).length = 16 := rfl
  have hg : (List.replicate 16 65535)[i]? = some 65535 := by rw [List.getElem?_replicate, if_pos hi]
  have hstep := pf_step hl hi hg
  have hlen := pf_len hl (Nat.le_of_lt hi)
  have hset := ns_set .u64 (pf 16 (List.replicate 16 65535) i) i 65535
  rw [hstep] at hset
  have hset' : (ns .u64 (pf 16 (List.replicate 16 65535) i)).set i (.int .u64 65535) = ns .u64 (pf 16 (List.replicate 16 65535) (i + 1)) := hset
  clear hset
  have w1 : IntKind.i64.wrap ((i : Int) + 1) = ((i + 1 : Nat) : Int) := wi_add (b := 1) (by omega)
  have e1 : ((i : Int) < 16) = True := eq_true (by omega)
  have e4 : (i ≤ 15) = True := eq_true (by omega)
  generalize pf 16 (List.replicate 16 65535) i = o at *
  simp only [rprI, a87_l0, envOf, evCode_skip, evCode_exit, evCode_seq, fs_blockS, fs_blockR, fs_blockC, fs_blockK, fs_blockB, evCode_ret, quiet, keep_nil, keep_cons, fs_cond, fs_region, fs_regionQ, quiet2_eq, lastOf_nil, lastOf_cons, List.take_succ_cons, List.take_zero, List.drop_succ_cons, List.drop_zero, Int.reduceBEq, Int.reduceBNe,  fs_nil, fs_guard, fs_move, fs_pick, fs_alloc, fs_box, fs_load, fs_store, fs_bin, fs_eqv, fs_isNil, fs_un, fs_conv, fs_convStr, fs_field, fs_index, fs_indexStr, fs_build, fs_buildSlice, fs_fieldAddr, fs_indexAddr, fs_indexSl, fs_sliceArr, fs_sliceSl, fs_sliceStr, fs_makeSlice, fs_extract, fs_mkIface, fs_mkFunc, fs_nilCheck, fs_s2ap, fs_len, fs_minmax, fs_s2b, fs_b2s, fs_append, fs_copy, fs_callW, fs_callR, fs_callv, opd_tmp, opd_const, opd_func, opds_nil, opds_cons, opdOpt_none, opdOpt_some, opdParts_nil, opdParts_cons, get_miss, vPick_t, vPick_f, vEq_agg, vEq_aggN, vEq_bool, vEq_boolN, vConv_int, vStr_s, vField_agg, vIndex_agg, vIndexStr_s, vFieldAddr_p, vIndexAddr_p, vIndexSl_s, vSliceArr_p, vSliceSl_s, vSliceSl_n, vSliceStr_s, vExtract_t, vNilCheck_p, vS2ap_s, vLen_s, vLen_str, vMin_i, vMax_i, vLoad_p, vStore_p, baseP_p, vB2s_s, vMake_i, vS2b_s, callee_f, liveAt_eq, storeAt_eq, partL_none, partL_some, natIn_none, natIn_int, bounds3_two, bin_add, bin_sub, bin_mul, bin_quo, bin_rem, bin_and, bin_or, bin_xor, bin_andNot, bin_eql, bin_neq, bin_lss, bin_leq, bin_gtr, bin_geq, bin_shl, bin_shr, bin_sadd, bin_seql, bin_sneq, un_not, un_neg, un_xor, after_some, put_some, put_none, res_nil, res_val, res_var, packed_one, packed_two, merge_nil, merge_ge, rf_tup2, rfIn_int, rfIn_bool, rfIn_u8s, rf_str, rfIn_str, ↓gate_true, gd_bool, gd_ut, gd_uf, ↓guardV_tt, ↓guardV_ff, ↓guardV_tf, ↓guardV_ft, ↓keepV_some, ↓qElse_some, ↓get_hit, ↓Option.bind_some, ↓if_true, ↓if_false, List.nil_append, List.cons_append, List.all_nil, List.all_cons, List.isEmpty_nil, reduceCtorEq, Bool.false_eq_true, Nat.reduceEqDiff, beq_self_eq_true, bne_self_eq_false, Bool.not_true, Bool.not_false, Int.natCast_nonneg, Nat.lt_irrefl, false_and, Int.reduceEq, rf_int, rf_bool, rf_tuple_ints, rf_u8s, arr_list, toList2, Bool.and_self, Nat.not_lt_zero, Nat.sub_zero, Nat.zero_le, Nat.le_add_right, cells_agg, cells_agg_size, cells_int, cells_int_size, okV_int, okV_bool, okV_str, okV_agg, okV_ptr, okV_slice, okV_func, okV_nilFunc, okV_iface, okV_nilIface, cells_bool, cells_bool_size, cells_ptr, cells_ptr_size, cells_slice, cells_slice_size, cells_str, cells_str_size, eq_self, wrapI64_small, Int.natCast_zero, Int.natCast_one, Int.cast_ofNat_Int, List.length_nil, List.length_cons, List.getElem?_cons_zero, List.getElem?_cons_succ, List.set_cons_zero, List.set_cons_succ, Nat.zero_add, Nat.add_zero, Nat.mul_one, Nat.zero_mul, Int.toNat_natCast, Int.toNat_zero, Int.lt_irrefl, Int.le_refl, Nat.le_refl, and_self, true_and, and_true, decide_true, decide_false, Int.reduceLE, Int.reduceLT, Int.reduceAdd, Int.reduceMul, Int.reduceSub, Int.reduceTDiv, Int.reduceTMod, Int.reduceNeg, Int.reduceToNat, Int.reduceGT, Int.reduceGE, Int.reducePow, Nat.reduceAdd, Nat.reduceMul, Nat.reduceSub, Nat.reduceDiv, Nat.reduceMod, Nat.reducePow, Nat.reduceLT, Nat.reduceLeDiff, Nat.min_self, ge_iff_le, gt_iff_lt, Option.isNone_none, Option.isSome_none, Option.isNone_some, Option.isSome_some, Bool.and_true, Bool.true_and, Bool.and_false, Bool.false_and, not_true_eq_false, not_false_eq_true, or_true, true_or, false_or, or_false, hget0, hgetK, hset0, hsetK, splice_single, splice_whole, take_whole, List.getElem?_nil, List.length_append, List.append_assoc, w1, e1, e4, hset', ns_len, hlen]
theorem rprime_v : evVal T 87 [] = some (eV primeL) := by
  have hb := block_loop (T := T) (base := 0) (id := 0) (body := a87_l0) (fun i => rprI (pf 16 (List.replicate 16 65535) i) i []) (s' := rprI (List.replicate 16 65535) 16 [(5, .bool false)]) 16
    (fun i hi => rpr_body hi) (by
      rw [pf_full (n := 16) (L := List.replicate 16 65535) rfl]
      simp only [rprI, a87_l0, envOf, evCode_skip, evCode_exit, evCode_seq, fs_blockS, fs_blockR, fs_blockC, fs_blockK, fs_blockB, evCode_ret, quiet, keep_nil, keep_cons, fs_cond, fs_region, fs_regionQ, quiet2_eq, lastOf_nil, lastOf_cons, List.take_succ_cons, List.take_zero, List.drop_succ_cons, List.drop_zero, Int.reduceBEq, Int.reduceBNe,  fs_nil, fs_guard, fs_move, fs_pick, fs_alloc, fs_box, fs_load, fs_store, fs_bin, fs_eqv, fs_isNil, fs_un, fs_conv, fs_convStr, fs_field, fs_index, fs_indexStr, fs_build, fs_buildSlice, fs_fieldAddr, fs_indexAddr, fs_indexSl, fs_sliceArr, fs_sliceSl, fs_sliceStr, fs_makeSlice, fs_extract, fs_mkIface, fs_mkFunc, fs_nilCheck, fs_s2ap, fs_len, fs_minmax, fs_s2b, fs_b2s, fs_append, fs_copy, fs_callW, fs_callR, fs_callv, opd_tmp, opd_const, opd_func, opds_nil, opds_cons, opdOpt_none, opdOpt_some, opdParts_nil, opdParts_cons, get_miss, vPick_t, vPick_f, vEq_agg, vEq_aggN, vEq_bool, vEq_boolN, vConv_int, vStr_s, vField_agg, vIndex_agg, vIndexStr_s, vFieldAddr_p, vIndexAddr_p, vIndexSl_s, vSliceArr_p, vSliceSl_s, vSliceSl_n, vSliceStr_s, vExtract_t, vNilCheck_p, vS2ap_s, vLen_s, vLen_str, vMin_i, vMax_i, vLoad_p, vStore_p, baseP_p, vB2s_s, vMake_i, vS2b_s, callee_f, liveAt_eq, storeAt_eq, partL_none, partL_some, natIn_none, natIn_int, bounds3_two, bin_add, bin_sub, bin_mul, bin_quo, bin_rem, bin_and, bin_or, bin_xor, bin_andNot, bin_eql, bin_neq, bin_lss, bin_leq, bin_gtr, bin_geq, bin_shl, bin_shr, bin_sadd, bin_seql, bin_sneq, un_not, un_neg, un_xor, after_some, put_some, put_none, res_nil, res_val, res_var, packed_one, packed_two, merge_nil, merge_ge, rf_tup2, rfIn_int, rfIn_bool, rfIn_u8s, rf_str, rfIn_str, ↓gate_true, gd_bool, gd_ut, gd_uf, ↓guardV_tt, ↓guardV_ff, ↓guardV_tf, ↓guardV_ft, ↓keepV_some, ↓qElse_some, ↓get_hit, ↓Option.bind_some, ↓if_true, ↓if_false, List.nil_append, List.cons_append, List.all_nil, List.all_cons, List.isEmpty_nil, reduceCtorEq, Bool.false_eq_true, Nat.reduceEqDiff, beq_self_eq_true, bne_self_eq_false, Bool.not_true, Bool.not_false, Int.natCast_nonneg, Nat.lt_irrefl, false_and, Int.reduceEq, rf_int, rf_bool, rf_tuple_ints, rf_u8s, arr_list, toList2, Bool.and_self, Nat.not_lt_zero, Nat.sub_zero, Nat.zero_le, Nat.le_add_right, cells_agg, cells_agg_size, cells_int, cells_int_size, okV_int, okV_bool, okV_str, okV_agg, okV_ptr, okV_slice, okV_func, okV_nilFunc, okV_iface, okV_nilIface, cells_bool, cells_bool_size, cells_ptr, cells_ptr_size, cells_slice, cells_slice_size, cells_str, cells_str_size, eq_self, wrapI64_small, Int.natCast_zero, Int.natCast_one, Int.cast_ofNat_Int, List.length_nil, List.length_cons, List.getElem?_cons_zero, List.getElem?_cons_succ, List.set_cons_zero, List.set_cons_succ, Nat.zero_add, Nat.add_zero, Nat.mul_one, Nat.zero_mul, Int.toNat_natCast, Int.toNat_zero, Int.lt_irrefl, Int.le_refl, Nat.le_refl, and_self, true_and, and_true, decide_true, decide_false, Int.reduceLE, Int.reduceLT, Int.reduceAdd, Int.reduceMul, Int.reduceSub, Int.reduceTDiv, Int.reduceTMod, Int.reduceNeg, Int.reduceToNat, Int.reduceGT, Int.reduceGE, Int.reducePow, Nat.reduceAdd, Nat.reduceMul, Nat.reduceSub, Nat.reduceDiv, Nat.reduceMod, Nat.reducePow, Nat.reduceLT, Nat.reduceLeDiff, Nat.min_self, ge_iff_le, gt_iff_lt, Option.isNone_none, Option.isSome_none, Option.isNone_some, Option.isSome_some, Bool.and_true, Bool.true_and, Bool.and_false, Bool.false_and, not_true_eq_false, not_false_eq_true, or_true, true_or, false_or, or_false])
  rw [pf_zero, show List.replicate 16 0 = zero16 from rfl] at hb
  simp only [rprI, List.cons_append, List.nil_append, Int.natCast_zero] at hb
  have hz := z16_eq
  have hf := z16_fill
  have lz := z16_len
  have s1 : (ns .u64 (List.replicate 16 65535)).set 0 (.int .u64 65517) = ns .u64 (65517 :: List.replicate 15 65535) := rfl
  have s2 : (ns .u64 (65517 :: List.replicate 15 65535)).set 15 (.int .u64 32767) = ns .u64 primeL := by
    have : primeL = (65517 :: List.replicate 15 65535).set 15 32767 := by decide +kernel
    rw [this]; rfl
  have l1 : (List.replicate 16 65535).length = 16 := rfl
  have l2 : (65517 :: List.replicate 15 65535).length = 16 := rfl
  have l3 := primeL_nm.len
  generalize zero16 = Z at *
  generalize primeL = R at *
  generalize 65517 :: List.replicate 15 65535 = M at *
  generalize List.replicate 16 65535 = L at *
  apply evVal_ex
  apply Exists.intro
  rw [evFun_fn (fn := a87) rfl]
  simp only [a87, ↓steps_chunk, envOf, evCode_skip, evCode_exit, evCode_seq, fs_blockS, fs_blockR, fs_blockC, fs_blockK, fs_blockB, evCode_ret, quiet, keep_nil, keep_cons, fs_cond, fs_region, fs_regionQ, quiet2_eq, lastOf_nil, lastOf_cons, List.take_succ_cons, List.take_zero, List.drop_succ_cons, List.drop_zero, Int.reduceBEq, Int.reduceBNe,  fs_nil, fs_guard, fs_move, fs_pick, fs_alloc, fs_box, fs_load, fs_store, fs_bin, fs_eqv, fs_isNil, fs_un, fs_conv, fs_convStr, fs_field, fs_index, fs_indexStr, fs_build, fs_buildSlice, fs_fieldAddr, fs_indexAddr, fs_indexSl, fs_sliceArr, fs_sliceSl, fs_sliceStr, fs_makeSlice, fs_extract, fs_mkIface, fs_mkFunc, fs_nilCheck, fs_s2ap, fs_len, fs_minmax, fs_s2b, fs_b2s, fs_append, fs_copy, fs_callW, fs_callR, fs_callv, opd_tmp, opd_const, opd_func, opds_nil, opds_cons, opdOpt_none, opdOpt_some, opdParts_nil, opdParts_cons, get_miss, vPick_t, vPick_f, vEq_agg, vEq_aggN, vEq_bool, vEq_boolN, vConv_int, vStr_s, vField_agg, vIndex_agg, vIndexStr_s, vFieldAddr_p, vIndexAddr_p, vIndexSl_s, vSliceArr_p, vSliceSl_s, vSliceSl_n, vSliceStr_s, vExtract_t, vNilCheck_p, vS2ap_s, vLen_s, vLen_str, vMin_i, vMax_i, vLoad_p, vStore_p, baseP_p, vB2s_s, vMake_i, vS2b_s, callee_f, liveAt_eq, storeAt_eq, partL_none, partL_some, natIn_none, natIn_int, bounds3_two, bin_add, bin_sub, bin_mul, bin_quo, bin_rem, bin_and, bin_or, bin_xor, bin_andNot, bin_eql, bin_neq, bin_lss, bin_leq, bin_gtr, bin_geq, bin_shl, bin_shr, bin_sadd, bin_seql, bin_sneq, un_not, un_neg, un_xor, after_some, put_some, put_none, res_nil, res_val, res_var, packed_one, packed_two, merge_nil, merge_ge, rf_tup2, rfIn_int, rfIn_bool, rfIn_u8s, rf_str, rfIn_str, ↓gate_true, gd_bool, gd_ut, gd_uf, ↓guardW_tt, ↓guardW_ff, ↓guardW_tf, ↓guardW_ft, ↓keepW_some, ↓qElseW_some, ↓get_hit, ↓Option.bind_some, ↓if_true, ↓if_false, List.nil_append, List.cons_append, List.all_nil, List.all_cons, List.isEmpty_nil, reduceCtorEq, Bool.false_eq_true, Nat.reduceEqDiff, beq_self_eq_true, bne_self_eq_false, Bool.not_true, Bool.not_false, Int.natCast_nonneg, Nat.lt_irrefl, false_and, Int.reduceEq, rf_int, rf_bool, rf_tuple_ints, rf_u8s, arr_list, toList2, Bool.and_self, Nat.not_lt_zero, Nat.sub_zero, Nat.zero_le, Nat.le_add_right, cells_agg, cells_agg_size, cells_int, cells_int_size, okV_int, okV_bool, okV_str, okV_agg, okV_ptr, okV_slice, okV_func, okV_nilFunc, okV_iface, okV_nilIface, cells_bool, cells_bool_size, cells_ptr, cells_ptr_size, cells_slice, cells_slice_size, cells_str, cells_str_size, eq_self, wrapI64_small, Int.natCast_zero, Int.natCast_one, Int.cast_ofNat_Int, List.length_nil, List.length_cons, List.getElem?_cons_zero, List.getElem?_cons_succ, List.set_cons_zero, List.set_cons_succ, Nat.zero_add, Nat.add_zero, Nat.mul_one, Nat.zero_mul, Int.toNat_natCast, Int.toNat_zero, Int.lt_irrefl, Int.le_refl, Nat.le_refl, and_self, true_and, and_true, decide_true, decide_false, Int.reduceLE, Int.reduceLT, Int.reduceAdd, Int.reduceMul, Int.reduceSub, Int.reduceTDiv, Int.reduceTMod, Int.reduceNeg, Int.reduceToNat, Int.reduceGT, Int.reduceGE, Int.reducePow, Nat.reduceAdd, Nat.reduceMul, Nat.reduceSub, Nat.reduceDiv, Nat.reduceMod, Nat.reducePow, Nat.reduceLT, Nat.reduceLeDiff, Nat.min_self, ge_iff_le, gt_iff_lt, Option.isNone_none, Option.isSome_none, Option.isNone_some, Option.isSome_some, Bool.and_true, Bool.true_and, Bool.and_false, Bool.false_and, not_true_eq_false, not_false_eq_true, or_true, true_or, false_or, or_false, hget0, hgetK, hset0, hsetK, splice_single, splice_whole, take_whole, List.getElem?_nil, List.length_append, List.append_assoc, hz, hf, hb, s1, s2, List.length_replicate, take_all, eV_cells, eV_size, eV_ok, eV_fold, ns_len, l1, l2, l3, lz, rf_eV]
  rfl
def smallL (n : Nat) : List Nat := n % 65536 :: n / 65536 % 65536 :: List.replicate 14 0
theorem smallL_nm (n : Nat) : Nm (smallL n) := ⟨rfl, fun x hx => by
  simp only [smallL, List.mem_cons, List.mem_replicate] at hx
  omega⟩
theorem smallL_num {n : Nat} (h : n < 4294967296) : num 65536 (smallL n) = n := by
  have : num 65536 (List.replicate 14 0) = 0 := by decide
  simp only [smallL, num, this]
  omega
theorem small_fill (a b : Nat) : fillL (ns .u64 zero16) [(0, 1, .int .u64 (a : Int)), (1, 1, .int .u64 (b : Int))] = some (ns .u64 (a :: b :: List.replicate 14 0)) := rfl
theorem rsmall_v (n : Nat) (hn : n < 18446744073709551616) : evVal T 70 [.int .u64 (n : Nat)] = some (eV (smallL n)) := by
  have hz := z16_eq
  have lz := z16_len
  have hf := small_fill (n % 65536) (n / 65536 % 65536)
  have e1 : (n : Int).tmod 65536 = ((n % 65536 : Nat) : Int) := rfl
  have e2 : (n : Int).tdiv 65536 = ((n / 65536 : Nat) : Int) := rfl
  have e3 : (((n / 65536 : Nat) : Int)).tmod 65536 = ((n / 65536 % 65536 : Nat) : Int) := rfl
  have w1 : IntKind.u64.wrap ((n % 65536 : Nat) : Int) = ((n % 65536 : Nat) : Int) := w64n (by omega)
  have w2 : IntKind.u64.wrap ((n / 65536 : Nat) : Int) = ((n / 65536 : Nat) : Int) := w64n (by omega)
  have w3 : IntKind.u64.wrap ((n / 65536 % 65536 : Nat) : Int) = ((n / 65536 % 65536 : Nat) : Int) := w64n (by omega)
  have hl : (n % 65536 :: n / 65536 % 65536 :: List.replicate 14 0).length = 16 := rfl
  unfold smallL
  generalize zero16 = Z at *
  generalize n % 65536 :: n / 65536 % 65536 :: List.replicate 14 0 = R at *
  apply evVal_ex
  apply Exists.intro
  rw [evFun_fn (fn := a70) rfl]
  simp only [a70, ↓steps_chunk, envOf, evCode_skip, evCode_exit, evCode_seq, fs_blockS, fs_blockR, fs_blockC, fs_blockK, fs_blockB, evCode_ret, quiet, keep_nil, keep_cons, fs_cond, fs_region, fs_regionQ, quiet2_eq, lastOf_nil, lastOf_cons, List.take_succ_cons, List.take_zero, List.drop_succ_cons, List.drop_zero, Int.reduceBEq, Int.reduceBNe,  fs_nil, fs_guard, fs_move, fs_pick, fs_alloc, fs_box, fs_load, fs_store, fs_bin, fs_eqv, fs_isNil, fs_un, fs_conv, fs_convStr, fs_field, fs_index, fs_indexStr, fs_build, fs_buildSlice, fs_fieldAddr, fs_indexAddr, fs_indexSl, fs_sliceArr, fs_sliceSl, fs_sliceStr, fs_makeSlice, fs_extract, fs_mkIface, fs_mkFunc, fs_nilCheck, fs_s2ap, fs_len, fs_minmax, fs_s2b, fs_b2s, fs_append, fs_copy, fs_callW, fs_callR, fs_callv, opd_tmp, opd_const, opd_func, opds_nil, opds_cons, opdOpt_none, opdOpt_some, opdParts_nil, opdParts_cons, get_miss, vPick_t, vPick_f, vEq_agg, vEq_aggN, vEq_bool, vEq_boolN, vConv_int, vStr_s, vField_agg, vIndex_agg, vIndexStr_s, vFieldAddr_p, vIndexAddr_p, vIndexSl_s, vSliceArr_p, vSliceSl_s, vSliceSl_n, vSliceStr_s, vExtract_t, vNilCheck_p, vS2ap_s, vLen_s, vLen_str, vMin_i, vMax_i, vLoad_p, vStore_p, baseP_p, vB2s_s, vMake_i, vS2b_s, callee_f, liveAt_eq, storeAt_eq, partL_none, partL_some, natIn_none, natIn_int, bounds3_two, bin_add, bin_sub, bin_mul, bin_quo, bin_rem, bin_and, bin_or, bin_xor, bin_andNot, bin_eql, bin_neq, bin_lss, bin_leq, bin_gtr, bin_geq, bin_shl, bin_shr, bin_sadd, bin_seql, bin_sneq, un_not, un_neg, un_xor, after_some, put_some, put_none, res_nil, res_val, res_var, packed_one, packed_two, merge_nil, merge_ge, rf_tup2, rfIn_int, rfIn_bool, rfIn_u8s, rf_str, rfIn_str, ↓gate_true, gd_bool, gd_ut, gd_uf, ↓guardW_tt, ↓guardW_ff, ↓guardW_tf, ↓guardW_ft, ↓keepW_some, ↓qElseW_some, ↓get_hit, ↓Option.bind_some, ↓if_true, ↓if_false, List.nil_append, List.cons_append, List.all_nil, List.all_cons, List.isEmpty_nil, reduceCtorEq, Bool.false_eq_true, Nat.reduceEqDiff, beq_self_eq_true, bne_self_eq_false, Bool.not_true, Bool.not_false, Int.natCast_nonneg, Nat.lt_irrefl, false_and, Int.reduceEq, rf_int, rf_bool, rf_tuple_ints, rf_u8s, arr_list, toList2, Bool.and_self, Nat.not_lt_zero, Nat.sub_zero, Nat.zero_le, Nat.le_add_right, cells_agg, cells_agg_size, cells_int, cells_int_size, okV_int, okV_bool, okV_str, okV_agg, okV_ptr, okV_slice, okV_func, okV_nilFunc, okV_iface, okV_nilIface, cells_bool, cells_bool_size, cells_ptr, cells_ptr_size, cells_slice, cells_slice_size, cells_str, cells_str_size, eq_self, wrapI64_small, Int.natCast_zero, Int.natCast_one, Int.cast_ofNat_Int, List.length_nil, List.length_cons, List.getElem?_cons_zero, List.getElem?_cons_succ, List.set_cons_zero, List.set_cons_succ, Nat.zero_add, Nat.add_zero, Nat.mul_one, Nat.zero_mul, Int.toNat_natCast, Int.toNat_zero, Int.lt_irrefl, Int.le_refl, Nat.le_refl, and_self, true_and, and_true, decide_true, decide_false, Int.reduceLE, Int.reduceLT, Int.reduceAdd, Int.reduceMul, Int.reduceSub, Int.reduceTDiv, Int.reduceTMod, Int.reduceNeg, Int.reduceToNat, Int.reduceGT, Int.reduceGE, Int.reducePow, Nat.reduceAdd, Nat.reduceMul, Nat.reduceSub, Nat.reduceDiv, Nat.reduceMod, Nat.reducePow, Nat.reduceLT, Nat.reduceLeDiff, Nat.min_self, ge_iff_le, gt_iff_lt, Option.isNone_none, Option.isSome_none, Option.isNone_some, Option.isSome_some, Bool.and_true, Bool.true_and, Bool.and_false, Bool.false_and, not_true_eq_false, not_false_eq_true, or_true, true_or, false_or, or_false, hget0, hgetK, hset0, hsetK, splice_single, splice_whole, take_whole, List.getElem?_nil, List.length_append, List.append_assoc, hz, hf, e1, e2, e3, w1, w2, w3, List.length_replicate, take_all, eV_cells, eV_size, eV_ok, eV_fold, ns_len, hl, lz, rf_eV]
  rfl
theorem pf2_step {n i x : Nat} {o : List Nat} (h : o.length = i) (hi : i < n) : (o ++ List.replicate (n - i) 0).set i x = (o ++ [x]) ++ List.replicate (n - (i + 1)) 0 := by
  rw [List.set_append_right _ _ (by omega), h, Nat.sub_self]
  have e2 : n - i = (n - (i + 1)) + 1 := by omega
  rw [e2, List.replicate_succ, List.set_cons_zero]
  simp
theorem pf2_len {n i : Nat} {o : List Nat} (h : o.length = i) (hi : i ≤ n) : (o ++ List.replicate (n - i) 0).length = n := by simp; omega
theorem num_snoc (B : Nat) (o : List Nat) (x : Nat) : num B (o ++ [x]) = num B o + B ^ o.length * x := by
  rw [num_append]; simp [num]
def rmI (a b o : List Nat) (r : Nat) (i : Int) (ex : Env) : St := ⟨[(2, .pointer (some ⟨0, 0, none⟩)), (3, .pointer (some ⟨1, 0, none⟩)), (4, .pointer (some ⟨2, 0, none⟩)), (5, .pointer (some ⟨3, 0, none⟩)), (6, .int .u64 r), (7, .int .i64 i)] ++ ex, [⟨ns .u64 a, true, true, true, 1⟩, ⟨ns .u64 b, true, true, true, 1⟩, ⟨ns .u64 zero16, true, true, true, 1⟩, ⟨ns .u64 o, true, true, true, 1⟩], []⟩
theorem rm_body {a b o : List Nat} {i r : Nat} (ha : Nm a) (hb : Nm b) (hi : i < 16) (ho : o.length = i) (hr : r ≤ 1) (xo : ∀ x ∈ o, x < 65536)
    (hn : num 65536 (a.take i) + 65536 ^ i * r = num 65536 (b.take i) + num 65536 o) :
    ∃ x r', evCode T 0 a90_l0 (rmI a b (o ++ List.replicate (16 - i) 0) r i []) = some (.normal, rmI a b ((o ++ [x]) ++ List.replicate (16 - (i + 1)) 0) r' ((i + 1 : Nat) : Int) []) ∧ x < 65536 ∧ r' ≤ 1 ∧
      num 65536 (a.take (i + 1)) + 65536 ^ (i + 1) * r' = num 65536 (b.take (i + 1)) + num 65536 (o ++ [x]) := by
  obtain ⟨x, hx⟩ : ∃ x, a[i]? = some x := ⟨_, List.getElem?_eq_getElem (by rw [ha.len]; omega)⟩
  obtain ⟨y, hy⟩ : ∃ y, b[i]? = some y := ⟨_, List.getElem?_eq_getElem (by rw [hb.len]; omega)⟩
  have hx' := ha.lt x (List.mem_of_getElem? hx)
  have hy' := hb.lt y (List.mem_of_getElem? hy)
  refine ⟨(x + 65536 - y - r) % 65536, 1 - (x + 65536 - y - r) / 65536, ?_, by omega, by omega, ?_⟩
  · have hset := ns_set .u64 (o ++ List.replicate (16 - i) 0) i ((x + 65536 - y - r) % 65536)
    rw [pf2_step ho hi] at hset
    have hlen := pf2_len ho (Nat.le_of_lt hi)
    have hxc := ns_get (k := .u64) hx
    have hyc := ns_get (k := .u64) hy
    have l1 := ha.len
    have l2 := hb.len
    have w1 : IntKind.i64.wrap ((i : Int) + 1) = ((i + 1 : Nat) : Int) := wi_add (b := 1) (by omega)
    have w2 : IntKind.u64.wrap ((x : Int) + 65536) = ((x + 65536 : Nat) : Int) := w64_add (b := 65536) (by omega)
    have w3 : IntKind.u64.wrap (((x + 65536 : Nat) : Int) - (y : Int)) = ((x + 65536 - y : Nat) : Int) := w64_sub (by omega) (by omega)
    have w4 : IntKind.u64.wrap (((x + 65536 - y : Nat) : Int) - (r : Int)) = ((x + 65536 - y - r : Nat) : Int) := w64_sub (by omega) (by omega)
    have w5 : (((x + 65536 - y - r : Nat) : Int)).tmod 65536 = (((x + 65536 - y - r) % 65536 : Nat) : Int) := rfl
    have w6 : IntKind.u64.wrap ((((x + 65536 - y - r : Nat) : Int)).tdiv 65536) = (((x + 65536 - y - r) / 65536 : Nat) : Int) := w64n (n := (x + 65536 - y - r) / 65536) (by omega)
    have w7 : IntKind.u64.wrap (1 - (((x + 65536 - y - r) / 65536 : Nat) : Int)) = ((1 - (x + 65536 - y - r) / 65536 : Nat) : Int) := w64_sub (a := 1) (by omega) (by omega)
    have e1 : ((i : Int) < 16) = True := eq_true (by omega)
    have e4 : (i ≤ 15) = True := eq_true (by omega)
    generalize (o ++ List.replicate (16 - i) 0) = O at *
    generalize (o ++ [(x + 65536 - y - r) % 65536] ++ List.replicate (16 - (i + 1)) 0) = O' at *
    generalize (x + 65536 - y - r) / 65536 = q at *
    generalize (x + 65536 - y - r) % 65536 = m at *
    generalize x + 65536 - y - r = v1 at *
    generalize x + 65536 - y = v2 at *
    generalize x + 65536 = v3 at *
    generalize 1 - q = v4 at *
    generalize i + 1 = i1 at *
    simp only [rmI, a90_l0, envOf, evCode_skip, evCode_exit, evCode_seq, fs_blockS, fs_blockR, fs_blockC, fs_blockK, fs_blockB, evCode_ret, quiet, keep_nil, keep_cons, fs_cond, fs_region, fs_regionQ, quiet2_eq, lastOf_nil, lastOf_cons, List.take_succ_cons, List.take_zero, List.drop_succ_cons, List.drop_zero, Int.reduceBEq, Int.reduceBNe,  fs_nil, fs_guard, fs_move, fs_pick, fs_alloc, fs_box, fs_load, fs_store, fs_bin, fs_eqv, fs_isNil, fs_un, fs_conv, fs_convStr, fs_field, fs_index, fs_indexStr, fs_build, fs_buildSlice, fs_fieldAddr, fs_indexAddr, fs_indexSl, fs_sliceArr, fs_sliceSl, fs_sliceStr, fs_makeSlice, fs_extract, fs_mkIface, fs_mkFunc, fs_nilCheck, fs_s2ap, fs_len, fs_minmax, fs_s2b, fs_b2s, fs_append, fs_copy, fs_callW, fs_callR, fs_callv, opd_tmp, opd_const, opd_func, opds_nil, opds_cons, opdOpt_none, opdOpt_some, opdParts_nil, opdParts_cons, get_miss, vPick_t, vPick_f, vEq_agg, vEq_aggN, vEq_bool, vEq_boolN, vConv_int, vStr_s, vField_agg, vIndex_agg, vIndexStr_s, vFieldAddr_p, vIndexAddr_p, vIndexSl_s, vSliceArr_p, vSliceSl_s, vSliceSl_n, vSliceStr_s, vExtract_t, vNilCheck_p, vS2ap_s, vLen_s, vLen_str, vMin_i, vMax_i, vLoad_p, vStore_p, baseP_p, vB2s_s, vMake_i, vS2b_s, callee_f, liveAt_eq, storeAt_eq, partL_none, partL_some, natIn_none, natIn_int, bounds3_two, bin_add, bin_sub, bin_mul, bin_quo, bin_rem, bin_and, bin_or, bin_xor, bin_andNot, bin_eql, bin_neq, bin_lss, bin_leq, bin_gtr, bin_geq, bin_shl, bin_shr, bin_sadd, bin_seql, bin_sneq, un_not, un_neg, un_xor, after_some, put_some, put_none, res_nil, res_val, res_var, packed_one, packed_two, merge_nil, merge_ge, rf_tup2, rfIn_int, rfIn_bool, rfIn_u8s, rf_str, rfIn_str, ↓gate_true, gd_bool, gd_ut, gd_uf, ↓guardV_tt, ↓guardV_ff, ↓guardV_tf, ↓guardV_ft, ↓keepV_some, ↓qElse_some, ↓get_hit, ↓Option.bind_some, ↓if_true, ↓if_false, List.nil_append, List.cons_append, List.all_nil, List.all_cons, List.isEmpty_nil, reduceCtorEq, Bool.false_eq_true, Nat.reduceEqDiff, beq_self_eq_true, bne_self_eq_false, Bool.not_true, Bool.not_false, Int.natCast_nonneg, Nat.lt_irrefl, false_and, Int.reduceEq, rf_int, rf_bool, rf_tuple_ints, rf_u8s, arr_list, toList2, Bool.and_self, Nat.not_lt_zero, Nat.sub_zero, Nat.zero_le, Nat.le_add_right, cells_agg, cells_agg_size, cells_int, cells_int_size, okV_int, okV_bool, okV_str, okV_agg, okV_ptr, okV_slice, okV_func, okV_nilFunc, okV_iface, okV_nilIface, cells_bool, cells_bool_size, cells_ptr, cells_ptr_size, cells_slice, cells_slice_size, cells_str, cells_str_size, eq_self, wrapI64_small, Int.natCast_zero, Int.natCast_one, Int.cast_ofNat_Int, List.length_nil, List.length_cons, List.getElem?_cons_zero, List.getElem?_cons_succ, List.set_cons_zero, List.set_cons_succ, Nat.zero_add, Nat.add_zero, Nat.mul_one, Nat.zero_mul, Int.toNat_natCast, Int.toNat_zero, Int.lt_irrefl, Int.le_refl, Nat.le_refl, and_self, true_and, and_true, decide_true, decide_false, Int.reduceLE, Int.reduceLT, Int.reduceAdd, Int.reduceMul, Int.reduceSub, Int.reduceTDiv, Int.reduceTMod, Int.reduceNeg, Int.reduceToNat, Int.reduceGT, Int.reduceGE, Int.reducePow, Nat.reduceAdd, Nat.reduceMul, Nat.reduceSub, Nat.reduceDiv, Nat.reduceMod, Nat.reducePow, Nat.reduceLT, Nat.reduceLeDiff, Nat.min_self, ge_iff_le, gt_iff_lt, Option.isNone_none, Option.isSome_none, Option.isNone_some, Option.isSome_some, Bool.and_true, Bool.true_and, Bool.and_false, Bool.false_and, not_true_eq_false, not_false_eq_true, or_true, true_or, false_or, or_false, hget0, hgetK, hset0, hsetK, splice_single, splice_whole, take_whole, List.getElem?_nil, List.length_append, List.append_assoc, hxc, hyc, w1, w2, w3, w4, w5, w6, w7, e1, e4, hset, ns_len, hlen, l1, l2]
  · rw [num_take hx, num_take hy, num_snoc, ho]
    have h : x + 65536 * (1 - (x + 65536 - y - r) / 65536) = y + r + (x + 65536 - y - r) % 65536 := by omega
    generalize (x + 65536 - y - r) % 65536 = m at *
    generalize 1 - (x + 65536 - y - r) / 65536 = q at *
    have h2 := congrArg (fun t => t * 65536 ^ i) h
    simp only [Nat.add_mul] at h2
    rw [Nat.pow_succ]
    generalize 65536 ^ i = p at *
    rw [Nat.mul_comm p r] at hn
    rw [Nat.mul_assoc p, Nat.mul_comm p (65536 * q), Nat.mul_comm p m]
    omega
theorem rminus_v {a b : List Nat} (ha : Nm a) (hb : Nm b) (h : num 65536 b ≤ num 65536 a) : evVal T 90 [eV a, eV b] = some (eV (dig 65536 16 (num 65536 a - num 65536 b))) := by
  obtain ⟨st, hl, o, r, rfl, h1, h2, h3, h4⟩ := block_inv (T := T) (base := 0) (id := 0) (body := a90_l0)
    (fun i st => ∃ (o : List Nat) (r : Nat), st = rmI a b (o ++ List.replicate (16 - i) 0) r i [] ∧ o.length = i ∧ r ≤ 1 ∧ (∀ x ∈ o, x < 65536) ∧ num 65536 (a.take i) + 65536 ^ i * r = num 65536 (b.take i) + num 65536 o)
    (Q := fun st => ∃ (o : List Nat) (r : Nat), st = rmI a b o r 16 [(11, .bool false)] ∧ o.length = 16 ∧ r ≤ 1 ∧ (∀ x ∈ o, x < 65536) ∧ num 65536 a + 65536 ^ 16 * r = num 65536 b + num 65536 o)
    16 (s := rmI a b zero16 0 0 []) ⟨[], 0, rfl, rfl, by omega, by simp, by simp [num]⟩
    (fun i st hi hs => by
      obtain ⟨o, r, rfl, h1, h2, h3, h4⟩ := hs
      obtain ⟨x, r', g1, g2, g3, g4⟩ := rm_body ha hb hi h1 h2 h3 h4
      refine ⟨_, g1, o ++ [x], r', rfl, by simp [h1], g3, ?_, g4⟩
      intro y hy
      rcases List.mem_append.1 hy with hy | hy
      · exact h3 y hy
      · rw [List.mem_singleton.1 hy]; exact g2)
    (fun st hs => by
      obtain ⟨o, r, rfl, h1, h2, h3, h4⟩ := hs
      rw [List.take_of_length_le (by rw [ha.len]; omega), List.take_of_length_le (by rw [hb.len]; omega)] at h4
      refine ⟨_, ?_, o, r, rfl, h1, h2, h3, h4⟩
      rw [Nat.sub_self, List.replicate_zero, List.append_nil]
      simp only [rmI, a90_l0, envOf, evCode_skip, evCode_exit, evCode_seq, fs_blockS, fs_blockR, fs_blockC, fs_blockK, fs_blockB, evCode_ret, quiet, keep_nil, keep_cons, fs_cond, fs_region, fs_regionQ, quiet2_eq, lastOf_nil, lastOf_cons, List.take_succ_cons, List.take_zero, List.drop_succ_cons, List.drop_zero, Int.reduceBEq, Int.reduceBNe,  fs_nil, fs_guard, fs_move, fs_pick, fs_alloc, fs_box, fs_load, fs_store, fs_bin, fs_eqv, fs_isNil, fs_un, fs_conv, fs_convStr, fs_field, fs_index, fs_indexStr, fs_build, fs_buildSlice, fs_fieldAddr, fs_indexAddr, fs_indexSl, fs_sliceArr, fs_sliceSl, fs_sliceStr, fs_makeSlice, fs_extract, fs_mkIface, fs_mkFunc, fs_nilCheck, fs_s2ap, fs_len, fs_minmax, fs_s2b, fs_b2s, fs_append, fs_copy, fs_callW, fs_callR, fs_callv, opd_tmp, opd_const, opd_func, opds_nil, opds_cons, opdOpt_none, opdOpt_some, opdParts_nil, opdParts_cons, get_miss, vPick_t, vPick_f, vEq_agg, vEq_aggN, vEq_bool, vEq_boolN, vConv_int, vStr_s, vField_agg, vIndex_agg, vIndexStr_s, vFieldAddr_p, vIndexAddr_p, vIndexSl_s, vSliceArr_p, vSliceSl_s, vSliceSl_n, vSliceStr_s, vExtract_t, vNilCheck_p, vS2ap_s, vLen_s, vLen_str, vMin_i, vMax_i, vLoad_p, vStore_p, baseP_p, vB2s_s, vMake_i, vS2b_s, callee_f, liveAt_eq, storeAt_eq, partL_none, partL_some, natIn_none, natIn_int, bounds3_two, bin_add, bin_sub, bin_mul, bin_quo, bin_rem, bin_and, bin_or, bin_xor, bin_andNot, bin_eql, bin_neq, bin_lss, bin_leq, bin_gtr, bin_geq, bin_shl, bin_shr, bin_sadd, bin_seql, bin_sneq, un_not, un_neg, un_xor, after_some, put_some, put_none, res_nil, res_val, res_var, packed_one, packed_two, merge_nil, merge_ge, rf_tup2, rfIn_int, rfIn_bool, rfIn_u8s, rf_str, rfIn_str, ↓gate_true, gd_bool, gd_ut, gd_uf, ↓guardV_tt, ↓guardV_ff, ↓guardV_tf, ↓guardV_ft, ↓keepV_some, ↓qElse_some, ↓get_hit, ↓Option.bind_some, ↓if_true, ↓if_false, List.nil_append, List.cons_append, List.all_nil, List.all_cons, List.isEmpty_nil, reduceCtorEq, Bool.false_eq_true, Nat.reduceEqDiff, beq_self_eq_true, bne_self_eq_false, Bool.not_true, Bool.not_false, Int.natCast_nonneg, Nat.lt_irrefl, false_and, Int.reduceEq, rf_int, rf_bool, rf_tuple_ints, rf_u8s, arr_list, toList2, Bool.and_self, Nat.not_lt_zero, Nat.sub_zero, Nat.zero_le, Nat.le_add_right, cells_agg, cells_agg_size, cells_int, cells_int_size, okV_int, okV_bool, okV_str, okV_agg, okV_ptr, okV_slice, okV_func, okV_nilFunc, okV_iface, okV_nilIface, cells_bool, cells_bool_size, cells_ptr, cells_ptr_size, cells_slice, cells_slice_size, cells_str, cells_str_size, eq_self, wrapI64_small, Int.natCast_zero, Int.natCast_one, Int.cast_ofNat_Int, List.length_nil, List.length_cons, List.getElem?_cons_zero, List.getElem?_cons_succ, List.set_cons_zero, List.set_cons_succ, Nat.zero_add, Nat.add_zero, Nat.mul_one, Nat.zero_mul, Int.toNat_natCast, Int.toNat_zero, Int.lt_irrefl, Int.le_refl, Nat.le_refl, and_self, true_and, and_true, decide_true, decide_false, Int.reduceLE, Int.reduceLT, Int.reduceAdd, Int.reduceMul, Int.reduceSub, Int.reduceTDiv, Int.reduceTMod, Int.reduceNeg, Int.reduceToNat, Int.reduceGT, Int.reduceGE, Int.reducePow, Nat.reduceAdd, Nat.reduceMul, Nat.reduceSub, Nat.reduceDiv, Nat.reduceMod, Nat.reducePow, Nat.reduceLT, Nat.reduceLeDiff, Nat.min_self, ge_iff_le, gt_iff_lt, Option.isNone_none, Option.isSome_none, Option.isNone_some, Option.isSome_some, Bool.and_true, Bool.true_and, Bool.and_false, Bool.false_and, not_true_eq_false, not_false_eq_true, or_true, true_or, false_or, or_false])
  have hN : Nm o := ⟨h1, h3⟩
  have hlt := hN.num_lt
  have hr : r = 0 := by
    rcases Nat.eq_zero_or_pos r with h0 | h0
    · exact h0
    · exfalso
      have : r = 1 := by omega
      subst this
      rw [show (65536 : Nat) ^ 16 = 2 ^ 256 by decide] at h4
      generalize (2 : Nat) ^ 256 = M at *
      omega
  subst hr
  have ho : o = dig 65536 16 (num 65536 a - num 65536 b) := by
    rw [hN.eq]
    refine congrArg (dig 65536 16) ?_
    generalize (65536 : Nat) ^ 16 = M at *
    omega
  rw [← ho]
  have hz := z16_eq
  have hf := z16_fill
  have lz := z16_len
  have l1 := ha.len
  have l2 := hb.len
  simp only [rmI, List.cons_append, List.nil_append, Int.natCast_zero] at hl
  generalize zero16 = Z at *
  apply evVal_ex
  apply Exists.intro
  rw [evFun_fn (fn := a90) rfl]
  simp only [a90, ↓steps_chunk, envOf, evCode_skip, evCode_exit, evCode_seq, fs_blockS, fs_blockR, fs_blockC, fs_blockK, fs_blockB, evCode_ret, quiet, keep_nil, keep_cons, fs_cond, fs_region, fs_regionQ, quiet2_eq, lastOf_nil, lastOf_cons, List.take_succ_cons, List.take_zero, List.drop_succ_cons, List.drop_zero, Int.reduceBEq, Int.reduceBNe,  fs_nil, fs_guard, fs_move, fs_pick, fs_alloc, fs_box, fs_load, fs_store, fs_bin, fs_eqv, fs_isNil, fs_un, fs_conv, fs_convStr, fs_field, fs_index, fs_indexStr, fs_build, fs_buildSlice, fs_fieldAddr, fs_indexAddr, fs_indexSl, fs_sliceArr, fs_sliceSl, fs_sliceStr, fs_makeSlice, fs_extract, fs_mkIface, fs_mkFunc, fs_nilCheck, fs_s2ap, fs_len, fs_minmax, fs_s2b, fs_b2s, fs_append, fs_copy, fs_callW, fs_callR, fs_callv, opd_tmp, opd_const, opd_func, opds_nil, opds_cons, opdOpt_none, opdOpt_some, opdParts_nil, opdParts_cons, get_miss, vPick_t, vPick_f, vEq_agg, vEq_aggN, vEq_bool, vEq_boolN, vConv_int, vStr_s, vField_agg, vIndex_agg, vIndexStr_s, vFieldAddr_p, vIndexAddr_p, vIndexSl_s, vSliceArr_p, vSliceSl_s, vSliceSl_n, vSliceStr_s, vExtract_t, vNilCheck_p, vS2ap_s, vLen_s, vLen_str, vMin_i, vMax_i, vLoad_p, vStore_p, baseP_p, vB2s_s, vMake_i, vS2b_s, callee_f, liveAt_eq, storeAt_eq, partL_none, partL_some, natIn_none, natIn_int, bounds3_two, bin_add, bin_sub, bin_mul, bin_quo, bin_rem, bin_and, bin_or, bin_xor, bin_andNot, bin_eql, bin_neq, bin_lss, bin_leq, bin_gtr, bin_geq, bin_shl, bin_shr, bin_sadd, bin_seql, bin_sneq, un_not, un_neg, un_xor, after_some, put_some, put_none, res_nil, res_val, res_var, packed_one, packed_two, merge_nil, merge_ge, rf_tup2, rfIn_int, rfIn_bool, rfIn_u8s, rf_str, rfIn_str, ↓gate_true, gd_bool, gd_ut, gd_uf, ↓guardW_tt, ↓guardW_ff, ↓guardW_tf, ↓guardW_ft, ↓keepW_some, ↓qElseW_some, ↓get_hit, ↓Option.bind_some, ↓if_true, ↓if_false, List.nil_append, List.cons_append, List.all_nil, List.all_cons, List.isEmpty_nil, reduceCtorEq, Bool.false_eq_true, Nat.reduceEqDiff, beq_self_eq_true, bne_self_eq_false, Bool.not_true, Bool.not_false, Int.natCast_nonneg, Nat.lt_irrefl, false_and, Int.reduceEq, rf_int, rf_bool, rf_tuple_ints, rf_u8s, arr_list, toList2, Bool.and_self, Nat.not_lt_zero, Nat.sub_zero, Nat.zero_le, Nat.le_add_right, cells_agg, cells_agg_size, cells_int, cells_int_size, okV_int, okV_bool, okV_str, okV_agg, okV_ptr, okV_slice, okV_func, okV_nilFunc, okV_iface, okV_nilIface, cells_bool, cells_bool_size, cells_ptr, cells_ptr_size, cells_slice, cells_slice_size, cells_str, cells_str_size, eq_self, wrapI64_small, Int.natCast_zero, Int.natCast_one, Int.cast_ofNat_Int, List.length_nil, List.length_cons, List.getElem?_cons_zero, List.getElem?_cons_succ, List.set_cons_zero, List.set_cons_succ, Nat.zero_add, Nat.add_zero, Nat.mul_one, Nat.zero_mul, Int.toNat_natCast, Int.toNat_zero, Int.lt_irrefl, Int.le_refl, Nat.le_refl, and_self, true_and, and_true, decide_true, decide_false, Int.reduceLE, Int.reduceLT, Int.reduceAdd, Int.reduceMul, Int.reduceSub, Int.reduceTDiv, Int.reduceTMod, Int.reduceNeg, Int.reduceToNat, Int.reduceGT, Int.reduceGE, Int.reducePow, Nat.reduceAdd, Nat.reduceMul, Nat.reduceSub, Nat.reduceDiv, Nat.reduceMod, Nat.reducePow, Nat.reduceLT, Nat.reduceLeDiff, Nat.min_self, ge_iff_le, gt_iff_lt, Option.isNone_none, Option.isSome_none, Option.isNone_some, Option.isSome_some, Bool.and_true, Bool.true_and, Bool.and_false, Bool.false_and, not_true_eq_false, not_false_eq_true, or_true, true_or, false_or, or_false, hget0, hgetK, hset0, hsetK, splice_single, splice_whole, take_whole, List.getElem?_nil, List.length_append, List.append_assoc, hz, hf, hl, List.length_replicate, take_all, eV_cells, eV_size, eV_ok, eV_fold, ns_len, l1, l2, h1, lz, rf_eV]
  rfl
end Go.Ev.Ytaceeoghjgggjaa

/- What the law leans on, part 4. -/
import Derived.Test.YtaceeoghjgggjaaPTi3
set_option linter.unusedSimpArgs false
set_option linter.unusedVariables false
set_option linter.unusedSimpArgs false
set_option linter.unusedVariables false
namespace Go.Ev.Ytaceeoghjgggjaa
open Go Go.Ev
attribute [local congr] bind_congr2 ite_congr2 qElse_congr gate_congr guardV_congr
set_option maxRecDepth 100000
def RepL (l : List Nat) (p : Go.Cv.Pt Go.Fp.P Go.Fp.d) : Prop := ∃ x y z t, l = pL x y z t ∧ Rep x y z t p
theorem RepL.len {l : List Nat} {p : Go.Cv.Pt Go.Fp.P Go.Fp.d} (h : RepL l p) : l.length = 20 := by
  obtain ⟨x, y, z, t, rfl, h⟩ := h
  exact pL_len h.ex h.ey h.ez h.et
theorem plusL {l m d : List Nat} {p q : Go.Cv.Pt Go.Fp.P Go.Fp.d} (h1 : RepL l p) (h2 : RepL m q) (Ed : El d (2 ^ 52)) (hd : fe d = Go.Fp.d) : ∃ r, evVal T 54 [eV l, eV m, eV d] = some (eV r) ∧ RepL r (padd p q) := by
  obtain ⟨x, y, z, t, rfl, h1⟩ := h1
  obtain ⟨x2, y2, z2, t2, rfl, h2⟩ := h2
  obtain ⟨a, b, c, e, h3, h4⟩ := h1.plus h2 Ed hd
  exact ⟨pL a b c e, h3, a, b, c, e, rfl, h4⟩
theorem twiceL {l : List Nat} {p : Go.Cv.Pt Go.Fp.P Go.Fp.d} (h1 : RepL l p) : ∃ r, evVal T 53 [eV l] = some (eV r) ∧ RepL r (padd p p) := by
  obtain ⟨x, y, z, t, rfl, h1⟩ := h1
  obtain ⟨a, b, c, e, h3, h4⟩ := h1.twice
  exact ⟨pL a b c e, h3, a, b, c, e, rfl, h4⟩
def dK : List Nat := dig 256 32 Go.Fp.dN
theorem dK_num : num 256 dK = Go.Fp.dN := by decide +kernel
theorem dK_lt : ∀ x ∈ dK, x < 256 := fun _ h => dig_lt (by decide) h
theorem factor_v : ∃ r, evVal T 52 [] = some (eV r) ∧ El r (2 ^ 52) ∧ fe r = Go.Fp.d := by
  have h := of_v (k := dK) (dig_len _ _ _) dK_lt
  refine ⟨dig (2 ^ 51) 5 (num 256 dK % 2 ^ 255), ?_, of_el, ?_⟩
  rotate_left
  · unfold fe
    rw [of_v51, dK_num]
    rfl
  · have hl : (dig (2 ^ 51) 5 (num 256 dK % 2 ^ 255)).length = 5 := dig_len _ _ _
    have hf : fillL (List.replicate 32 (Value.int .u8 0)) [(0, 1, .int .u8 163), (1, 1, .int .u8 120), (2, 1, .int .u8 89), (3, 1, .int .u8 19), (4, 1, .int .u8 202), (5, 1, .int .u8 77), (6, 1, .int .u8 235), (7, 1, .int .u8 117), (8, 1, .int .u8 171), (9, 1, .int .u8 216), (10, 1, .int .u8 65), (11, 1, .int .u8 65), (12, 1, .int .u8 77), (13, 1, .int .u8 10), (14, 1, .int .u8 112), (15, 1, .int .u8 0), (16, 1, .int .u8 152), (17, 1, .int .u8 232), (18, 1, .int .u8 121), (19, 1, .int .u8 119), (20, 1, .int .u8 121), (21, 1, .int .u8 64), (22, 1, .int .u8 199), (23, 1, .int .u8 140), (24, 1, .int .u8 115), (25, 1, .int .u8 254), (26, 1, .int .u8 111), (27, 1, .int .u8 43), (28, 1, .int .u8 238), (29, 1, .int .u8 108), (30, 1, .int .u8 3), (31, 1, .int .u8 82)] = some (u8s dK) := by
      have : dK = [163, 120, 89, 19, 202, 77, 235, 117, 171, 216, 65, 65, 77, 10, 112, 0, 152, 232, 121, 119, 121, 64, 199, 140, 115, 254, 111, 43, 238, 108, 3, 82] := by decide +kernel
      rw [this]; rfl
    generalize dig (2 ^ 51) 5 (num 256 dK % 2 ^ 255) = D at *
    apply evVal_ex
    apply Exists.intro
    rw [evFun_fn (fn := a52) rfl]
    simp only [a52, envOf, evCode_skip, evCode_exit, evCode_seq, fs_blockS, fs_blockR, fs_blockC, fs_blockK, fs_blockB, evCode_ret, quiet, keep_nil, keep_cons, fs_cond, fs_region, fs_regionQ, quiet2_eq, lastOf_nil, lastOf_cons, List.take_succ_cons, List.take_zero, List.drop_succ_cons, List.drop_zero, Int.reduceBEq, Int.reduceBNe,  fs_nil, fs_guard, fs_move, fs_pick, fs_alloc, fs_box, fs_load, fs_store, fs_bin, fs_eqv, fs_isNil, fs_un, fs_conv, fs_convStr, fs_field, fs_index, fs_indexStr, fs_build, fs_buildSlice, fs_fieldAddr, fs_indexAddr, fs_indexSl, fs_sliceArr, fs_sliceSl, fs_sliceStr, fs_makeSlice, fs_extract, fs_mkIface, fs_mkFunc, fs_nilCheck, fs_s2ap, fs_len, fs_minmax, fs_s2b, fs_b2s, fs_append, fs_copy, fs_callW, fs_callR, fs_callv, opd_tmp, opd_const, opd_func, opds_nil, opds_cons, opdOpt_none, opdOpt_some, opdParts_nil, opdParts_cons, get_miss, vPick_t, vPick_f, vEq_agg, vEq_aggN, vEq_bool, vEq_boolN, vConv_int, vStr_s, vField_agg, vIndex_agg, vIndexStr_s, vFieldAddr_p, vIndexAddr_p, vIndexSl_s, vSliceArr_p, vSliceSl_s, vSliceSl_n, vSliceStr_s, vExtract_t, vNilCheck_p, vS2ap_s, vLen_s, vLen_str, vMin_i, vMax_i, vLoad_p, vStore_p, baseP_p, vB2s_s, vMake_i, vS2b_s, callee_f, liveAt_eq, storeAt_eq, partL_none, partL_some, natIn_none, natIn_int, bounds3_two, bin_add, bin_sub, bin_mul, bin_quo, bin_rem, bin_and, bin_or, bin_xor, bin_andNot, bin_eql, bin_neq, bin_lss, bin_leq, bin_gtr, bin_geq, bin_shl, bin_shr, bin_sadd, bin_seql, bin_sneq, un_not, un_neg, un_xor, after_some, put_some, put_none, res_nil, res_val, res_var, packed_one, packed_two, merge_nil, merge_ge, rf_tup2, rfIn_int, rfIn_bool, rfIn_u8s, rf_str, rfIn_str, ↓gate_true, gd_bool, gd_ut, gd_uf, ↓guardV_tt, ↓guardV_ff, ↓guardV_tf, ↓guardV_ft, ↓keepV_some, ↓qElse_some, ↓get_hit, ↓Option.bind_some, ↓if_true, ↓if_false, List.nil_append, List.cons_append, List.all_nil, List.all_cons, List.isEmpty_nil, reduceCtorEq, Bool.false_eq_true, Nat.reduceEqDiff, beq_self_eq_true, bne_self_eq_false, Bool.not_true, Bool.not_false, Int.natCast_nonneg, Nat.lt_irrefl, false_and, Int.reduceEq, rf_int, rf_bool, rf_tuple_ints, rf_u8s, arr_list, toList2, Bool.and_self, Nat.not_lt_zero, Nat.sub_zero, Nat.zero_le, Nat.le_add_right, cells_agg, cells_agg_size, cells_int, cells_int_size, okV_int, okV_bool, okV_str, okV_agg, okV_ptr, okV_slice, okV_func, okV_nilFunc, okV_iface, okV_nilIface, cells_bool, cells_bool_size, cells_ptr, cells_ptr_size, cells_slice, cells_slice_size, cells_str, cells_str_size, eq_self, wrapI64_small, Int.natCast_zero, Int.natCast_one, Int.cast_ofNat_Int, List.length_nil, List.length_cons, List.getElem?_cons_zero, List.getElem?_cons_succ, List.set_cons_zero, List.set_cons_succ, Nat.zero_add, Nat.add_zero, Nat.mul_one, Nat.zero_mul, Int.toNat_natCast, Int.toNat_zero, Int.lt_irrefl, Int.le_refl, Nat.le_refl, and_self, true_and, and_true, decide_true, decide_false, Int.reduceLE, Int.reduceLT, Int.reduceAdd, Int.reduceMul, Int.reduceSub, Int.reduceTDiv, Int.reduceTMod, Int.reduceNeg, Int.reduceToNat, Int.reduceGT, Int.reduceGE, Int.reducePow, Nat.reduceAdd, Nat.reduceMul, Nat.reduceSub, Nat.reduceDiv, Nat.reduceMod, Nat.reducePow, Nat.reduceLT, Nat.reduceLeDiff, Nat.min_self, ge_iff_le, gt_iff_lt, Option.isNone_none, Option.isSome_none, Option.isNone_some, Option.isSome_some, Bool.and_true, Bool.true_and, Bool.and_false, Bool.false_and, not_true_eq_false, not_false_eq_true, or_true, true_or, false_or, or_false, hget0, hgetK, hset0, hsetK, splice_single, splice_whole, take_whole, List.getElem?_nil, List.length_append, List.append_assoc, hf, h, List.length_replicate, take_all, eV_cells, eV_size, eV_ok, eV_fold, rf_eV, ns_len, hl]
    rfl
theorem one_v : evVal T 50 [.int .u32 1] = some (eV [1, 0, 0, 0, 0]) := small_v (n := 1) (by decide)
theorem zero_el5 : El [0, 0, 0, 0, 0] (2 ^ 52) := small_el (by decide)
theorem zero_fe : fe [0, 0, 0, 0, 0] = 0 := by rw [small_fe]; rfl
theorem zero_v : ∃ r, evVal T 30 [] = some (eV r) ∧ RepL r pzero := by
  refine ⟨pL [0, 0, 0, 0, 0] [1, 0, 0, 0, 0] [1, 0, 0, 0, 0] [0, 0, 0, 0, 0], ?_, _, _, _, _, rfl, zero_el5, one_el, one_el, zero_el5, ?_, ?_, ?_, ?_⟩
  · have hf : fillL (List.replicate 20 (Value.int .u64 0)) [(5, 5, eV [1, 0, 0, 0, 0]), (10, 5, eV [1, 0, 0, 0, 0])] = some (ns .u64 (pL [0, 0, 0, 0, 0] [1, 0, 0, 0, 0] [1, 0, 0, 0, 0] [0, 0, 0, 0, 0])) := rfl
    have hl : (pL [0, 0, 0, 0, 0] [1, 0, 0, 0, 0] [1, 0, 0, 0, 0] [0, 0, 0, 0, 0]).length = 20 := rfl
    have hv := one_v
    generalize pL [0, 0, 0, 0, 0] [1, 0, 0, 0, 0] [1, 0, 0, 0, 0] [0, 0, 0, 0, 0] = Z at *
    generalize ([1, 0, 0, 0, 0] : List Nat) = O at *
    apply evVal_ex
    apply Exists.intro
    rw [evFun_fn (fn := a30) rfl]
    simp only [a30, envOf, evCode_skip, evCode_exit, evCode_seq, fs_blockS, fs_blockR, fs_blockC, fs_blockK, fs_blockB, evCode_ret, quiet, keep_nil, keep_cons, fs_cond, fs_region, fs_regionQ, quiet2_eq, lastOf_nil, lastOf_cons, List.take_succ_cons, List.take_zero, List.drop_succ_cons, List.drop_zero, Int.reduceBEq, Int.reduceBNe,  fs_nil, fs_guard, fs_move, fs_pick, fs_alloc, fs_box, fs_load, fs_store, fs_bin, fs_eqv, fs_isNil, fs_un, fs_conv, fs_convStr, fs_field, fs_index, fs_indexStr, fs_build, fs_buildSlice, fs_fieldAddr, fs_indexAddr, fs_indexSl, fs_sliceArr, fs_sliceSl, fs_sliceStr, fs_makeSlice, fs_extract, fs_mkIface, fs_mkFunc, fs_nilCheck, fs_s2ap, fs_len, fs_minmax, fs_s2b, fs_b2s, fs_append, fs_copy, fs_callW, fs_callR, fs_callv, opd_tmp, opd_const, opd_func, opds_nil, opds_cons, opdOpt_none, opdOpt_some, opdParts_nil, opdParts_cons, get_miss, vPick_t, vPick_f, vEq_agg, vEq_aggN, vEq_bool, vEq_boolN, vConv_int, vStr_s, vField_agg, vIndex_agg, vIndexStr_s, vFieldAddr_p, vIndexAddr_p, vIndexSl_s, vSliceArr_p, vSliceSl_s, vSliceSl_n, vSliceStr_s, vExtract_t, vNilCheck_p, vS2ap_s, vLen_s, vLen_str, vMin_i, vMax_i, vLoad_p, vStore_p, baseP_p, vB2s_s, vMake_i, vS2b_s, callee_f, liveAt_eq, storeAt_eq, partL_none, partL_some, natIn_none, natIn_int, bounds3_two, bin_add, bin_sub, bin_mul, bin_quo, bin_rem, bin_and, bin_or, bin_xor, bin_andNot, bin_eql, bin_neq, bin_lss, bin_leq, bin_gtr, bin_geq, bin_shl, bin_shr, bin_sadd, bin_seql, bin_sneq, un_not, un_neg, un_xor, after_some, put_some, put_none, res_nil, res_val, res_var, packed_one, packed_two, merge_nil, merge_ge, rf_tup2, rfIn_int, rfIn_bool, rfIn_u8s, rf_str, rfIn_str, ↓gate_true, gd_bool, gd_ut, gd_uf, ↓guardV_tt, ↓guardV_ff, ↓guardV_tf, ↓guardV_ft, ↓keepV_some, ↓qElse_some, ↓get_hit, ↓Option.bind_some, ↓if_true, ↓if_false, List.nil_append, List.cons_append, List.all_nil, List.all_cons, List.isEmpty_nil, reduceCtorEq, Bool.false_eq_true, Nat.reduceEqDiff, beq_self_eq_true, bne_self_eq_false, Bool.not_true, Bool.not_false, Int.natCast_nonneg, Nat.lt_irrefl, false_and, Int.reduceEq, rf_int, rf_bool, rf_tuple_ints, rf_u8s, arr_list, toList2, Bool.and_self, Nat.not_lt_zero, Nat.sub_zero, Nat.zero_le, Nat.le_add_right, cells_agg, cells_agg_size, cells_int, cells_int_size, okV_int, okV_bool, okV_str, okV_agg, okV_ptr, okV_slice, okV_func, okV_nilFunc, okV_iface, okV_nilIface, cells_bool, cells_bool_size, cells_ptr, cells_ptr_size, cells_slice, cells_slice_size, cells_str, cells_str_size, eq_self, wrapI64_small, Int.natCast_zero, Int.natCast_one, Int.cast_ofNat_Int, List.length_nil, List.length_cons, List.getElem?_cons_zero, List.getElem?_cons_succ, List.set_cons_zero, List.set_cons_succ, Nat.zero_add, Nat.add_zero, Nat.mul_one, Nat.zero_mul, Int.toNat_natCast, Int.toNat_zero, Int.lt_irrefl, Int.le_refl, Nat.le_refl, and_self, true_and, and_true, decide_true, decide_false, Int.reduceLE, Int.reduceLT, Int.reduceAdd, Int.reduceMul, Int.reduceSub, Int.reduceTDiv, Int.reduceTMod, Int.reduceNeg, Int.reduceToNat, Int.reduceGT, Int.reduceGE, Int.reducePow, Nat.reduceAdd, Nat.reduceMul, Nat.reduceSub, Nat.reduceDiv, Nat.reduceMod, Nat.reducePow, Nat.reduceLT, Nat.reduceLeDiff, Nat.min_self, ge_iff_le, gt_iff_lt, Option.isNone_none, Option.isSome_none, Option.isNone_some, Option.isSome_some, Bool.and_true, Bool.true_and, Bool.and_false, Bool.false_and, not_true_eq_false, not_false_eq_true, or_true, true_or, false_or, or_false, hget0, hgetK, hset0, hsetK, splice_single, splice_whole, take_whole, List.getElem?_nil, List.length_append, List.append_assoc, hf, hv, List.length_replicate, take_all, eV_cells, eV_size, eV_ok, eV_fold, rf_eV, ns_len, hl]
    rfl
  · rw [one_fe]; exact Go.Fp.one_ne
  · rw [zero_fe]; simp only [Go.Cv.Pt.zero]; grobner
  · rw [one_fe]; simp only [Go.Cv.Pt.zero]; grobner
  · rw [zero_fe]; simp only [Go.Cv.Pt.zero]; grobner
theorem pmul_step (p : Go.Cv.Pt Go.Fp.P Go.Fp.d) (m b : Nat) (hb : b < 2) : pmul (2 * m + b) p = if b = 1 then padd (padd (pmul m p) (pmul m p)) p else padd (pmul m p) (pmul m p) := by
  have h1 : pmul (2 * m) p = padd (pmul m p) (pmul m p) := by rw [show 2 * m = m + m by omega]; exact Go.Cv.mul_add Go.Fp.fld m m p
  by_cases h : b = 1
  · subst h
    rw [if_pos rfl]
    show padd (pmul (2 * m) p) p = _
    rw [h1]
  · have : b = 0 := by omega
    subst this
    rw [if_neg (by decide), Nat.add_zero, h1]
def muI (l k o d : List Nat) (R : Ob) (i : Int) (ex : Env) : St := ⟨[(2, .pointer (some ⟨0, 0, none⟩)), (3, .pointer (some ⟨1, 0, none⟩)), (4, .pointer (some ⟨2, 0, none⟩)), (5, .pointer (some ⟨3, 0, none⟩)), (6, .pointer (some ⟨4, 0, none⟩)), (7, .int .i64 i)] ++ ex, [⟨ns .u64 l, true, true, true, 1⟩, ⟨u8s k, true, true, true, 1⟩, R, ⟨ns .u64 o, true, true, true, 1⟩, ⟨ns .u64 d, true, true, true, 1⟩], []⟩
theorem mu_body {l k o d : List Nat} {R : Ob} {i : Nat} {p : Go.Cv.Pt Go.Fp.P Go.Fp.d} (hl : RepL l p) (lk : k.length = 32) (xk : ∀ x ∈ k, x < 256) (hi : i < 256) (Ed : El d (2 ^ 52)) (hd : fe d = Go.Fp.d) (ho : RepL o (pmul (num 256 k / 2 ^ (i + 1)) p)) :
    ∃ r, evCode T 0 a26_l0 (muI l k o d R i []) = some (.normal, muI l k r d R ((i : Int) - 1) []) ∧ RepL r (pmul (num 256 k / 2 ^ i) p) := by
  obtain ⟨b, hb⟩ : ∃ b, k[i / 8]? = some b := ⟨_, List.getElem?_eq_getElem (by omega)⟩
  have hbv := num_get (B := 256) (by decide) xk hb
  have hbc := u8s_get hb
  have hbit : b / 2 ^ (i % 8) % 2 = num 256 k / 2 ^ i % 2 := by
    rw [← hbv, show (256 : Nat) = 2 ^ 8 from rfl, bitOf (Nat.mod_lt _ (by decide)), Nat.div_add_mod]
  obtain ⟨r1, m1, g1⟩ := twiceL ho
  obtain ⟨r2, m2, g3⟩ := plusL g1 hl Ed hd
  have hlt := bit_lt (num 256 k) i
  have hnum : num 256 k / 2 ^ i = 2 * (num 256 k / 2 ^ (i + 1)) + num 256 k / 2 ^ i % 2 := by
    rw [Nat.pow_succ, ← Nat.div_div_eq_div_mul]
    omega
  have hstep := pmul_step p (num 256 k / 2 ^ (i + 1)) (num 256 k / 2 ^ i % 2) hlt
  rw [← hnum] at hstep
  have s1 : (2 : Int) ^ min (i % 8) IntKind.u8.bits = ((2 ^ (i % 8) : Nat) : Int) := pow_min (Nat.le_of_lt (Nat.mod_lt _ (by decide)))
  have w2 : IntKind.i64.wrap ((i / 8 : Nat) : Int) = ((i / 8 : Nat) : Int) := wrap_nat (by omega)
  have w3 : IntKind.i64.wrap ((i : Int) - 1) = (i : Int) - 1 := wrapI64_small (by omega) (by omega)
  have e1 : ((0 : Int) ≤ (i : Int)) = True := eq_true (by omega)
  have e3 : (((i / 8 : Nat) : Int) < 32) = True := eq_true (by omega)
  have e4 : (((i % 8 : Nat) : Int) < 0) = False := eq_false (by omega)
  have l1 := hl.len
  have l2 := ho.len
  have l3 := g1.len
  have l4 := g3.len
  have l5 := Ed.len
  generalize hB : num 256 k / 2 ^ i % 2 = B at *
  by_cases hB1 : B = 1
  · have hbq : ((B : Int) == 1) = true := by rw [hB1]; rfl
    rw [if_pos hB1] at hstep
    refine ⟨r2, ?_, by rw [hstep]; exact g3⟩
    simp only [muI, a26_l0, envOf, evCode_skip, evCode_exit, evCode_seq, fs_blockS, fs_blockR, fs_blockC, fs_blockK, fs_blockB, evCode_ret, quiet, keep_nil, keep_cons, fs_cond, fs_region, fs_regionQ, quiet2_eq, lastOf_nil, lastOf_cons, List.take_succ_cons, List.take_zero, List.drop_succ_cons, List.drop_zero, Int.reduceBEq, Int.reduceBNe,  fs_nil, fs_guard, fs_move, fs_pick, fs_alloc, fs_box, fs_load, fs_store, fs_bin, fs_eqv, fs_isNil, fs_un, fs_conv, fs_convStr, fs_field, fs_index, fs_indexStr, fs_build, fs_buildSlice, fs_fieldAddr, fs_indexAddr, fs_indexSl, fs_sliceArr, fs_sliceSl, fs_sliceStr, fs_makeSlice, fs_extract, fs_mkIface, fs_mkFunc, fs_nilCheck, fs_s2ap, fs_len, fs_minmax, fs_s2b, fs_b2s, fs_append, fs_copy, fs_callW, fs_callR, fs_callv, opd_tmp, opd_const, opd_func, opds_nil, opds_cons, opdOpt_none, opdOpt_some, opdParts_nil, opdParts_cons, get_miss, vPick_t, vPick_f, vEq_agg, vEq_aggN, vEq_bool, vEq_boolN, vConv_int, vStr_s, vField_agg, vIndex_agg, vIndexStr_s, vFieldAddr_p, vIndexAddr_p, vIndexSl_s, vSliceArr_p, vSliceSl_s, vSliceSl_n, vSliceStr_s, vExtract_t, vNilCheck_p, vS2ap_s, vLen_s, vLen_str, vMin_i, vMax_i, vLoad_p, vStore_p, baseP_p, vB2s_s, vMake_i, vS2b_s, callee_f, liveAt_eq, storeAt_eq, partL_none, partL_some, natIn_none, natIn_int, bounds3_two, bin_add, bin_sub, bin_mul, bin_quo, bin_rem, bin_and, bin_or, bin_xor, bin_andNot, bin_eql, bin_neq, bin_lss, bin_leq, bin_gtr, bin_geq, bin_shl, bin_shr, bin_sadd, bin_seql, bin_sneq, un_not, un_neg, un_xor, after_some, put_some, put_none, res_nil, res_val, res_var, packed_one, packed_two, merge_nil, merge_ge, rf_tup2, rfIn_int, rfIn_bool, rfIn_u8s, rf_str, rfIn_str, ↓gate_true, gd_bool, gd_ut, gd_uf, ↓guardV_tt, ↓guardV_ff, ↓guardV_tf, ↓guardV_ft, ↓keepV_some, ↓qElse_some, ↓get_hit, ↓Option.bind_some, ↓if_true, ↓if_false, List.nil_append, List.cons_append, List.all_nil, List.all_cons, List.isEmpty_nil, reduceCtorEq, Bool.false_eq_true, Nat.reduceEqDiff, beq_self_eq_true, bne_self_eq_false, Bool.not_true, Bool.not_false, Int.natCast_nonneg, Nat.lt_irrefl, false_and, Int.reduceEq, rf_int, rf_bool, rf_tuple_ints, rf_u8s, arr_list, toList2, Bool.and_self, Nat.not_lt_zero, Nat.sub_zero, Nat.zero_le, Nat.le_add_right, cells_agg, cells_agg_size, cells_int, cells_int_size, okV_int, okV_bool, okV_str, okV_agg, okV_ptr, okV_slice, okV_func, okV_nilFunc, okV_iface, okV_nilIface, cells_bool, cells_bool_size, cells_ptr, cells_ptr_size, cells_slice, cells_slice_size, cells_str, cells_str_size, eq_self, wrapI64_small, Int.natCast_zero, Int.natCast_one, Int.cast_ofNat_Int, List.length_nil, List.length_cons, List.getElem?_cons_zero, List.getElem?_cons_succ, List.set_cons_zero, List.set_cons_succ, Nat.zero_add, Nat.add_zero, Nat.mul_one, Nat.zero_mul, Int.toNat_natCast, Int.toNat_zero, Int.lt_irrefl, Int.le_refl, Nat.le_refl, and_self, true_and, and_true, decide_true, decide_false, Int.reduceLE, Int.reduceLT, Int.reduceAdd, Int.reduceMul, Int.reduceSub, Int.reduceTDiv, Int.reduceTMod, Int.reduceNeg, Int.reduceToNat, Int.reduceGT, Int.reduceGE, Int.reducePow, Nat.reduceAdd, Nat.reduceMul, Nat.reduceSub, Nat.reduceDiv, Nat.reduceMod, Nat.reducePow, Nat.reduceLT, Nat.reduceLeDiff, Nat.min_self, ge_iff_le, gt_iff_lt, Option.isNone_none, Option.isSome_none, Option.isNone_some, Option.isSome_some, Bool.and_true, Bool.true_and, Bool.and_false, Bool.false_and, not_true_eq_false, not_false_eq_true, or_true, true_or, false_or, or_false, hget0, hgetK, hset0, hsetK, splice_single, splice_whole, take_whole, List.getElem?_nil, List.length_append, List.append_assoc, n_add, n_mul, n_ladd, n_addl, n_lmul, n_mull, n_fdiv, n_fdivl, n_tdiv, n_tmod, n_w64, n_w32, n_w16, n_w8, n_sub64, n_lsub64, n_subl64, n_m32, n_m51, n_m1, n_m1b, n_m7b, p64_32, p64_51, p64_13, p8_7, hbc, hbit, s1, w2, w3, e1, e3, e4, m1, m2, hbq, take_all, eV_cells, eV_size, eV_ok, eV_fold, ns_len, l1, l2, l3, l4, l5, rf_eV]
  · have hbq : ((B : Int) == 1) = false := by
      have : B = 0 := by omega
      rw [this]; rfl
    rw [if_neg hB1] at hstep
    refine ⟨r1, ?_, by rw [hstep]; exact g1⟩
    simp only [muI, a26_l0, envOf, evCode_skip, evCode_exit, evCode_seq, fs_blockS, fs_blockR, fs_blockC, fs_blockK, fs_blockB, evCode_ret, quiet, keep_nil, keep_cons, fs_cond, fs_region, fs_regionQ, quiet2_eq, lastOf_nil, lastOf_cons, List.take_succ_cons, List.take_zero, List.drop_succ_cons, List.drop_zero, Int.reduceBEq, Int.reduceBNe,  fs_nil, fs_guard, fs_move, fs_pick, fs_alloc, fs_box, fs_load, fs_store, fs_bin, fs_eqv, fs_isNil, fs_un, fs_conv, fs_convStr, fs_field, fs_index, fs_indexStr, fs_build, fs_buildSlice, fs_fieldAddr, fs_indexAddr, fs_indexSl, fs_sliceArr, fs_sliceSl, fs_sliceStr, fs_makeSlice, fs_extract, fs_mkIface, fs_mkFunc, fs_nilCheck, fs_s2ap, fs_len, fs_minmax, fs_s2b, fs_b2s, fs_append, fs_copy, fs_callW, fs_callR, fs_callv, opd_tmp, opd_const, opd_func, opds_nil, opds_cons, opdOpt_none, opdOpt_some, opdParts_nil, opdParts_cons, get_miss, vPick_t, vPick_f, vEq_agg, vEq_aggN, vEq_bool, vEq_boolN, vConv_int, vStr_s, vField_agg, vIndex_agg, vIndexStr_s, vFieldAddr_p, vIndexAddr_p, vIndexSl_s, vSliceArr_p, vSliceSl_s, vSliceSl_n, vSliceStr_s, vExtract_t, vNilCheck_p, vS2ap_s, vLen_s, vLen_str, vMin_i, vMax_i, vLoad_p, vStore_p, baseP_p, vB2s_s, vMake_i, vS2b_s, callee_f, liveAt_eq, storeAt_eq, partL_none, partL_some, natIn_none, natIn_int, bounds3_two, bin_add, bin_sub, bin_mul, bin_quo, bin_rem, bin_and, bin_or, bin_xor, bin_andNot, bin_eql, bin_neq, bin_lss, bin_leq, bin_gtr, bin_geq, bin_shl, bin_shr, bin_sadd, bin_seql, bin_sneq, un_not, un_neg, un_xor, after_some, put_some, put_none, res_nil, res_val, res_var, packed_one, packed_two, merge_nil, merge_ge, rf_tup2, rfIn_int, rfIn_bool, rfIn_u8s, rf_str, rfIn_str, ↓gate_true, gd_bool, gd_ut, gd_uf, ↓guardV_tt, ↓guardV_ff, ↓guardV_tf, ↓guardV_ft, ↓keepV_some, ↓qElse_some, ↓get_hit, ↓Option.bind_some, ↓if_true, ↓if_false, List.nil_append, List.cons_append, List.all_nil, List.all_cons, List.isEmpty_nil, reduceCtorEq, Bool.false_eq_true, Nat.reduceEqDiff, beq_self_eq_true, bne_self_eq_false, Bool.not_true, Bool.not_false, Int.natCast_nonneg, Nat.lt_irrefl, false_and, Int.reduceEq, rf_int, rf_bool, rf_tuple_ints, rf_u8s, arr_list, toList2, Bool.and_self, Nat.not_lt_zero, Nat.sub_zero, Nat.zero_le, Nat.le_add_right, cells_agg, cells_agg_size, cells_int, cells_int_size, okV_int, okV_bool, okV_str, okV_agg, okV_ptr, okV_slice, okV_func, okV_nilFunc, okV_iface, okV_nilIface, cells_bool, cells_bool_size, cells_ptr, cells_ptr_size, cells_slice, cells_slice_size, cells_str, cells_str_size, eq_self, wrapI64_small, Int.natCast_zero, Int.natCast_one, Int.cast_ofNat_Int, List.length_nil, List.length_cons, List.getElem?_cons_zero, List.getElem?_cons_succ, List.set_cons_zero, List.set_cons_succ, Nat.zero_add, Nat.add_zero, Nat.mul_one, Nat.zero_mul, Int.toNat_natCast, Int.toNat_zero, Int.lt_irrefl, Int.le_refl, Nat.le_refl, and_self, true_and, and_true, decide_true, decide_false, Int.reduceLE, Int.reduceLT, Int.reduceAdd, Int.reduceMul, Int.reduceSub, Int.reduceTDiv, Int.reduceTMod, Int.reduceNeg, Int.reduceToNat, Int.reduceGT, Int.reduceGE, Int.reducePow, Nat.reduceAdd, Nat.reduceMul, Nat.reduceSub, Nat.reduceDiv, Nat.reduceMod, Nat.reducePow, Nat.reduceLT, Nat.reduceLeDiff, Nat.min_self, ge_iff_le, gt_iff_lt, Option.isNone_none, Option.isSome_none, Option.isNone_some, Option.isSome_some, Bool.and_true, Bool.true_and, Bool.and_false, Bool.false_and, not_true_eq_false, not_false_eq_true, or_true, true_or, false_or, or_false, hget0, hgetK, hset0, hsetK, splice_single, splice_whole, take_whole, List.getElem?_nil, List.length_append, List.append_assoc, n_add, n_mul, n_ladd, n_addl, n_lmul, n_mull, n_fdiv, n_fdivl, n_tdiv, n_tmod, n_w64, n_w32, n_w16, n_w8, n_sub64, n_lsub64, n_subl64, n_m32, n_m51, n_m1, n_m1b, n_m7b, p64_32, p64_51, p64_13, p8_7, hbc, hbit, s1, w2, w3, e1, e3, e4, m1, m2, hbq, take_all, eV_cells, eV_size, eV_ok, eV_fold, ns_len, l1, l2, l3, l4, l5, rf_eV]
theorem multiply_v {l k : List Nat} {p : Go.Cv.Pt Go.Fp.P Go.Fp.d} (hl : RepL l p) (lk : k.length = 32) (xk : ∀ x ∈ k, x < 256) : ∃ r, evVal T 26 [eV l, .agg (u8s k).toArray] = some (eV r) ∧ RepL r (pmul (num 256 k) p) := by
  have hK := num_lt xk
  rw [lk, show (256 : Nat) ^ 32 = 2 ^ 256 from by rw [show (256 : Nat) = 2 ^ 8 from rfl, ← Nat.pow_mul]] at hK
  obtain ⟨z, hz, hz2⟩ := zero_v
  obtain ⟨d, hd1, Ed, hd⟩ := factor_v
  obtain ⟨st, hb, r, rfl, hr1⟩ := block_inv (T := T) (base := 0) (id := 0) (body := a26_l0)
    (fun j st => ∃ r : List Nat, st = muI l k r d ⟨List.replicate 20 (.int .u64 0), true, true, true, 1⟩ ((255 : Int) - j) [] ∧ RepL r (pmul (num 256 k / 2 ^ (256 - j)) p))
    (Q := fun st => ∃ r : List Nat, st = muI l k r d ⟨List.replicate 20 (.int .u64 0), true, true, true, 1⟩ (-1) [(11, .bool false)] ∧ RepL r (pmul (num 256 k) p))
    256 (s := muI l k z d ⟨List.replicate 20 (.int .u64 0), true, true, true, 1⟩ 255 []) ⟨_, rfl, by rw [Nat.sub_zero, Nat.div_eq_of_lt hK]; exact hz2⟩
    (fun j st hj hs => by
      obtain ⟨r, rfl, h2⟩ := hs
      obtain ⟨i, hi⟩ : ∃ i, 256 - j = i + 1 := ⟨255 - j, by omega⟩
      rw [hi] at h2
      obtain ⟨r', g1, g3⟩ := mu_body (R := ⟨List.replicate 20 (.int .u64 0), true, true, true, 1⟩) hl lk xk (i := i) (by omega) Ed hd h2
      rw [show (255 : Int) - j = (i : Int) by omega]
      refine ⟨_, g1, r', ?_, ?_⟩
      · rw [show (255 : Int) - ((j + 1 : Nat) : Int) = (i : Int) - 1 by omega]
      · rw [show 256 - (j + 1) = i by omega]; exact g3)
    (fun st hs => by
      obtain ⟨r, rfl, h2⟩ := hs
      rw [Nat.sub_self, Nat.pow_zero, Nat.div_one] at h2
      have e : ((0 : Int) ≤ -1) = False := by decide
      refine ⟨_, ?_, r, rfl, h2⟩
      rw [show (255 : Int) - ((256 : Nat) : Int) = -1 by omega]
      simp only [muI, a26_l0, envOf, evCode_skip, evCode_exit, evCode_seq, fs_blockS, fs_blockR, fs_blockC, fs_blockK, fs_blockB, evCode_ret, quiet, keep_nil, keep_cons, fs_cond, fs_region, fs_regionQ, quiet2_eq, lastOf_nil, lastOf_cons, List.take_succ_cons, List.take_zero, List.drop_succ_cons, List.drop_zero, Int.reduceBEq, Int.reduceBNe,  fs_nil, fs_guard, fs_move, fs_pick, fs_alloc, fs_box, fs_load, fs_store, fs_bin, fs_eqv, fs_isNil, fs_un, fs_conv, fs_convStr, fs_field, fs_index, fs_indexStr, fs_build, fs_buildSlice, fs_fieldAddr, fs_indexAddr, fs_indexSl, fs_sliceArr, fs_sliceSl, fs_sliceStr, fs_makeSlice, fs_extract, fs_mkIface, fs_mkFunc, fs_nilCheck, fs_s2ap, fs_len, fs_minmax, fs_s2b, fs_b2s, fs_append, fs_copy, fs_callW, fs_callR, fs_callv, opd_tmp, opd_const, opd_func, opds_nil, opds_cons, opdOpt_none, opdOpt_some, opdParts_nil, opdParts_cons, get_miss, vPick_t, vPick_f, vEq_agg, vEq_aggN, vEq_bool, vEq_boolN, vConv_int, vStr_s, vField_agg, vIndex_agg, vIndexStr_s, vFieldAddr_p, vIndexAddr_p, vIndexSl_s, vSliceArr_p, vSliceSl_s, vSliceSl_n, vSliceStr_s, vExtract_t, vNilCheck_p, vS2ap_s, vLen_s, vLen_str, vMin_i, vMax_i, vLoad_p, vStore_p, baseP_p, vB2s_s, vMake_i, vS2b_s, callee_f, liveAt_eq, storeAt_eq, partL_none, partL_some, natIn_none, natIn_int, bounds3_two, bin_add, bin_sub, bin_mul, bin_quo, bin_rem, bin_and, bin_or, bin_xor, bin_andNot, bin_eql, bin_neq, bin_lss, bin_leq, bin_gtr, bin_geq, bin_shl, bin_shr, bin_sadd, bin_seql, bin_sneq, un_not, un_neg, un_xor, after_some, put_some, put_none, res_nil, res_val, res_var, packed_one, packed_two, merge_nil, merge_ge, rf_tup2, rfIn_int, rfIn_bool, rfIn_u8s, rf_str, rfIn_str, ↓gate_true, gd_bool, gd_ut, gd_uf, ↓guardV_tt, ↓guardV_ff, ↓guardV_tf, ↓guardV_ft, ↓keepV_some, ↓qElse_some, ↓get_hit, ↓Option.bind_some, ↓if_true, ↓if_false, List.nil_append, List.cons_append, List.all_nil, List.all_cons, List.isEmpty_nil, reduceCtorEq, Bool.false_eq_true, Nat.reduceEqDiff, beq_self_eq_true, bne_self_eq_false, Bool.not_true, Bool.not_false, Int.natCast_nonneg, Nat.lt_irrefl, false_and, Int.reduceEq, rf_int, rf_bool, rf_tuple_ints, rf_u8s, arr_list, toList2, Bool.and_self, Nat.not_lt_zero, Nat.sub_zero, Nat.zero_le, Nat.le_add_right, cells_agg, cells_agg_size, cells_int, cells_int_size, okV_int, okV_bool, okV_str, okV_agg, okV_ptr, okV_slice, okV_func, okV_nilFunc, okV_iface, okV_nilIface, cells_bool, cells_bool_size, cells_ptr, cells_ptr_size, cells_slice, cells_slice_size, cells_str, cells_str_size, eq_self, wrapI64_small, Int.natCast_zero, Int.natCast_one, Int.cast_ofNat_Int, List.length_nil, List.length_cons, List.getElem?_cons_zero, List.getElem?_cons_succ, List.set_cons_zero, List.set_cons_succ, Nat.zero_add, Nat.add_zero, Nat.mul_one, Nat.zero_mul, Int.toNat_natCast, Int.toNat_zero, Int.lt_irrefl, Int.le_refl, Nat.le_refl, and_self, true_and, and_true, decide_true, decide_false, Int.reduceLE, Int.reduceLT, Int.reduceAdd, Int.reduceMul, Int.reduceSub, Int.reduceTDiv, Int.reduceTMod, Int.reduceNeg, Int.reduceToNat, Int.reduceGT, Int.reduceGE, Int.reducePow, Nat.reduceAdd, Nat.reduceMul, Nat.reduceSub, Nat.reduceDiv, Nat.reduceMod, Nat.reducePow, Nat.reduceLT, Nat.reduceLeDiff, Nat.min_self, ge_iff_le, gt_iff_lt, Option.isNone_none, Option.isSome_none, Option.isNone_some, Option.isSome_some, Bool.and_true, Bool.true_and, Bool.and_false, Bool.false_and, not_true_eq_false, not_false_eq_true, or_true, true_or, false_or, or_false, e])
  refine ⟨r, ?_, hr1⟩
  have l1 := hl.len
  have l2 := hz2.len
  have l3 := hr1.len
  have l4 := Ed.len
  simp only [muI, List.cons_append, List.nil_append] at hb
  apply evVal_ex
  apply Exists.intro
  rw [evFun_fn (fn := a26) rfl]
  simp only [a26, envOf, evCode_skip, evCode_exit, evCode_seq, fs_blockS, fs_blockR, fs_blockC, fs_blockK, fs_blockB, evCode_ret, quiet, keep_nil, keep_cons, fs_cond, fs_region, fs_regionQ, quiet2_eq, lastOf_nil, lastOf_cons, List.take_succ_cons, List.take_zero, List.drop_succ_cons, List.drop_zero, Int.reduceBEq, Int.reduceBNe,  fs_nil, fs_guard, fs_move, fs_pick, fs_alloc, fs_box, fs_load, fs_store, fs_bin, fs_eqv, fs_isNil, fs_un, fs_conv, fs_convStr, fs_field, fs_index, fs_indexStr, fs_build, fs_buildSlice, fs_fieldAddr, fs_indexAddr, fs_indexSl, fs_sliceArr, fs_sliceSl, fs_sliceStr, fs_makeSlice, fs_extract, fs_mkIface, fs_mkFunc, fs_nilCheck, fs_s2ap, fs_len, fs_minmax, fs_s2b, fs_b2s, fs_append, fs_copy, fs_callW, fs_callR, fs_callv, opd_tmp, opd_const, opd_func, opds_nil, opds_cons, opdOpt_none, opdOpt_some, opdParts_nil, opdParts_cons, get_miss, vPick_t, vPick_f, vEq_agg, vEq_aggN, vEq_bool, vEq_boolN, vConv_int, vStr_s, vField_agg, vIndex_agg, vIndexStr_s, vFieldAddr_p, vIndexAddr_p, vIndexSl_s, vSliceArr_p, vSliceSl_s, vSliceSl_n, vSliceStr_s, vExtract_t, vNilCheck_p, vS2ap_s, vLen_s, vLen_str, vMin_i, vMax_i, vLoad_p, vStore_p, baseP_p, vB2s_s, vMake_i, vS2b_s, callee_f, liveAt_eq, storeAt_eq, partL_none, partL_some, natIn_none, natIn_int, bounds3_two, bin_add, bin_sub, bin_mul, bin_quo, bin_rem, bin_and, bin_or, bin_xor, bin_andNot, bin_eql, bin_neq, bin_lss, bin_leq, bin_gtr, bin_geq, bin_shl, bin_shr, bin_sadd, bin_seql, bin_sneq, un_not, un_neg, un_xor, after_some, put_some, put_none, res_nil, res_val, res_var, packed_one, packed_two, merge_nil, merge_ge, rf_tup2, rfIn_int, rfIn_bool, rfIn_u8s, rf_str, rfIn_str, ↓gate_true, gd_bool, gd_ut, gd_uf, ↓guardV_tt, ↓guardV_ff, ↓guardV_tf, ↓guardV_ft, ↓keepV_some, ↓qElse_some, ↓get_hit, ↓Option.bind_some, ↓if_true, ↓if_false, List.nil_append, List.cons_append, List.all_nil, List.all_cons, List.isEmpty_nil, reduceCtorEq, Bool.false_eq_true, Nat.reduceEqDiff, beq_self_eq_true, bne_self_eq_false, Bool.not_true, Bool.not_false, Int.natCast_nonneg, Nat.lt_irrefl, false_and, Int.reduceEq, rf_int, rf_bool, rf_tuple_ints, rf_u8s, arr_list, toList2, Bool.and_self, Nat.not_lt_zero, Nat.sub_zero, Nat.zero_le, Nat.le_add_right, cells_agg, cells_agg_size, cells_int, cells_int_size, okV_int, okV_bool, okV_str, okV_agg, okV_ptr, okV_slice, okV_func, okV_nilFunc, okV_iface, okV_nilIface, cells_bool, cells_bool_size, cells_ptr, cells_ptr_size, cells_slice, cells_slice_size, cells_str, cells_str_size, eq_self, wrapI64_small, Int.natCast_zero, Int.natCast_one, Int.cast_ofNat_Int, List.length_nil, List.length_cons, List.getElem?_cons_zero, List.getElem?_cons_succ, List.set_cons_zero, List.set_cons_succ, Nat.zero_add, Nat.add_zero, Nat.mul_one, Nat.zero_mul, Int.toNat_natCast, Int.toNat_zero, Int.lt_irrefl, Int.le_refl, Nat.le_refl, and_self, true_and, and_true, decide_true, decide_false, Int.reduceLE, Int.reduceLT, Int.reduceAdd, Int.reduceMul, Int.reduceSub, Int.reduceTDiv, Int.reduceTMod, Int.reduceNeg, Int.reduceToNat, Int.reduceGT, Int.reduceGE, Int.reducePow, Nat.reduceAdd, Nat.reduceMul, Nat.reduceSub, Nat.reduceDiv, Nat.reduceMod, Nat.reducePow, Nat.reduceLT, Nat.reduceLeDiff, Nat.min_self, ge_iff_le, gt_iff_lt, Option.isNone_none, Option.isSome_none, Option.isNone_some, Option.isSome_some, Bool.and_true, Bool.true_and, Bool.and_false, Bool.false_and, not_true_eq_false, not_false_eq_true, or_true, true_or, false_or, or_false, hget0, hgetK, hset0, hsetK, splice_single, splice_whole, take_whole, List.getElem?_nil, List.length_append, List.append_assoc, hz, hd1, hb, muI, List.length_replicate, take_all, eV_cells, eV_size, eV_ok, eV_fold, ns_len, l1, l2, l3, l4, rf_eV]
  rfl
end Go.Ev.Ytaceeoghjgggjaa
set_option linter.unusedSimpArgs false
set_option linter.unusedVariables false
namespace Go.Ev.Ytaceeoghjgggjaa
open Go Go.Ev
attribute [local congr] bind_congr2 ite_congr2 qElse_congr gate_congr guardV_congr
set_option maxRecDepth 100000
instance decPt (p q : Go.Cv.Pt Go.Fp.P Go.Fp.d) : Decidable (p = q) := if h : p.x = q.x ∧ p.y = q.y then isTrue (Go.Cv.Pt.ext h.1 h.2) else isFalse (fun e => h (by rw [e]; exact ⟨rfl, rfl⟩))
theorem same_iff {a b z w : Go.Fp.Fe} (hz : z ≠ 0) (hw : w ≠ 0) : (a * z * w = b * w * z) = (a = b) := by
  apply propext
  constructor
  · intro h
    have F := Go.Fp.fld
    refine F.cancel (F.mul_ne hz hw) ?_
    grobner
  · intro h; subst h; grobner
theorem equal_v {l m : List Nat} {p q : Go.Cv.Pt Go.Fp.P Go.Fp.d} (h1 : RepL l p) (h2 : RepL m q) : evVal T 28 [eV l, eV m] = some (.bool (decide (p = q))) := by
  obtain ⟨x1, y1, z1, t1, rfl, h1⟩ := h1
  obtain ⟨x2, y2, z2, t2, rfl, h2⟩ := h2
  obtain ⟨a, ha, Ea, fa⟩ := mul_ev h1.ex h2.ez
  obtain ⟨b, hb, Eb, fb⟩ := mul_ev h2.ex h1.ez
  obtain ⟨c, hc, Ec, fc⟩ := mul_ev h1.ey h2.ez
  obtain ⟨e, he, Ee, fe_⟩ := mul_ev h2.ey h1.ez
  have q1 := eq_v Ea Eb
  have q2 := eq_v Ec Ee
  rw [fa, fb, h1.x, h2.x] at q1
  rw [fc, fe_, h1.y, h2.y] at q2
  simp only [same_iff h1.nz h2.nz] at q1 q2
  obtain ⟨u0, u1, u2, u3⟩ := quad h1.ex h1.ey h1.ez h1.et
  obtain ⟨v0, v1, v2, v3⟩ := quad h2.ex h2.ey h2.ez h2.et
  have p1 := pL_len h1.ex h1.ey h1.ez h1.et
  have p2 := pL_len h2.ex h2.ey h2.ez h2.et
  generalize pL x1 y1 z1 t1 = L at *
  generalize pL x2 y2 z2 t2 = M at *
  by_cases hx : p.x = q.x
  · rw [decide_eq_true hx] at q1
    have hd : decide (p = q) = decide (p.y = q.y) := by
      by_cases hy : p.y = q.y
      · rw [decide_eq_true hy, decide_eq_true (Go.Cv.Pt.ext hx hy)]
      · rw [decide_eq_false hy, decide_eq_false (fun h => hy (by rw [h]))]
    rw [hd]
    apply evVal_ex
    apply Exists.intro
    rw [evFun_fn (fn := a28) rfl]
    simp only [a28, envOf, evCode_skip, evCode_exit, evCode_seq, fs_blockS, fs_blockR, fs_blockC, fs_blockK, fs_blockB, evCode_ret, quiet, keep_nil, keep_cons, fs_cond, fs_region, fs_regionQ, quiet2_eq, lastOf_nil, lastOf_cons, List.take_succ_cons, List.take_zero, List.drop_succ_cons, List.drop_zero, Int.reduceBEq, Int.reduceBNe,  fs_nil, fs_guard, fs_move, fs_pick, fs_alloc, fs_box, fs_load, fs_store, fs_bin, fs_eqv, fs_isNil, fs_un, fs_conv, fs_convStr, fs_field, fs_index, fs_indexStr, fs_build, fs_buildSlice, fs_fieldAddr, fs_indexAddr, fs_indexSl, fs_sliceArr, fs_sliceSl, fs_sliceStr, fs_makeSlice, fs_extract, fs_mkIface, fs_mkFunc, fs_nilCheck, fs_s2ap, fs_len, fs_minmax, fs_s2b, fs_b2s, fs_append, fs_copy, fs_callW, fs_callR, fs_callv, opd_tmp, opd_const, opd_func, opds_nil, opds_cons, opdOpt_none, opdOpt_some, opdParts_nil, opdParts_cons, get_miss, vPick_t, vPick_f, vEq_agg, vEq_aggN, vEq_bool, vEq_boolN, vConv_int, vStr_s, vField_agg, vIndex_agg, vIndexStr_s, vFieldAddr_p, vIndexAddr_p, vIndexSl_s, vSliceArr_p, vSliceSl_s, vSliceSl_n, vSliceStr_s, vExtract_t, vNilCheck_p, vS2ap_s, vLen_s, vLen_str, vMin_i, vMax_i, vLoad_p, vStore_p, baseP_p, vB2s_s, vMake_i, vS2b_s, callee_f, liveAt_eq, storeAt_eq, partL_none, partL_some, natIn_none, natIn_int, bounds3_two, bin_add, bin_sub, bin_mul, bin_quo, bin_rem, bin_and, bin_or, bin_xor, bin_andNot, bin_eql, bin_neq, bin_lss, bin_leq, bin_gtr, bin_geq, bin_shl, bin_shr, bin_sadd, bin_seql, bin_sneq, un_not, un_neg, un_xor, after_some, put_some, put_none, res_nil, res_val, res_var, packed_one, packed_two, merge_nil, merge_ge, rf_tup2, rfIn_int, rfIn_bool, rfIn_u8s, rf_str, rfIn_str, ↓gate_true, gd_bool, gd_ut, gd_uf, ↓guardV_tt, ↓guardV_ff, ↓guardV_tf, ↓guardV_ft, ↓keepV_some, ↓qElse_some, ↓get_hit, ↓Option.bind_some, ↓if_true, ↓if_false, List.nil_append, List.cons_append, List.all_nil, List.all_cons, List.isEmpty_nil, reduceCtorEq, Bool.false_eq_true, Nat.reduceEqDiff, beq_self_eq_true, bne_self_eq_false, Bool.not_true, Bool.not_false, Int.natCast_nonneg, Nat.lt_irrefl, false_and, Int.reduceEq, rf_int, rf_bool, rf_tuple_ints, rf_u8s, arr_list, toList2, Bool.and_self, Nat.not_lt_zero, Nat.sub_zero, Nat.zero_le, Nat.le_add_right, cells_agg, cells_agg_size, cells_int, cells_int_size, okV_int, okV_bool, okV_str, okV_agg, okV_ptr, okV_slice, okV_func, okV_nilFunc, okV_iface, okV_nilIface, cells_bool, cells_bool_size, cells_ptr, cells_ptr_size, cells_slice, cells_slice_size, cells_str, cells_str_size, eq_self, wrapI64_small, Int.natCast_zero, Int.natCast_one, Int.cast_ofNat_Int, List.length_nil, List.length_cons, List.getElem?_cons_zero, List.getElem?_cons_succ, List.set_cons_zero, List.set_cons_succ, Nat.zero_add, Nat.add_zero, Nat.mul_one, Nat.zero_mul, Int.toNat_natCast, Int.toNat_zero, Int.lt_irrefl, Int.le_refl, Nat.le_refl, and_self, true_and, and_true, decide_true, decide_false, Int.reduceLE, Int.reduceLT, Int.reduceAdd, Int.reduceMul, Int.reduceSub, Int.reduceTDiv, Int.reduceTMod, Int.reduceNeg, Int.reduceToNat, Int.reduceGT, Int.reduceGE, Int.reducePow, Nat.reduceAdd, Nat.reduceMul, Nat.reduceSub, Nat.reduceDiv, Nat.reduceMod, Nat.reducePow, Nat.reduceLT, Nat.reduceLeDiff, Nat.min_self, ge_iff_le, gt_iff_lt, Option.isNone_none, Option.isSome_none, Option.isNone_some, Option.isSome_some, Bool.and_true, Bool.true_and, Bool.and_false, Bool.false_and, not_true_eq_false, not_false_eq_true, or_true, true_or, false_or, or_false, hget0, hgetK, hset0, hsetK, splice_single, splice_whole, take_whole, List.getElem?_nil, List.length_append, List.append_assoc, u0, u1, u2, v0, v1, v2, ha, hb, hc, he, q1, q2, List.length_replicate, take_all, eV_cells, eV_size, eV_ok, eV_fold, ns_len, p1, p2, rf_eV]
    rfl
  · rw [decide_eq_false hx] at q1
    rw [decide_eq_false (fun h => hx (by rw [h]))]
    apply evVal_ex
    apply Exists.intro
    rw [evFun_fn (fn := a28) rfl]
    simp only [a28, envOf, evCode_skip, evCode_exit, evCode_seq, fs_blockS, fs_blockR, fs_blockC, fs_blockK, fs_blockB, evCode_ret, quiet, keep_nil, keep_cons, fs_cond, fs_region, fs_regionQ, quiet2_eq, lastOf_nil, lastOf_cons, List.take_succ_cons, List.take_zero, List.drop_succ_cons, List.drop_zero, Int.reduceBEq, Int.reduceBNe,  fs_nil, fs_guard, fs_move, fs_pick, fs_alloc, fs_box, fs_load, fs_store, fs_bin, fs_eqv, fs_isNil, fs_un, fs_conv, fs_convStr, fs_field, fs_index, fs_indexStr, fs_build, fs_buildSlice, fs_fieldAddr, fs_indexAddr, fs_indexSl, fs_sliceArr, fs_sliceSl, fs_sliceStr, fs_makeSlice, fs_extract, fs_mkIface, fs_mkFunc, fs_nilCheck, fs_s2ap, fs_len, fs_minmax, fs_s2b, fs_b2s, fs_append, fs_copy, fs_callW, fs_callR, fs_callv, opd_tmp, opd_const, opd_func, opds_nil, opds_cons, opdOpt_none, opdOpt_some, opdParts_nil, opdParts_cons, get_miss, vPick_t, vPick_f, vEq_agg, vEq_aggN, vEq_bool, vEq_boolN, vConv_int, vStr_s, vField_agg, vIndex_agg, vIndexStr_s, vFieldAddr_p, vIndexAddr_p, vIndexSl_s, vSliceArr_p, vSliceSl_s, vSliceSl_n, vSliceStr_s, vExtract_t, vNilCheck_p, vS2ap_s, vLen_s, vLen_str, vMin_i, vMax_i, vLoad_p, vStore_p, baseP_p, vB2s_s, vMake_i, vS2b_s, callee_f, liveAt_eq, storeAt_eq, partL_none, partL_some, natIn_none, natIn_int, bounds3_two, bin_add, bin_sub, bin_mul, bin_quo, bin_rem, bin_and, bin_or, bin_xor, bin_andNot, bin_eql, bin_neq, bin_lss, bin_leq, bin_gtr, bin_geq, bin_shl, bin_shr, bin_sadd, bin_seql, bin_sneq, un_not, un_neg, un_xor, after_some, put_some, put_none, res_nil, res_val, res_var, packed_one, packed_two, merge_nil, merge_ge, rf_tup2, rfIn_int, rfIn_bool, rfIn_u8s, rf_str, rfIn_str, ↓gate_true, gd_bool, gd_ut, gd_uf, ↓guardV_tt, ↓guardV_ff, ↓guardV_tf, ↓guardV_ft, ↓keepV_some, ↓qElse_some, ↓get_hit, ↓Option.bind_some, ↓if_true, ↓if_false, List.nil_append, List.cons_append, List.all_nil, List.all_cons, List.isEmpty_nil, reduceCtorEq, Bool.false_eq_true, Nat.reduceEqDiff, beq_self_eq_true, bne_self_eq_false, Bool.not_true, Bool.not_false, Int.natCast_nonneg, Nat.lt_irrefl, false_and, Int.reduceEq, rf_int, rf_bool, rf_tuple_ints, rf_u8s, arr_list, toList2, Bool.and_self, Nat.not_lt_zero, Nat.sub_zero, Nat.zero_le, Nat.le_add_right, cells_agg, cells_agg_size, cells_int, cells_int_size, okV_int, okV_bool, okV_str, okV_agg, okV_ptr, okV_slice, okV_func, okV_nilFunc, okV_iface, okV_nilIface, cells_bool, cells_bool_size, cells_ptr, cells_ptr_size, cells_slice, cells_slice_size, cells_str, cells_str_size, eq_self, wrapI64_small, Int.natCast_zero, Int.natCast_one, Int.cast_ofNat_Int, List.length_nil, List.length_cons, List.getElem?_cons_zero, List.getElem?_cons_succ, List.set_cons_zero, List.set_cons_succ, Nat.zero_add, Nat.add_zero, Nat.mul_one, Nat.zero_mul, Int.toNat_natCast, Int.toNat_zero, Int.lt_irrefl, Int.le_refl, Nat.le_refl, and_self, true_and, and_true, decide_true, decide_false, Int.reduceLE, Int.reduceLT, Int.reduceAdd, Int.reduceMul, Int.reduceSub, Int.reduceTDiv, Int.reduceTMod, Int.reduceNeg, Int.reduceToNat, Int.reduceGT, Int.reduceGE, Int.reducePow, Nat.reduceAdd, Nat.reduceMul, Nat.reduceSub, Nat.reduceDiv, Nat.reduceMod, Nat.reducePow, Nat.reduceLT, Nat.reduceLeDiff, Nat.min_self, ge_iff_le, gt_iff_lt, Option.isNone_none, Option.isSome_none, Option.isNone_some, Option.isSome_some, Bool.and_true, Bool.true_and, Bool.and_false, Bool.false_and, not_true_eq_false, not_false_eq_true, or_true, true_or, false_or, or_false, hget0, hgetK, hset0, hsetK, splice_single, splice_whole, take_whole, List.getElem?_nil, List.length_append, List.append_assoc, u0, u1, u2, v0, v1, v2, ha, hb, hc, he, q1, q2, List.length_replicate, take_all, eV_cells, eV_size, eV_ok, eV_fold, ns_len, p1, p2, rf_eV]
    rfl
theorem eight_eq (p : Go.Cv.Pt Go.Fp.P Go.Fp.d) : padd (padd (padd p p) (padd p p)) (padd (padd p p) (padd p p)) = pmul 8 p := by
  have h2 : pmul 2 p = padd p p := Go.Cv.mul_two Go.Fp.fld p
  have h4 : pmul 4 p = padd (pmul 2 p) (pmul 2 p) := Go.Cv.mul_add Go.Fp.fld 2 2 p
  have h8 : pmul 8 p = padd (pmul 4 p) (pmul 4 p) := Go.Cv.mul_add Go.Fp.fld 4 4 p
  rw [h8, h4, h2]
theorem tiny_v {l : List Nat} {p : Go.Cv.Pt Go.Fp.P Go.Fp.d} (h : RepL l p) : evVal T 39 [eV l] = some (.bool (decide (pmul 8 p = pzero))) := by
  obtain ⟨a, ha, ra⟩ := twiceL h
  obtain ⟨b, hb, rb⟩ := twiceL ra
  obtain ⟨c, hc, rc⟩ := twiceL rb
  obtain ⟨z, hz, rz⟩ := zero_v
  have he := equal_v rc rz
  rw [eight_eq] at he
  have p1 := h.len
  apply evVal_ex
  apply Exists.intro
  rw [evFun_fn (fn := a39) rfl]
  simp only [a39, envOf, evCode_skip, evCode_exit, evCode_seq, fs_blockS, fs_blockR, fs_blockC, fs_blockK, fs_blockB, evCode_ret, quiet, keep_nil, keep_cons, fs_cond, fs_region, fs_regionQ, quiet2_eq, lastOf_nil, lastOf_cons, List.take_succ_cons, List.take_zero, List.drop_succ_cons, List.drop_zero, Int.reduceBEq, Int.reduceBNe,  fs_nil, fs_guard, fs_move, fs_pick, fs_alloc, fs_box, fs_load, fs_store, fs_bin, fs_eqv, fs_isNil, fs_un, fs_conv, fs_convStr, fs_field, fs_index, fs_indexStr, fs_build, fs_buildSlice, fs_fieldAddr, fs_indexAddr, fs_indexSl, fs_sliceArr, fs_sliceSl, fs_sliceStr, fs_makeSlice, fs_extract, fs_mkIface, fs_mkFunc, fs_nilCheck, fs_s2ap, fs_len, fs_minmax, fs_s2b, fs_b2s, fs_append, fs_copy, fs_callW, fs_callR, fs_callv, opd_tmp, opd_const, opd_func, opds_nil, opds_cons, opdOpt_none, opdOpt_some, opdParts_nil, opdParts_cons, get_miss, vPick_t, vPick_f, vEq_agg, vEq_aggN, vEq_bool, vEq_boolN, vConv_int, vStr_s, vField_agg, vIndex_agg, vIndexStr_s, vFieldAddr_p, vIndexAddr_p, vIndexSl_s, vSliceArr_p, vSliceSl_s, vSliceSl_n, vSliceStr_s, vExtract_t, vNilCheck_p, vS2ap_s, vLen_s, vLen_str, vMin_i, vMax_i, vLoad_p, vStore_p, baseP_p, vB2s_s, vMake_i, vS2b_s, callee_f, liveAt_eq, storeAt_eq, partL_none, partL_some, natIn_none, natIn_int, bounds3_two, bin_add, bin_sub, bin_mul, bin_quo, bin_rem, bin_and, bin_or, bin_xor, bin_andNot, bin_eql, bin_neq, bin_lss, bin_leq, bin_gtr, bin_geq, bin_shl, bin_shr, bin_sadd, bin_seql, bin_sneq, un_not, un_neg, un_xor, after_some, put_some, put_none, res_nil, res_val, res_var, packed_one, packed_two, merge_nil, merge_ge, rf_tup2, rfIn_int, rfIn_bool, rfIn_u8s, rf_str, rfIn_str, ↓gate_true, gd_bool, gd_ut, gd_uf, ↓guardV_tt, ↓guardV_ff, ↓guardV_tf, ↓guardV_ft, ↓keepV_some, ↓qElse_some, ↓get_hit, ↓Option.bind_some, ↓if_true, ↓if_false, List.nil_append, List.cons_append, List.all_nil, List.all_cons, List.isEmpty_nil, reduceCtorEq, Bool.false_eq_true, Nat.reduceEqDiff, beq_self_eq_true, bne_self_eq_false, Bool.not_true, Bool.not_false, Int.natCast_nonneg, Nat.lt_irrefl, false_and, Int.reduceEq, rf_int, rf_bool, rf_tuple_ints, rf_u8s, arr_list, toList2, Bool.and_self, Nat.not_lt_zero, Nat.sub_zero, Nat.zero_le, Nat.le_add_right, cells_agg, cells_agg_size, cells_int, cells_int_size, okV_int, okV_bool, okV_str, okV_agg, okV_ptr, okV_slice, okV_func, okV_nilFunc, okV_iface, okV_nilIface, cells_bool, cells_bool_size, cells_ptr, cells_ptr_size, cells_slice, cells_slice_size, cells_str, cells_str_size, eq_self, wrapI64_small, Int.natCast_zero, Int.natCast_one, Int.cast_ofNat_Int, List.length_nil, List.length_cons, List.getElem?_cons_zero, List.getElem?_cons_succ, List.set_cons_zero, List.set_cons_succ, Nat.zero_add, Nat.add_zero, Nat.mul_one, Nat.zero_mul, Int.toNat_natCast, Int.toNat_zero, Int.lt_irrefl, Int.le_refl, Nat.le_refl, and_self, true_and, and_true, decide_true, decide_false, Int.reduceLE, Int.reduceLT, Int.reduceAdd, Int.reduceMul, Int.reduceSub, Int.reduceTDiv, Int.reduceTMod, Int.reduceNeg, Int.reduceToNat, Int.reduceGT, Int.reduceGE, Int.reducePow, Nat.reduceAdd, Nat.reduceMul, Nat.reduceSub, Nat.reduceDiv, Nat.reduceMod, Nat.reducePow, Nat.reduceLT, Nat.reduceLeDiff, Nat.min_self, ge_iff_le, gt_iff_lt, Option.isNone_none, Option.isSome_none, Option.isNone_some, Option.isSome_some, Bool.and_true, Bool.true_and, Bool.and_false, Bool.false_and, not_true_eq_false, not_false_eq_true, or_true, true_or, false_or, or_false, hget0, hgetK, hset0, hsetK, splice_single, splice_whole, take_whole, List.getElem?_nil, List.length_append, List.append_assoc, ha, hb, hc, hz, he, take_all, eV_cells, eV_size, eV_ok, eV_fold, ns_len, p1, rf_eV]
  rfl
def encN (p : Go.Cv.Pt Go.Fp.P Go.Fp.d) : Nat := p.y.val + (p.x.val % 2) * 2 ^ 255
def enc (p : Go.Cv.Pt Go.Fp.P Go.Fp.d) : List Nat := dig 256 32 (encN p)
theorem enc_len (p : Go.Cv.Pt Go.Fp.P Go.Fp.d) : (enc p).length = 32 := dig_len _ _ _
theorem val_lt (a : Go.Fp.Fe) : a.val < 2 ^ 255 := Nat.lt_trans a.isLt (by rw [Go.Fp.P_eq]; decide)
theorem encN_lt (p : Go.Cv.Pt Go.Fp.P Go.Fp.d) : encN p < 256 ^ 32 := by
  have h1 := val_lt p.y
  have h2 := Nat.mod_lt p.x.val (by decide : 0 < 2)
  unfold encN
  have : p.x.val % 2 * 2 ^ 255 ≤ 1 * 2 ^ 255 := Nat.mul_le_mul_right _ (by omega)
  have e : (256 : Nat) ^ 32 = 2 ^ 255 + 2 ^ 255 := by decide
  omega
theorem encode_v {l : List Nat} {p : Go.Cv.Pt Go.Fp.P Go.Fp.d} (h : RepL l p) : evVal T 29 [eV l] = some (.agg (u8s (enc p)).toArray) := by
  obtain ⟨x, y, z, t, rfl, h⟩ := h
  obtain ⟨i, hi, Ei, fi⟩ := invert_v h.ez
  obtain ⟨a, ha, Ea, fa⟩ := mul_ev h.ey Ei
  obtain ⟨b, hb, Eb, fb⟩ := mul_ev h.ex Ei
  have hinv := Go.Fp.iv_mul h.nz
  have fa' : fe a = p.y := by rw [fa, fi, h.y]; grobner
  have fb' : fe b = p.x := by rw [fb, fi, h.x]; grobner
  have k1 := bytes_v Ea
  have k2 := odd_v Eb
  rw [fa'] at k1
  rw [fb'] at k2
  obtain ⟨u0, u1, u2, u3⟩ := quad h.ex h.ey h.ez h.et
  have p1 := pL_len h.ex h.ey h.ez h.et
  have L1 := Ei.len
  have lk : (dig 256 32 p.y.val).length = 32 := dig_len _ _ _
  have l0 : (dig 256 32 0).length = 32 := rfl
  have hz32 : List.replicate 32 (Value.int .u8 0) = u8s (dig 256 32 0) := rfl
  generalize pL x y z t = L at *
  by_cases ho : p.x.val % 2 = 1
  · rw [decide_eq_true ho] at k2
    have hv := val_lt p.y
    obtain ⟨w, hw⟩ : ∃ w, (dig 256 32 p.y.val)[31]? = some w := ⟨_, List.getElem?_eq_getElem (by rw [dig_len]; decide)⟩
    have hwc := u8s_get hw
    have hw' : w < 256 := dig_lt (by decide) (List.mem_of_getElem? hw)
    have hput := dig_put (w := 8) (m := 32) (q := 31) (s := 7) (y := 1) (M := p.y.val) (by decide) (by decide) hv (by decide)
    have hgd : (dig (2 ^ 8) 32 p.y.val).getD 31 0 = w := by rw [List.getD_eq_getElem?_getD]; rw [show (2 : Nat) ^ 8 = 256 from rfl, hw]; rfl
    rw [hgd] at hput
    have hset := u8s_set (dig 256 32 p.y.val) 31 (w ||| 128)
    rw [show (dig 256 32 p.y.val).set 31 (w ||| 128) = enc p from by rw [enc, encN, ho]; exact hput] at hset
    have o1 : bitsOp .or .u8 (w : Int) 128 = ((w ||| 128 : Nat) : Int) := bits_or (k := .u8) (a := w) (b := 128) rfl hw' (by decide)
    have le := enc_len p
    generalize enc p = E at *
    apply evVal_ex
    apply Exists.intro
    rw [evFun_fn (fn := a29) rfl]
    simp only [a29, envOf, evCode_skip, evCode_exit, evCode_seq, fs_blockS, fs_blockR, fs_blockC, fs_blockK, fs_blockB, evCode_ret, quiet, keep_nil, keep_cons, fs_cond, fs_region, fs_regionQ, quiet2_eq, lastOf_nil, lastOf_cons, List.take_succ_cons, List.take_zero, List.drop_succ_cons, List.drop_zero, Int.reduceBEq, Int.reduceBNe,  fs_nil, fs_guard, fs_move, fs_pick, fs_alloc, fs_box, fs_load, fs_store, fs_bin, fs_eqv, fs_isNil, fs_un, fs_conv, fs_convStr, fs_field, fs_index, fs_indexStr, fs_build, fs_buildSlice, fs_fieldAddr, fs_indexAddr, fs_indexSl, fs_sliceArr, fs_sliceSl, fs_sliceStr, fs_makeSlice, fs_extract, fs_mkIface, fs_mkFunc, fs_nilCheck, fs_s2ap, fs_len, fs_minmax, fs_s2b, fs_b2s, fs_append, fs_copy, fs_callW, fs_callR, fs_callv, opd_tmp, opd_const, opd_func, opds_nil, opds_cons, opdOpt_none, opdOpt_some, opdParts_nil, opdParts_cons, get_miss, vPick_t, vPick_f, vEq_agg, vEq_aggN, vEq_bool, vEq_boolN, vConv_int, vStr_s, vField_agg, vIndex_agg, vIndexStr_s, vFieldAddr_p, vIndexAddr_p, vIndexSl_s, vSliceArr_p, vSliceSl_s, vSliceSl_n, vSliceStr_s, vExtract_t, vNilCheck_p, vS2ap_s, vLen_s, vLen_str, vMin_i, vMax_i, vLoad_p, vStore_p, baseP_p, vB2s_s, vMake_i, vS2b_s, callee_f, liveAt_eq, storeAt_eq, partL_none, partL_some, natIn_none, natIn_int, bounds3_two, bin_add, bin_sub, bin_mul, bin_quo, bin_rem, bin_and, bin_or, bin_xor, bin_andNot, bin_eql, bin_neq, bin_lss, bin_leq, bin_gtr, bin_geq, bin_shl, bin_shr, bin_sadd, bin_seql, bin_sneq, un_not, un_neg, un_xor, after_some, put_some, put_none, res_nil, res_val, res_var, packed_one, packed_two, merge_nil, merge_ge, rf_tup2, rfIn_int, rfIn_bool, rfIn_u8s, rf_str, rfIn_str, ↓gate_true, gd_bool, gd_ut, gd_uf, ↓guardV_tt, ↓guardV_ff, ↓guardV_tf, ↓guardV_ft, ↓keepV_some, ↓qElse_some, ↓get_hit, ↓Option.bind_some, ↓if_true, ↓if_false, List.nil_append, List.cons_append, List.all_nil, List.all_cons, List.isEmpty_nil, reduceCtorEq, Bool.false_eq_true, Nat.reduceEqDiff, beq_self_eq_true, bne_self_eq_false, Bool.not_true, Bool.not_false, Int.natCast_nonneg, Nat.lt_irrefl, false_and, Int.reduceEq, rf_int, rf_bool, rf_tuple_ints, rf_u8s, arr_list, toList2, Bool.and_self, Nat.not_lt_zero, Nat.sub_zero, Nat.zero_le, Nat.le_add_right, cells_agg, cells_agg_size, cells_int, cells_int_size, okV_int, okV_bool, okV_str, okV_agg, okV_ptr, okV_slice, okV_func, okV_nilFunc, okV_iface, okV_nilIface, cells_bool, cells_bool_size, cells_ptr, cells_ptr_size, cells_slice, cells_slice_size, cells_str, cells_str_size, eq_self, wrapI64_small, Int.natCast_zero, Int.natCast_one, Int.cast_ofNat_Int, List.length_nil, List.length_cons, List.getElem?_cons_zero, List.getElem?_cons_succ, List.set_cons_zero, List.set_cons_succ, Nat.zero_add, Nat.add_zero, Nat.mul_one, Nat.zero_mul, Int.toNat_natCast, Int.toNat_zero, Int.lt_irrefl, Int.le_refl, Nat.le_refl, and_self, true_and, and_true, decide_true, decide_false, Int.reduceLE, Int.reduceLT, Int.reduceAdd, Int.reduceMul, Int.reduceSub, Int.reduceTDiv, Int.reduceTMod, Int.reduceNeg, Int.reduceToNat, Int.reduceGT, Int.reduceGE, Int.reducePow, Nat.reduceAdd, Nat.reduceMul, Nat.reduceSub, Nat.reduceDiv, Nat.reduceMod, Nat.reducePow, Nat.reduceLT, Nat.reduceLeDiff, Nat.min_self, ge_iff_le, gt_iff_lt, Option.isNone_none, Option.isSome_none, Option.isNone_some, Option.isSome_some, Bool.and_true, Bool.true_and, Bool.and_false, Bool.false_and, not_true_eq_false, not_false_eq_true, or_true, true_or, false_or, or_false, hget0, hgetK, hset0, hsetK, splice_single, splice_whole, take_whole, List.getElem?_nil, List.length_append, List.append_assoc, hz32, u0, u1, u2, hi, ha, hb, k1, k2, hwc, o1, hset, List.length_replicate, take_all, eV_cells, eV_size, eV_ok, eV_fold, ns_len, u8s_len, lk, l0, le, p1, L1, rf_eV]
    rfl
  · rw [decide_eq_false ho] at k2
    have he : enc p = dig 256 32 p.y.val := by rw [enc, encN, show p.x.val % 2 = 0 by omega, Nat.zero_mul, Nat.add_zero]
    rw [he]
    generalize dig 256 32 p.y.val = E at *
    apply evVal_ex
    apply Exists.intro
    rw [evFun_fn (fn := a29) rfl]
    simp only [a29, envOf, evCode_skip, evCode_exit, evCode_seq, fs_blockS, fs_blockR, fs_blockC, fs_blockK, fs_blockB, evCode_ret, quiet, keep_nil, keep_cons, fs_cond, fs_region, fs_regionQ, quiet2_eq, lastOf_nil, lastOf_cons, List.take_succ_cons, List.take_zero, List.drop_succ_cons, List.drop_zero, Int.reduceBEq, Int.reduceBNe,  fs_nil, fs_guard, fs_move, fs_pick, fs_alloc, fs_box, fs_load, fs_store, fs_bin, fs_eqv, fs_isNil, fs_un, fs_conv, fs_convStr, fs_field, fs_index, fs_indexStr, fs_build, fs_buildSlice, fs_fieldAddr, fs_indexAddr, fs_indexSl, fs_sliceArr, fs_sliceSl, fs_sliceStr, fs_makeSlice, fs_extract, fs_mkIface, fs_mkFunc, fs_nilCheck, fs_s2ap, fs_len, fs_minmax, fs_s2b, fs_b2s, fs_append, fs_copy, fs_callW, fs_callR, fs_callv, opd_tmp, opd_const, opd_func, opds_nil, opds_cons, opdOpt_none, opdOpt_some, opdParts_nil, opdParts_cons, get_miss, vPick_t, vPick_f, vEq_agg, vEq_aggN, vEq_bool, vEq_boolN, vConv_int, vStr_s, vField_agg, vIndex_agg, vIndexStr_s, vFieldAddr_p, vIndexAddr_p, vIndexSl_s, vSliceArr_p, vSliceSl_s, vSliceSl_n, vSliceStr_s, vExtract_t, vNilCheck_p, vS2ap_s, vLen_s, vLen_str, vMin_i, vMax_i, vLoad_p, vStore_p, baseP_p, vB2s_s, vMake_i, vS2b_s, callee_f, liveAt_eq, storeAt_eq, partL_none, partL_some, natIn_none, natIn_int, bounds3_two, bin_add, bin_sub, bin_mul, bin_quo, bin_rem, bin_and, bin_or, bin_xor, bin_andNot, bin_eql, bin_neq, bin_lss, bin_leq, bin_gtr, bin_geq, bin_shl, bin_shr, bin_sadd, bin_seql, bin_sneq, un_not, un_neg, un_xor, after_some, put_some, put_none, res_nil, res_val, res_var, packed_one, packed_two, merge_nil, merge_ge, rf_tup2, rfIn_int, rfIn_bool, rfIn_u8s, rf_str, rfIn_str, ↓gate_true, gd_bool, gd_ut, gd_uf, ↓guardV_tt, ↓guardV_ff, ↓guardV_tf, ↓guardV_ft, ↓keepV_some, ↓qElse_some, ↓get_hit, ↓Option.bind_some, ↓if_true, ↓if_false, List.nil_append, List.cons_append, List.all_nil, List.all_cons, List.isEmpty_nil, reduceCtorEq, Bool.false_eq_true, Nat.reduceEqDiff, beq_self_eq_true, bne_self_eq_false, Bool.not_true, Bool.not_false, Int.natCast_nonneg, Nat.lt_irrefl, false_and, Int.reduceEq, rf_int, rf_bool, rf_tuple_ints, rf_u8s, arr_list, toList2, Bool.and_self, Nat.not_lt_zero, Nat.sub_zero, Nat.zero_le, Nat.le_add_right, cells_agg, cells_agg_size, cells_int, cells_int_size, okV_int, okV_bool, okV_str, okV_agg, okV_ptr, okV_slice, okV_func, okV_nilFunc, okV_iface, okV_nilIface, cells_bool, cells_bool_size, cells_ptr, cells_ptr_size, cells_slice, cells_slice_size, cells_str, cells_str_size, eq_self, wrapI64_small, Int.natCast_zero, Int.natCast_one, Int.cast_ofNat_Int, List.length_nil, List.length_cons, List.getElem?_cons_zero, List.getElem?_cons_succ, List.set_cons_zero, List.set_cons_succ, Nat.zero_add, Nat.add_zero, Nat.mul_one, Nat.zero_mul, Int.toNat_natCast, Int.toNat_zero, Int.lt_irrefl, Int.le_refl, Nat.le_refl, and_self, true_and, and_true, decide_true, decide_false, Int.reduceLE, Int.reduceLT, Int.reduceAdd, Int.reduceMul, Int.reduceSub, Int.reduceTDiv, Int.reduceTMod, Int.reduceNeg, Int.reduceToNat, Int.reduceGT, Int.reduceGE, Int.reducePow, Nat.reduceAdd, Nat.reduceMul, Nat.reduceSub, Nat.reduceDiv, Nat.reduceMod, Nat.reducePow, Nat.reduceLT, Nat.reduceLeDiff, Nat.min_self, ge_iff_le, gt_iff_lt, Option.isNone_none, Option.isSome_none, Option.isNone_some, Option.isSome_some, Bool.and_true, Bool.true_and, Bool.and_false, Bool.false_and, not_true_eq_false, not_false_eq_true, or_true, true_or, false_or, or_false, hget0, hgetK, hset0, hsetK, splice_single, splice_whole, take_whole, List.getElem?_nil, List.length_append, List.append_assoc, hz32, u0, u1, u2, hi, ha, hb, k1, k2, List.length_replicate, take_all, eV_cells, eV_size, eV_ok, eV_fold, ns_len, u8s_len, lk, l0, p1, L1, rf_eV]
    rfl
def bxN : Nat := 15112221349535400772501151409588531511454012693041857206046113283949847762202
def byN : Nat := 46316835694926478169428394003475163141307993866256225615783033603165251855960
def pbase : Go.Cv.Pt Go.Fp.P Go.Fp.d := ⟨Go.Fp.fp bxN, Go.Fp.fp byN, by
  unfold Go.Cv.On Go.Fp.d
  have h : (Go.Fp.fp byN * Go.Fp.fp byN : Go.Fp.Fe) = Go.Fp.fp bxN * Go.Fp.fp bxN + (1 + Go.Fp.fp Go.Fp.dN * (Go.Fp.fp bxN * Go.Fp.fp bxN) * (Go.Fp.fp byN * Go.Fp.fp byN)) := by
    rw [← Go.Fp.fp_one, ← Go.Fp.fp_mul, ← Go.Fp.fp_mul, ← Go.Fp.fp_mul, ← Go.Fp.fp_mul, ← Go.Fp.fp_add, ← Go.Fp.fp_add]
    exact Go.Fp.fp_eq.2 (by decide +kernel)
  grobner⟩
def bxK : List Nat := dig 256 32 bxN
def byK : List Nat := dig 256 32 byN
theorem bxK_num : num 256 bxK = bxN := by decide +kernel
theorem byK_num : num 256 byK = byN := by decide +kernel
theorem base_v : ∃ r, evVal T 25 [] = some (eV r) ∧ RepL r pbase := by
  have h1 := of_v (k := bxK) (dig_len _ _ _) dig32_lt
  have h2 := of_v (k := byK) (dig_len _ _ _) dig32_lt
  have E1 := of_el (V := num 256 bxK % 2 ^ 255)
  have E2 := of_el (V := num 256 byK % 2 ^ 255)
  have f1 : fe (dig (2 ^ 51) 5 (num 256 bxK % 2 ^ 255)) = Go.Fp.fp bxN := by unfold fe; rw [of_v51, bxK_num]; rfl
  have f2 : fe (dig (2 ^ 51) 5 (num 256 byK % 2 ^ 255)) = Go.Fp.fp byN := by unfold fe; rw [of_v51, byK_num]; rfl
  generalize dig (2 ^ 51) 5 (num 256 bxK % 2 ^ 255) = X at *
  generalize dig (2 ^ 51) 5 (num 256 byK % 2 ^ 255) = Y at *
  obtain ⟨t, ht, Et, ft⟩ := mul_ev E1 E2
  have E3 : ∃ O : List Nat, O = [1, 0, 0, 0, 0] := ⟨_, rfl⟩
  obtain ⟨O, hO⟩ := E3
  have E3 : El O (2 ^ 52) := by rw [hO]; exact one_el
  have v1 : evVal T 50 [.int .u32 1] = some (eV O) := by rw [hO]; exact one_v
  have f3 : fe O = 1 := by rw [hO]; exact one_fe
  clear hO
  have hf := fill4 E1 E2 E3 Et
  have p1 := pL_len E1 E2 E3 Et
  refine ⟨pL X Y O t, ?_, X, Y, O, t, rfl, E1, E2, E3, Et, by rw [f3]; exact Go.Fp.one_ne, by rw [f1, f3]; simp only [pbase]; grobner, by rw [f2, f3]; simp only [pbase]; grobner, by rw [ft, f1, f2, f3]; simp only [pbase]; grobner⟩
  have L1 := E1.len
  have L2 := E2.len
  have g1 : fillL (List.replicate 32 (Value.int .u8 0)) [(0, 1, .int .u8 26), (1, 1, .int .u8 213), (2, 1, .int .u8 37), (3, 1, .int .u8 143), (4, 1, .int .u8 96), (5, 1, .int .u8 45), (6, 1, .int .u8 86), (7, 1, .int .u8 201), (8, 1, .int .u8 178), (9, 1, .int .u8 167), (10, 1, .int .u8 37), (11, 1, .int .u8 149), (12, 1, .int .u8 96), (13, 1, .int .u8 199), (14, 1, .int .u8 44), (15, 1, .int .u8 105), (16, 1, .int .u8 92), (17, 1, .int .u8 220), (18, 1, .int .u8 214), (19, 1, .int .u8 253), (20, 1, .int .u8 49), (21, 1, .int .u8 226), (22, 1, .int .u8 164), (23, 1, .int .u8 192), (24, 1, .int .u8 254), (25, 1, .int .u8 83), (26, 1, .int .u8 110), (27, 1, .int .u8 205), (28, 1, .int .u8 211), (29, 1, .int .u8 54), (30, 1, .int .u8 105), (31, 1, .int .u8 33)] = some (u8s bxK) := by
    have : bxK = [26, 213, 37, 143, 96, 45, 86, 201, 178, 167, 37, 149, 96, 199, 44, 105, 92, 220, 214, 253, 49, 226, 164, 192, 254, 83, 110, 205, 211, 54, 105, 33] := by decide +kernel
    rw [this]; rfl
  have g2 : fillL (List.replicate 32 (Value.int .u8 0)) [(0, 1, .int .u8 88), (1, 1, .int .u8 102), (2, 1, .int .u8 102), (3, 1, .int .u8 102), (4, 1, .int .u8 102), (5, 1, .int .u8 102), (6, 1, .int .u8 102), (7, 1, .int .u8 102), (8, 1, .int .u8 102), (9, 1, .int .u8 102), (10, 1, .int .u8 102), (11, 1, .int .u8 102), (12, 1, .int .u8 102), (13, 1, .int .u8 102), (14, 1, .int .u8 102), (15, 1, .int .u8 102), (16, 1, .int .u8 102), (17, 1, .int .u8 102), (18, 1, .int .u8 102), (19, 1, .int .u8 102), (20, 1, .int .u8 102), (21, 1, .int .u8 102), (22, 1, .int .u8 102), (23, 1, .int .u8 102), (24, 1, .int .u8 102), (25, 1, .int .u8 102), (26, 1, .int .u8 102), (27, 1, .int .u8 102), (28, 1, .int .u8 102), (29, 1, .int .u8 102), (30, 1, .int .u8 102), (31, 1, .int .u8 102)] = some (u8s byK) := by
    have : byK = [88, 102, 102, 102, 102, 102, 102, 102, 102, 102, 102, 102, 102, 102, 102, 102, 102, 102, 102, 102, 102, 102, 102, 102, 102, 102, 102, 102, 102, 102, 102, 102] := by decide +kernel
    rw [this]; rfl
  generalize pL X Y O t = Q at *
  apply evVal_ex
  apply Exists.intro
  rw [evFun_fn (fn := a25) rfl]
  simp only [a25, envOf, evCode_skip, evCode_exit, evCode_seq, fs_blockS, fs_blockR, fs_blockC, fs_blockK, fs_blockB, evCode_ret, quiet, keep_nil, keep_cons, fs_cond, fs_region, fs_regionQ, quiet2_eq, lastOf_nil, lastOf_cons, List.take_succ_cons, List.take_zero, List.drop_succ_cons, List.drop_zero, Int.reduceBEq, Int.reduceBNe,  fs_nil, fs_guard, fs_move, fs_pick, fs_alloc, fs_box, fs_load, fs_store, fs_bin, fs_eqv, fs_isNil, fs_un, fs_conv, fs_convStr, fs_field, fs_index, fs_indexStr, fs_build, fs_buildSlice, fs_fieldAddr, fs_indexAddr, fs_indexSl, fs_sliceArr, fs_sliceSl, fs_sliceStr, fs_makeSlice, fs_extract, fs_mkIface, fs_mkFunc, fs_nilCheck, fs_s2ap, fs_len, fs_minmax, fs_s2b, fs_b2s, fs_append, fs_copy, fs_callW, fs_callR, fs_callv, opd_tmp, opd_const, opd_func, opds_nil, opds_cons, opdOpt_none, opdOpt_some, opdParts_nil, opdParts_cons, get_miss, vPick_t, vPick_f, vEq_agg, vEq_aggN, vEq_bool, vEq_boolN, vConv_int, vStr_s, vField_agg, vIndex_agg, vIndexStr_s, vFieldAddr_p, vIndexAddr_p, vIndexSl_s, vSliceArr_p, vSliceSl_s, vSliceSl_n, vSliceStr_s, vExtract_t, vNilCheck_p, vS2ap_s, vLen_s, vLen_str, vMin_i, vMax_i, vLoad_p, vStore_p, baseP_p, vB2s_s, vMake_i, vS2b_s, callee_f, liveAt_eq, storeAt_eq, partL_none, partL_some, natIn_none, natIn_int, bounds3_two, bin_add, bin_sub, bin_mul, bin_quo, bin_rem, bin_and, bin_or, bin_xor, bin_andNot, bin_eql, bin_neq, bin_lss, bin_leq, bin_gtr, bin_geq, bin_shl, bin_shr, bin_sadd, bin_seql, bin_sneq, un_not, un_neg, un_xor, after_some, put_some, put_none, res_nil, res_val, res_var, packed_one, packed_two, merge_nil, merge_ge, rf_tup2, rfIn_int, rfIn_bool, rfIn_u8s, rf_str, rfIn_str, ↓gate_true, gd_bool, gd_ut, gd_uf, ↓guardV_tt, ↓guardV_ff, ↓guardV_tf, ↓guardV_ft, ↓keepV_some, ↓qElse_some, ↓get_hit, ↓Option.bind_some, ↓if_true, ↓if_false, List.nil_append, List.cons_append, List.all_nil, List.all_cons, List.isEmpty_nil, reduceCtorEq, Bool.false_eq_true, Nat.reduceEqDiff, beq_self_eq_true, bne_self_eq_false, Bool.not_true, Bool.not_false, Int.natCast_nonneg, Nat.lt_irrefl, false_and, Int.reduceEq, rf_int, rf_bool, rf_tuple_ints, rf_u8s, arr_list, toList2, Bool.and_self, Nat.not_lt_zero, Nat.sub_zero, Nat.zero_le, Nat.le_add_right, cells_agg, cells_agg_size, cells_int, cells_int_size, okV_int, okV_bool, okV_str, okV_agg, okV_ptr, okV_slice, okV_func, okV_nilFunc, okV_iface, okV_nilIface, cells_bool, cells_bool_size, cells_ptr, cells_ptr_size, cells_slice, cells_slice_size, cells_str, cells_str_size, eq_self, wrapI64_small, Int.natCast_zero, Int.natCast_one, Int.cast_ofNat_Int, List.length_nil, List.length_cons, List.getElem?_cons_zero, List.getElem?_cons_succ, List.set_cons_zero, List.set_cons_succ, Nat.zero_add, Nat.add_zero, Nat.mul_one, Nat.zero_mul, Int.toNat_natCast, Int.toNat_zero, Int.lt_irrefl, Int.le_refl, Nat.le_refl, and_self, true_and, and_true, decide_true, decide_false, Int.reduceLE, Int.reduceLT, Int.reduceAdd, Int.reduceMul, Int.reduceSub, Int.reduceTDiv, Int.reduceTMod, Int.reduceNeg, Int.reduceToNat, Int.reduceGT, Int.reduceGE, Int.reducePow, Nat.reduceAdd, Nat.reduceMul, Nat.reduceSub, Nat.reduceDiv, Nat.reduceMod, Nat.reducePow, Nat.reduceLT, Nat.reduceLeDiff, Nat.min_self, ge_iff_le, gt_iff_lt, Option.isNone_none, Option.isSome_none, Option.isNone_some, Option.isSome_some, Bool.and_true, Bool.true_and, Bool.and_false, Bool.false_and, not_true_eq_false, not_false_eq_true, or_true, true_or, false_or, or_false, hget0, hgetK, hset0, hsetK, splice_single, splice_whole, take_whole, List.getElem?_nil, List.length_append, List.append_assoc, g1, g2, h1, h2, v1, ht, hf, List.length_replicate, take_all, eV_cells, eV_size, eV_ok, eV_fold, ns_len, p1, L1, L2, rf_eV]
  rfl
end Go.Ev.Ytaceeoghjgggjaa
set_option linter.unusedSimpArgs false
set_option linter.unusedVariables false
namespace Go.Ev.Ytaceeoghjgggjaa
open Go Go.Ev
attribute [local congr] bind_congr2 ite_congr2 qElse_congr gate_congr guardV_congr
set_option maxRecDepth 100000
theorem part20 {a b c : List Nat} {n : Nat} (hb : b.length = 20) (ha : a.length = n) : List.take 20 (List.drop n (ns .u64 (a ++ (b ++ c)))) = ns .u64 b := by
  simp only [ns_append]
  rw [List.drop_append_of_le_length (by rw [ns_len]; omega), List.drop_of_length_le (by rw [ns_len]; omega), List.nil_append, List.take_append_of_le_length (by rw [ns_len]; omega), List.take_of_length_le (by rw [ns_len]; omega)]
theorem adds_body {H : List Ob} {l : List Ob} {id n i : Nat} {o x r d : List Nat} {R : Ob} {cs : List Value} {g : List Ob} (hi : i < n) (hn : n < 100) (l1 : x.length = 20) (l2 : o.length = 20) (l4 : d.length = 5) (hm : evVal T 54 [eV o, eV x, eV d] = some (eV r)) (l3 : r.length = 20)
    (hA : ∀ l, (H ++ l)[id]? = some ⟨cs, true, true, true, 1⟩) (hcs : (cs.drop (i * 20)).take 20 = ns .u64 x) (hlen : i * 20 + 20 ≤ cs.length) :
    evCode T H.length a27_l0 ⟨[(2, .pointer (some ⟨H.length, 0, none⟩)), (3, .pointer (some ⟨H.length + 1, 0, none⟩)), (4, .pointer (some ⟨H.length + 2, 0, none⟩)), (9, .slice (some ⟨id, 0, none⟩) n n), (10, .int .i64 n), (11, .int .i64 i)], H ++ (R :: ⟨ns .u64 o, true, true, true, 1⟩ :: ⟨ns .u64 d, true, true, true, 1⟩ :: g), []⟩ =
      some (.normal, ⟨[(2, .pointer (some ⟨H.length, 0, none⟩)), (3, .pointer (some ⟨H.length + 1, 0, none⟩)), (4, .pointer (some ⟨H.length + 2, 0, none⟩)), (9, .slice (some ⟨id, 0, none⟩) n n), (10, .int .i64 n), (11, .int .i64 ((i + 1 : Nat) : Int))], H ++ (R :: ⟨ns .u64 r, true, true, true, 1⟩ :: ⟨ns .u64 d, true, true, true, 1⟩ :: (g ++ [⟨ns .u64 x, true, true, true, 1⟩])), []⟩) := by
  have hz : ∃ Z, List.replicate 20 (Value.int .u64 0) = ns .u64 Z ∧ Z.length = 20 := ⟨List.replicate 20 0, rfl, rfl⟩
  obtain ⟨Z, hz, l0⟩ := hz
  have e1 : ((i : Int) < (n : Int)) = True := eq_true (by omega)
  have w3 : IntKind.i64.wrap ((i : Int) + 1) = ((i + 1 : Nat) : Int) := wrap_nat (n := i + 1) (by omega)
  simp only [a27_l0, envOf, evCode_skip, evCode_exit, evCode_seq, fs_blockS, fs_blockR, fs_blockC, fs_blockK, fs_blockB, evCode_ret, quiet, keep_nil, keep_cons, fs_cond, fs_region, fs_regionP, fs_nil, fs_guard, fs_move, fs_pick, fs_alloc, fs_box, fs_load, fs_store, fs_bin, fs_eqv, fs_isNil, fs_un, fs_conv, fs_convStr, fs_field, fs_index, fs_indexStr, fs_build, fs_buildSlice, fs_fieldAddr, fs_indexAddr, fs_indexSl, fs_sliceArr, fs_sliceSl, fs_sliceStr, fs_makeSlice, fs_extract, fs_mkIface, fs_mkFunc, fs_nilCheck, fs_s2ap, fs_len, fs_minmax, fs_s2b, fs_b2s, fs_append, fs_copy, fs_callW, fs_callR, fs_callv, opd_tmp, opd_const, opd_func, opds_nil, opds_cons, opdOpt_none, opdOpt_some, opdParts_nil, opdParts_cons, get_miss, vPick_t, vPick_f, vEq_agg, vEq_aggN, vEq_bool, vEq_boolN, vConv_int, vStr_s, vField_agg, vIndex_agg, vIndexStr_s, vFieldAddr_p, vIndexAddr_p, vIndexSl_s, vSliceArr_p, vSliceSl_s, vSliceSl_n, vSliceStr_s, vExtract_t, vNilCheck_p, vS2ap_s, vLen_s, vLen_str, vMin_i, vMax_i, vLoad_p, vStore_p, baseP_p, vB2s_s, vMake_i, vS2b_s, callee_f, liveAt_eq, storeAt_eq, partL_none, partL_some, natIn_none, natIn_int, bounds3_two, bin_add, bin_sub, bin_mul, bin_quo, bin_rem, bin_and, bin_or, bin_xor, bin_andNot, bin_eql, bin_neq, bin_lss, bin_leq, bin_gtr, bin_geq, bin_shl, bin_shr, bin_sadd, bin_seql, bin_sneq, un_not, un_neg, un_xor, after_some, put_some, put_none, res_nil, res_val, res_var, packed_one, packed_two, merge_nil, merge_ge, rf_tup2, rfIn_int, rfIn_bool, rfIn_u8s, rf_str, rfIn_str, ↓gate_true, gd_bool, gd_ut, gd_uf, ↓guardV_tt, ↓guardV_ff, ↓guardV_tf, ↓guardV_ft, ↓keepV_some, ↓qElse_some, ↓get_hit, ↓Option.bind_some, ↓if_true, ↓if_false, List.nil_append, List.cons_append, List.all_nil, List.all_cons, List.isEmpty_nil, reduceCtorEq, Bool.false_eq_true, Nat.reduceEqDiff, beq_self_eq_true, bne_self_eq_false, Bool.not_true, Bool.not_false, Int.natCast_nonneg, Nat.lt_irrefl, false_and, Int.reduceEq, rf_int, rf_bool, rf_tuple_ints, rf_u8s, arr_list, toList2, Bool.and_self, Nat.not_lt_zero, Nat.sub_zero, Nat.zero_le, Nat.le_add_right, cells_agg, cells_agg_size, cells_int, cells_int_size, okV_int, okV_bool, okV_str, okV_agg, okV_ptr, okV_slice, okV_func, okV_nilFunc, okV_iface, okV_nilIface, cells_bool, cells_bool_size, cells_ptr, cells_ptr_size, cells_slice, cells_slice_size, cells_str, cells_str_size, eq_self, wrapI64_small, Int.natCast_zero, Int.natCast_one, Int.cast_ofNat_Int, List.length_nil, List.length_cons, List.getElem?_cons_zero, List.getElem?_cons_succ, List.set_cons_zero, List.set_cons_succ, Nat.zero_add, Nat.add_zero, Nat.mul_one, Nat.zero_mul, Int.toNat_natCast, Int.toNat_zero, Int.lt_irrefl, Int.le_refl, Nat.le_refl, and_self, true_and, and_true, decide_true, decide_false, Int.reduceLE, Int.reduceLT, Int.reduceAdd, Int.reduceMul, Int.reduceSub, Int.reduceTDiv, Int.reduceTMod, Int.reduceNeg, Int.reduceToNat, Int.reduceGT, Int.reduceGE, Int.reducePow, Nat.reduceAdd, Nat.reduceMul, Nat.reduceSub, Nat.reduceDiv, Nat.reduceMod, Nat.reducePow, Nat.reduceLT, Nat.reduceLeDiff, Nat.min_self, ge_iff_le, gt_iff_lt, Option.isNone_none, Option.isSome_none, Option.isNone_some, Option.isSome_some, Bool.and_true, Bool.true_and, Bool.and_false, Bool.false_and, not_true_eq_false, not_false_eq_true, or_true, true_or, false_or, or_false, hget0, hgetK, hset0, hsetK, splice_single, splice_whole, take_whole, List.getElem?_nil, List.length_append, List.append_assoc, Nat.add_assoc, hz, hA, hcs, hlen, hm, eV_cells, eV_size, eV_ok, eV_fold, ns_len, l0, l1, l2, l3, l4, rf_eV, e1, w3]
inductive Reps : List (List Nat) → List (Go.Cv.Pt Go.Fp.P Go.Fp.d) → Prop
  | nil : Reps [] []
  | cons {x xs p ps} : RepL x p → Reps xs ps → Reps (x :: xs) (p :: ps)
theorem Reps.len {xs : List (List Nat)} {ps : List (Go.Cv.Pt Go.Fp.P Go.Fp.d)} (h : Reps xs ps) : xs.length = ps.length := by
  induction h with
  | nil => rfl
  | cons _ _ ih => simp [ih]
theorem Reps.all {xs : List (List Nat)} {ps : List (Go.Cv.Pt Go.Fp.P Go.Fp.d)} (h : Reps xs ps) : ∀ x ∈ xs, x.length = 20 := by
  induction h with
  | nil => simp
  | cons h _ ih => intro y hy; rcases List.mem_cons.1 hy with rfl | hy; exact h.len; exact ih y hy
theorem Reps.get {xs : List (List Nat)} {ps : List (Go.Cv.Pt Go.Fp.P Go.Fp.d)} (h : Reps xs ps) : ∀ {i : Nat} {x : List Nat}, xs[i]? = some x → ∃ p, ps[i]? = some p ∧ RepL x p := by
  induction h with
  | nil => intro i x h; simp at h
  | cons h _ ih =>
    intro i x hx
    cases i with
    | zero => simp at hx; subst hx; exact ⟨_, rfl, h⟩
    | succ i => simp at hx; simpa using ih hx
theorem flat20 : ∀ (ys : List (List Nat)), (∀ x ∈ ys, x.length = 20) → ys.flatten.length = ys.length * 20 := by
  intro ys hy
  induction ys with
  | nil => rfl
  | cons y ys ih =>
    rw [List.flatten_cons, List.length_append, ih (fun x hx => hy x (by simp [hx])), (hy y (by simp)), List.length_cons]; omega
theorem adds_ev {H : List Ob} {id n : Nat} {xs : List (List Nat)} {ps : List (Go.Cv.Pt Go.Fp.P Go.Fp.d)} (hn : xs.length = n) (hN : n < 100) (hx : Reps xs ps) (h : H[id]? = some ⟨ns .u64 xs.flatten, true, true, true, 1⟩) :
    ∃ r d, evFun T 27 [.slice (some ⟨id, 0, none⟩) n n] H = some (eV r, H ++ (⟨ns .u64 r, true, true, true, 1⟩ :: ⟨ns .u64 r, true, true, true, 1⟩ :: ⟨ns .u64 d, true, true, true, 1⟩ :: xs.map fun x => (⟨ns .u64 x, true, true, true, 1⟩ : Ob)), []) ∧ RepL r (ps.foldl padd pzero) := by
  have hid : id < H.length := (List.getElem?_eq_some_iff.1 h).1
  have hA : ∀ l, (H ++ l)[id]? = some ⟨ns .u64 xs.flatten, true, true, true, 1⟩ := fun l => by rw [List.getElem?_append_left hid]; exact h
  obtain ⟨d, hd, Ed, fd⟩ := factor_v
  obtain ⟨z, hz, Ez⟩ := zero_v
  have hZ : ∃ Z, List.replicate 20 (Value.int .u64 0) = ns .u64 Z ∧ Z.length = 20 := ⟨List.replicate 20 0, rfl, rfl⟩
  obtain ⟨Z, hZ, l0⟩ := hZ
  obtain ⟨st, hb, r, rfl, hr1⟩ := block_inv (T := T) (base := H.length) (id := 0) (body := a27_l0)
    (fun i st => ∃ r : List Nat, st = ⟨[(2, .pointer (some ⟨H.length, 0, none⟩)), (3, .pointer (some ⟨H.length + 1, 0, none⟩)), (4, .pointer (some ⟨H.length + 2, 0, none⟩)), (9, .slice (some ⟨id, 0, none⟩) n n), (10, .int .i64 n), (11, .int .i64 (i : Nat))], H ++ (⟨ns .u64 Z, true, true, true, 1⟩ :: ⟨ns .u64 r, true, true, true, 1⟩ :: ⟨ns .u64 d, true, true, true, 1⟩ :: ((xs.take i).map fun x => (⟨ns .u64 x, true, true, true, 1⟩ : Ob))), []⟩ ∧ RepL r ((ps.take i).foldl padd pzero))
    (Q := fun st => ∃ r : List Nat, st = ⟨[(2, .pointer (some ⟨H.length, 0, none⟩)), (3, .pointer (some ⟨H.length + 1, 0, none⟩)), (4, .pointer (some ⟨H.length + 2, 0, none⟩)), (9, .slice (some ⟨id, 0, none⟩) n n), (10, .int .i64 n), (11, .int .i64 n), (12, .bool false)], H ++ (⟨ns .u64 Z, true, true, true, 1⟩ :: ⟨ns .u64 r, true, true, true, 1⟩ :: ⟨ns .u64 d, true, true, true, 1⟩ :: (xs.map fun x => (⟨ns .u64 x, true, true, true, 1⟩ : Ob))), []⟩ ∧ RepL r (ps.foldl padd pzero))
    n (s := ⟨[(2, .pointer (some ⟨H.length, 0, none⟩)), (3, .pointer (some ⟨H.length + 1, 0, none⟩)), (4, .pointer (some ⟨H.length + 2, 0, none⟩)), (9, .slice (some ⟨id, 0, none⟩) n n), (10, .int .i64 n), (11, .int .i64 0)], H ++ [⟨ns .u64 Z, true, true, true, 1⟩, ⟨ns .u64 z, true, true, true, 1⟩, ⟨ns .u64 d, true, true, true, 1⟩], []⟩) ⟨z, rfl, Ez⟩
    (fun i st hi hs => by
      obtain ⟨r, rfl, hr1⟩ := hs
      obtain ⟨x, hxi⟩ : ∃ y, xs[i]? = some y := ⟨_, List.getElem?_eq_getElem (by omega)⟩
      obtain ⟨p, hpi, hxe⟩ := hx.get hxi
      obtain ⟨r', hm, g1⟩ := plusL hr1 hxe Ed fd
      have hsplit : xs = xs.take i ++ x :: xs.drop (i + 1) := by
        have h1 := List.getElem?_eq_some_iff.1 hxi
        conv => lhs; rw [← List.take_append_drop i xs, List.drop_eq_getElem_cons h1.1, h1.2]
      have htl : (xs.take i).flatten.length = i * 20 := by
        rw [flat20 _ (fun y hy => hx.all y (List.mem_of_mem_take hy)), List.length_take, Nat.min_eq_left (by omega)]
      have hcs : ((ns .u64 xs.flatten).drop (i * 20)).take 20 = ns .u64 x := by
        conv => lhs; rw [hsplit, List.flatten_append, List.flatten_cons]
        exact part20 hxe.len htl
      have hb := adds_body (R := ⟨ns .u64 Z, true, true, true, 1⟩) (g := (xs.take i).map fun x => (⟨ns .u64 x, true, true, true, 1⟩ : Ob)) (l := []) hi hN hxe.len hr1.len Ed.len hm g1.len hA hcs (by rw [ns_len, flat20 xs hx.all, hn]; omega)
      have htk : xs.take (i + 1) = xs.take i ++ [x] := by rw [List.take_add_one, hxi]; rfl
      have htp : ps.take (i + 1) = ps.take i ++ [p] := by rw [List.take_add_one, hpi]; rfl
      refine ⟨_, hb, r', ?_, ?_⟩
      · rw [htk, List.map_append]; rfl
      · rw [htp, List.foldl_append]; exact g1)
    (fun st hs => by
      obtain ⟨r, rfl, hr1⟩ := hs
      have e1 : ((n : Int) < (n : Int)) = False := eq_false (by omega)
      have ht : xs.take n = xs := List.take_of_length_le (by omega)
      have ht2 : ps.take n = ps := List.take_of_length_le (by have := hx.len; omega)
      rw [ht2] at hr1
      rw [ht]
      refine ⟨_, ?_, r, rfl, hr1⟩
      simp only [a27_l0, envOf, evCode_skip, evCode_exit, evCode_seq, fs_blockS, fs_blockR, fs_blockC, fs_blockK, fs_blockB, evCode_ret, quiet, keep_nil, keep_cons, fs_cond, fs_region, fs_regionP, fs_nil, fs_guard, fs_move, fs_pick, fs_alloc, fs_box, fs_load, fs_store, fs_bin, fs_eqv, fs_isNil, fs_un, fs_conv, fs_convStr, fs_field, fs_index, fs_indexStr, fs_build, fs_buildSlice, fs_fieldAddr, fs_indexAddr, fs_indexSl, fs_sliceArr, fs_sliceSl, fs_sliceStr, fs_makeSlice, fs_extract, fs_mkIface, fs_mkFunc, fs_nilCheck, fs_s2ap, fs_len, fs_minmax, fs_s2b, fs_b2s, fs_append, fs_copy, fs_callW, fs_callR, fs_callv, opd_tmp, opd_const, opd_func, opds_nil, opds_cons, opdOpt_none, opdOpt_some, opdParts_nil, opdParts_cons, get_miss, vPick_t, vPick_f, vEq_agg, vEq_aggN, vEq_bool, vEq_boolN, vConv_int, vStr_s, vField_agg, vIndex_agg, vIndexStr_s, vFieldAddr_p, vIndexAddr_p, vIndexSl_s, vSliceArr_p, vSliceSl_s, vSliceSl_n, vSliceStr_s, vExtract_t, vNilCheck_p, vS2ap_s, vLen_s, vLen_str, vMin_i, vMax_i, vLoad_p, vStore_p, baseP_p, vB2s_s, vMake_i, vS2b_s, callee_f, liveAt_eq, storeAt_eq, partL_none, partL_some, natIn_none, natIn_int, bounds3_two, bin_add, bin_sub, bin_mul, bin_quo, bin_rem, bin_and, bin_or, bin_xor, bin_andNot, bin_eql, bin_neq, bin_lss, bin_leq, bin_gtr, bin_geq, bin_shl, bin_shr, bin_sadd, bin_seql, bin_sneq, un_not, un_neg, un_xor, after_some, put_some, put_none, res_nil, res_val, res_var, packed_one, packed_two, merge_nil, merge_ge, rf_tup2, rfIn_int, rfIn_bool, rfIn_u8s, rf_str, rfIn_str, ↓gate_true, gd_bool, gd_ut, gd_uf, ↓guardV_tt, ↓guardV_ff, ↓guardV_tf, ↓guardV_ft, ↓keepV_some, ↓qElse_some, ↓get_hit, ↓Option.bind_some, ↓if_true, ↓if_false, List.nil_append, List.cons_append, List.all_nil, List.all_cons, List.isEmpty_nil, reduceCtorEq, Bool.false_eq_true, Nat.reduceEqDiff, beq_self_eq_true, bne_self_eq_false, Bool.not_true, Bool.not_false, Int.natCast_nonneg, Nat.lt_irrefl, false_and, Int.reduceEq, rf_int, rf_bool, rf_tuple_ints, rf_u8s, arr_list, toList2, Bool.and_self, Nat.not_lt_zero, Nat.sub_zero, Nat.zero_le, Nat.le_add_right, cells_agg, cells_agg_size, cells_int, cells_int_size, okV_int, okV_bool, okV_str, okV_agg, okV_ptr, okV_slice, okV_func, okV_nilFunc, okV_iface, okV_nilIface, cells_bool, cells_bool_size, cells_ptr, cells_ptr_size, cells_slice, cells_slice_size, cells_str, cells_str_size, eq_self, wrapI64_small, Int.natCast_zero, Int.natCast_one, Int.cast_ofNat_Int, List.length_nil, List.length_cons, List.getElem?_cons_zero, List.getElem?_cons_succ, List.set_cons_zero, List.set_cons_succ, Nat.zero_add, Nat.add_zero, Nat.mul_one, Nat.zero_mul, Int.toNat_natCast, Int.toNat_zero, Int.lt_irrefl, Int.le_refl, Nat.le_refl, and_self, true_and, and_true, decide_true, decide_false, Int.reduceLE, Int.reduceLT, Int.reduceAdd, Int.reduceMul, Int.reduceSub, Int.reduceTDiv, Int.reduceTMod, Int.reduceNeg, Int.reduceToNat, Int.reduceGT, Int.reduceGE, Int.reducePow, Nat.reduceAdd, Nat.reduceMul, Nat.reduceSub, Nat.reduceDiv, Nat.reduceMod, Nat.reducePow, Nat.reduceLT, Nat.reduceLeDiff, Nat.min_self, ge_iff_le, gt_iff_lt, Option.isNone_none, Option.isSome_none, Option.isNone_some, Option.isSome_some, Bool.and_true, Bool.true_and, Bool.and_false, Bool.false_and, not_true_eq_false, not_false_eq_true, or_true, true_or, false_or, or_false, e1])
  refine ⟨r, d, ?_, hr1⟩
  have l1 := hr1.len
  have l2 := Ez.len
  have l3 := Ed.len
  rw [evFun_fn (fn := a27) rfl]
  have hz5 : List.replicate 5 (Value.int .u64 0) = ns .u64 [0, 0, 0, 0, 0] := rfl
  have l5 : ([0, 0, 0, 0, 0] : List Nat).length = 5 := rfl
  simp only [a27, envOf, evCode_skip, evCode_exit, evCode_seq, fs_blockS, fs_blockR, fs_blockC, fs_blockK, fs_blockB, evCode_ret, quiet, keep_nil, keep_cons, fs_cond, fs_region, fs_regionP, fs_nil, fs_guard, fs_move, fs_pick, fs_alloc, fs_box, fs_load, fs_store, fs_bin, fs_eqv, fs_isNil, fs_un, fs_conv, fs_convStr, fs_field, fs_index, fs_indexStr, fs_build, fs_buildSlice, fs_fieldAddr, fs_indexAddr, fs_indexSl, fs_sliceArr, fs_sliceSl, fs_sliceStr, fs_makeSlice, fs_extract, fs_mkIface, fs_mkFunc, fs_nilCheck, fs_s2ap, fs_len, fs_minmax, fs_s2b, fs_b2s, fs_append, fs_copy, fs_callW, fs_callR, fs_callv, opd_tmp, opd_const, opd_func, opds_nil, opds_cons, opdOpt_none, opdOpt_some, opdParts_nil, opdParts_cons, get_miss, vPick_t, vPick_f, vEq_agg, vEq_aggN, vEq_bool, vEq_boolN, vConv_int, vStr_s, vField_agg, vIndex_agg, vIndexStr_s, vFieldAddr_p, vIndexAddr_p, vIndexSl_s, vSliceArr_p, vSliceSl_s, vSliceSl_n, vSliceStr_s, vExtract_t, vNilCheck_p, vS2ap_s, vLen_s, vLen_str, vMin_i, vMax_i, vLoad_p, vStore_p, baseP_p, vB2s_s, vMake_i, vS2b_s, callee_f, liveAt_eq, storeAt_eq, partL_none, partL_some, natIn_none, natIn_int, bounds3_two, bin_add, bin_sub, bin_mul, bin_quo, bin_rem, bin_and, bin_or, bin_xor, bin_andNot, bin_eql, bin_neq, bin_lss, bin_leq, bin_gtr, bin_geq, bin_shl, bin_shr, bin_sadd, bin_seql, bin_sneq, un_not, un_neg, un_xor, after_some, put_some, put_none, res_nil, res_val, res_var, packed_one, packed_two, merge_nil, merge_ge, rf_tup2, rfIn_int, rfIn_bool, rfIn_u8s, rf_str, rfIn_str, ↓gate_true, gd_bool, gd_ut, gd_uf, ↓guardV_tt, ↓guardV_ff, ↓guardV_tf, ↓guardV_ft, ↓keepV_some, ↓qElse_some, ↓get_hit, ↓Option.bind_some, ↓if_true, ↓if_false, List.nil_append, List.cons_append, List.all_nil, List.all_cons, List.isEmpty_nil, reduceCtorEq, Bool.false_eq_true, Nat.reduceEqDiff, beq_self_eq_true, bne_self_eq_false, Bool.not_true, Bool.not_false, Int.natCast_nonneg, Nat.lt_irrefl, false_and, Int.reduceEq, rf_int, rf_bool, rf_tuple_ints, rf_u8s, arr_list, toList2, Bool.and_self, Nat.not_lt_zero, Nat.sub_zero, Nat.zero_le, Nat.le_add_right, cells_agg, cells_agg_size, cells_int, cells_int_size, okV_int, okV_bool, okV_str, okV_agg, okV_ptr, okV_slice, okV_func, okV_nilFunc, okV_iface, okV_nilIface, cells_bool, cells_bool_size, cells_ptr, cells_ptr_size, cells_slice, cells_slice_size, cells_str, cells_str_size, eq_self, wrapI64_small, Int.natCast_zero, Int.natCast_one, Int.cast_ofNat_Int, List.length_nil, List.length_cons, List.getElem?_cons_zero, List.getElem?_cons_succ, List.set_cons_zero, List.set_cons_succ, Nat.zero_add, Nat.add_zero, Nat.mul_one, Nat.zero_mul, Int.toNat_natCast, Int.toNat_zero, Int.lt_irrefl, Int.le_refl, Nat.le_refl, and_self, true_and, and_true, decide_true, decide_false, Int.reduceLE, Int.reduceLT, Int.reduceAdd, Int.reduceMul, Int.reduceSub, Int.reduceTDiv, Int.reduceTMod, Int.reduceNeg, Int.reduceToNat, Int.reduceGT, Int.reduceGE, Int.reducePow, Nat.reduceAdd, Nat.reduceMul, Nat.reduceSub, Nat.reduceDiv, Nat.reduceMod, Nat.reducePow, Nat.reduceLT, Nat.reduceLeDiff, Nat.min_self, ge_iff_le, gt_iff_lt, Option.isNone_none, Option.isSome_none, Option.isNone_some, Option.isSome_some, Bool.and_true, Bool.true_and, Bool.and_false, Bool.false_and, not_true_eq_false, not_false_eq_true, or_true, true_or, false_or, or_false, hget0, hgetK, hset0, hsetK, splice_single, splice_whole, take_whole, List.getElem?_nil, List.length_append, List.append_assoc, Nat.add_assoc, hZ, hz5, l5, hd, hz, hb, eV_cells, eV_size, eV_ok, eV_fold, ns_len, l0, l1, l2, l3, rf_eV]
theorem fold2 {p q : Go.Cv.Pt Go.Fp.P Go.Fp.d} : [p, q].foldl padd pzero = padd p q := by
  show padd (padd pzero p) q = _
  rw [show padd pzero p = p from Go.Cv.zero_add Go.Fp.fld p]
end Go.Ev.Ytaceeoghjgggjaa
set_option linter.unusedSimpArgs false
set_option linter.unusedVariables false
namespace Go.Ev.Ytaceeoghjgggjaa
open Go Go.Ev
attribute [local congr] bind_congr2 ite_congr2 qElse_congr gate_congr guardV_congr
set_option maxRecDepth 100000
def rootW (u v : Go.Fp.Fe) : Go.Fp.Fe := u * (v * v * v) * Go.Fp.pow (u * (v * v * v) * (v * v * v) * v) (2 ^ 252 - 1 - 2)
def jj : Go.Fp.Fe := Go.Fp.pow 2 (2 ^ 253 - 1 - 4)
theorem jj_eq : jj = Go.Fp.i := by
  show Go.Fp.pow (Go.Fp.fp 2) _ = Go.Fp.fp Go.Fp.iN
  exact Go.Fp.pow_test (f := 256) (by decide +kernel) (by decide +kernel)
theorem jj_sq : jj * jj = -1 := by rw [jj_eq]; exact Go.Fp.root_i
theorem quarter : (2 ^ 252 - 1 - 2) + (2 ^ 252 - 1 - 2) + 1 + ((2 ^ 252 - 1 - 2) + (2 ^ 252 - 1 - 2) + 1) = (Go.Fp.P - 1) / 2 := by rw [Go.Fp.P_eq]
theorem no_root {u v s : Go.Fp.Fe} (h1 : v * rootW u v * rootW u v ≠ u) (h2 : v * rootW u v * rootW u v ≠ -u) : v * (s * s) ≠ u := fun hs => by
  have F := Go.Fp.fld
  obtain ⟨g, hg⟩ : ∃ g, g = v * v * v * v * s := ⟨_, rfl⟩
  have ht : u * (v * v * v) * (v * v * v) * v = g * g := by subst hg; subst hs; grobner
  rcases Go.Fp.pow_half g with h | h
  · obtain ⟨k, hk⟩ : ∃ k, k = 2 ^ 252 - 1 - 2 := ⟨_, rfl⟩
    have hq := quarter
    rw [← hk] at hq
    rw [← hq, Go.Fp.pow_add, Go.Fp.pow_add, Go.Fp.pow_add, Go.Fp.pow_one] at h
    have hw : rootW u v = u * (v * v * v) * Go.Fp.pow (g * g) k := by unfold rootW; rw [ht, hk]
    rw [hw] at h1 h2
    generalize Go.Fp.pow (g * g) k = q at *
    have he : (q * q * (g * g) - 1) * (q * q * (g * g) + 1) = 0 := by clear h1 h2 hw ht hg hs; grobner
    have hv : v * (u * (v * v * v) * q) * (u * (v * v * v) * q) = u * (q * q * (g * g)) := by clear h1 h2 hw hg hs he h; grobner
    rcases F.dom he with h | h
    · exact h1 (by rw [hv]; clear h1 h2 hw ht hg hs he hv; grobner)
    · exact h2 (by rw [hv]; clear h1 h2 hw ht hg hs he hv; grobner)
  · have hu : u * (v * v * v) * (v * v * v) * v = 0 := by rw [ht, h]; grobner
    have hu0 : u = 0 := by
      rcases F.dom hu with h0 | h0
      · rcases F.dom h0 with h0 | h0
        · rcases F.dom h0 with h0 | h0
          · exact h0
          · rcases F.dom h0 with h0 | h0
            · rcases F.dom h0 with h0 | h0 <;> (rw [← hs, h0]; grobner)
            · rw [← hs, h0]; grobner
        · rcases F.dom h0 with h0 | h0
          · rcases F.dom h0 with h0 | h0 <;> (rw [← hs, h0]; grobner)
          · rw [← hs, h0]; grobner
      · rw [← hs, h0]; grobner
    exact h1 (by unfold rootW; rw [hu0]; grobner)
theorem ones252 : evVal T 84 [.int .i64 252, .int .u8 2] = some (.agg (u8s (dig 256 32 (2 ^ 252 - 1 - 2))).toArray) := ones_v (n := 252) (less := 2) (by decide) (by decide) (by decide)
theorem ones253 : evVal T 84 [.int .i64 253, .int .u8 4] = some (.agg (u8s (dig 256 32 (2 ^ 253 - 1 - 4))).toArray) := ones_v (n := 253) (less := 4) (by decide) (by decide) (by decide)
def rootV (r : List Nat) (ok : Bool) : Value := .tuple #[eV r, .bool ok]
theorem root_v {u v : List Nat} (Eu : El u (2 ^ 52)) (Ev : El v (2 ^ 52)) :
    ∃ r ok, evVal T 60 [eV u, eV v] = some (rootV r ok) ∧ El r (2 ^ 52) ∧ (ok = true → fe v * (fe r * fe r) = fe u ∧ ((fe r).val % 2 = 0 ∨ fe r = 0)) ∧ (ok = false → ∀ s, fe v * (s * s) ≠ fe u) := by
  obtain ⟨r1, hr1, Er1, fr1⟩ := prod_ev (H := [⟨ns .u64 u, true, true, true, 1⟩, ⟨ns .u64 v, true, true, true, 1⟩, ⟨ns .u64 [0, 0, 0, 0, 0], true, true, true, 1⟩, ⟨ns .u64 [v, v, v].flatten, true, true, true, 1⟩]) (id := 3) (n := 3) (xs := [v, v, v]) rfl (by decide) (by intro w hw; simp only [List.mem_cons, List.not_mem_nil, or_false] at hw; rcases hw with rfl | rfl | rfl <;> assumption) rfl
  simp only [List.map_cons, List.map_nil, List.cons_append, List.nil_append] at hr1
  simp only [List.map_cons, List.map_nil, List.foldl_cons, List.foldl_nil] at fr1
  obtain ⟨r2, hr2, Er2, fr2⟩ := prod_ev (H := [⟨ns .u64 u, true, true, true, 1⟩, ⟨ns .u64 v, true, true, true, 1⟩, ⟨ns .u64 [0, 0, 0, 0, 0], true, true, true, 1⟩, ⟨ns .u64 [v, v, v].flatten, true, true, true, 1⟩, ⟨ns .u64 r1, true, true, true, 1⟩, ⟨ns .u64 r1, true, true, true, 1⟩, ⟨ns .u64 v, true, true, true, 1⟩, ⟨ns .u64 v, true, true, true, 1⟩, ⟨ns .u64 v, true, true, true, 1⟩, ⟨ns .u64 r1, true, true, true, 1⟩, ⟨ns .u64 [u, r1, r1, v].flatten, true, true, true, 1⟩]) (id := 10) (n := 4) (xs := [u, r1, r1, v]) rfl (by decide) (by intro w hw; simp only [List.mem_cons, List.not_mem_nil, or_false] at hw; rcases hw with rfl | rfl | rfl | rfl <;> assumption) rfl
  simp only [List.map_cons, List.map_nil, List.cons_append, List.nil_append] at hr2
  simp only [List.map_cons, List.map_nil, List.foldl_cons, List.foldl_nil] at fr2
  obtain ⟨r3, hr3, Er3, fr3⟩ := power_ones (n := 252) (less := 2) Er2 (by decide) (by decide) (by decide)
  obtain ⟨r4, hr4, Er4, fr4⟩ := prod_ev (H := [⟨ns .u64 u, true, true, true, 1⟩, ⟨ns .u64 v, true, true, true, 1⟩, ⟨ns .u64 [0, 0, 0, 0, 0], true, true, true, 1⟩, ⟨ns .u64 [v, v, v].flatten, true, true, true, 1⟩, ⟨ns .u64 r1, true, true, true, 1⟩, ⟨ns .u64 r1, true, true, true, 1⟩, ⟨ns .u64 v, true, true, true, 1⟩, ⟨ns .u64 v, true, true, true, 1⟩, ⟨ns .u64 v, true, true, true, 1⟩, ⟨ns .u64 r1, true, true, true, 1⟩, ⟨ns .u64 [u, r1, r1, v].flatten, true, true, true, 1⟩, ⟨ns .u64 r2, true, true, true, 1⟩, ⟨ns .u64 r2, true, true, true, 1⟩, ⟨ns .u64 u, true, true, true, 1⟩, ⟨ns .u64 r1, true, true, true, 1⟩, ⟨ns .u64 r1, true, true, true, 1⟩, ⟨ns .u64 v, true, true, true, 1⟩, ⟨ns .u64 [u, r1, r3].flatten, true, true, true, 1⟩]) (id := 17) (n := 3) (xs := [u, r1, r3]) rfl (by decide) (by intro w hw; simp only [List.mem_cons, List.not_mem_nil, or_false] at hw; rcases hw with rfl | rfl | rfl <;> assumption) rfl
  simp only [List.map_cons, List.map_nil, List.cons_append, List.nil_append] at hr4
  simp only [List.map_cons, List.map_nil, List.foldl_cons, List.foldl_nil] at fr4
  obtain ⟨r5, hr5, Er5, fr5⟩ := prod_ev (H := [⟨ns .u64 u, true, true, true, 1⟩, ⟨ns .u64 v, true, true, true, 1⟩, ⟨ns .u64 [0, 0, 0, 0, 0], true, true, true, 1⟩, ⟨ns .u64 [v, v, v].flatten, true, true, true, 1⟩, ⟨ns .u64 r1, true, true, true, 1⟩, ⟨ns .u64 r1, true, true, true, 1⟩, ⟨ns .u64 v, true, true, true, 1⟩, ⟨ns .u64 v, true, true, true, 1⟩, ⟨ns .u64 v, true, true, true, 1⟩, ⟨ns .u64 r1, true, true, true, 1⟩, ⟨ns .u64 [u, r1, r1, v].flatten, true, true, true, 1⟩, ⟨ns .u64 r2, true, true, true, 1⟩, ⟨ns .u64 r2, true, true, true, 1⟩, ⟨ns .u64 u, true, true, true, 1⟩, ⟨ns .u64 r1, true, true, true, 1⟩, ⟨ns .u64 r1, true, true, true, 1⟩, ⟨ns .u64 v, true, true, true, 1⟩, ⟨ns .u64 [u, r1, r3].flatten, true, true, true, 1⟩, ⟨ns .u64 r4, true, true, true, 1⟩, ⟨ns .u64 r4, true, true, true, 1⟩, ⟨ns .u64 u, true, true, true, 1⟩, ⟨ns .u64 r1, true, true, true, 1⟩, ⟨ns .u64 r3, true, true, true, 1⟩, ⟨ns .u64 r4, true, true, true, 1⟩, ⟨ns .u64 [v, r4, r4].flatten, true, true, true, 1⟩]) (id := 24) (n := 3) (xs := [v, r4, r4]) rfl (by decide) (by intro w hw; simp only [List.mem_cons, List.not_mem_nil, or_false] at hw; rcases hw with rfl | rfl | rfl <;> assumption) rfl
  simp only [List.map_cons, List.map_nil, List.cons_append, List.nil_append] at hr5
  simp only [List.map_cons, List.map_nil, List.foldl_cons, List.foldl_nil] at fr5
  have k1 := eq_v Er5 Eu
  obtain ⟨nu, hnu, Enu, fnu⟩ := neg_v Eu
  have k2 := eq_v Er5 Enu
  obtain ⟨two, htwo⟩ : ∃ two : List Nat, two = [2, 0, 0, 0, 0] := ⟨_, rfl⟩
  have Etwo : El two (2 ^ 52) := by rw [htwo]; exact two_E
  have vtwo : evVal T 50 [.int .u32 2] = some (eV two) := by rw [htwo]; exact two_v
  have ftwo : fe two = 2 := by rw [htwo]; exact two_fe
  clear htwo
  obtain ⟨j, hj, Ej, fj⟩ := power_ones (n := 253) (less := 4) Etwo (by decide) (by decide) (by decide)
  obtain ⟨q, hq, Eq, fq⟩ := mul_ev Er4 Ej
  obtain ⟨n1, hn1, En1, fn1⟩ := neg_v Er4
  obtain ⟨n2, hn2, En2, fn2⟩ := neg_v Eq
  have o1 := odd_v Er4
  have o2 := odd_v Eq
  have c1 := ones252
  have c2 := ones253
  have g1 := fill3 Ev Ev Ev
  have g2 := fill4 Eu Er1 Er1 Ev
  rw [pL_flat] at g2
  have g3 := fill3 Eu Er1 Er3
  have g4 := fill3 Ev Er4 Er4
  have hw : fe r4 = rootW (fe u) (fe v) := by
    rw [fr4, fr3, fr1, fr2, fr1]; unfold rootW
    rw [show (1 * fe u * (1 * fe v * fe v * fe v) * (1 * fe v * fe v * fe v) * fe v) = fe u * (fe v * fe v * fe v) * (fe v * fe v * fe v) * fe v from by grobner]
    generalize Go.Fp.pow _ _ = p
    grobner
  have hjj : fe j = jj := by rw [fj, ftwo]; rfl
  have l1 := Eu.len
  have l2 := Ev.len
  have l3 := Er1.len
  have l4 := Er4.len
  have l5 := Er5.len
  have l6 := Eq.len
  have l7 := En1.len
  have l8 := En2.len
  have hz5 : List.replicate 5 (Value.int .u64 0) = ns .u64 [0, 0, 0, 0, 0] := rfl
  have hf5 : fillL (ns .u64 [0, 0, 0, 0, 0]) [] = some (ns .u64 [0, 0, 0, 0, 0]) := rfl
  have l0 : ([0, 0, 0, 0, 0] : List Nat).length = 5 := rfl
  clear Ej Etwo ftwo fj
  generalize dig 256 32 (2 ^ 252 - 1 - 2) = K1 at *
  generalize dig 256 32 (2 ^ 253 - 1 - 4) = K2 at *
  have hsq : fe r5 = fe v * rootW (fe u) (fe v) * rootW (fe u) (fe v) := by rw [fr5, hw]; generalize rootW (fe u) (fe v) = w; grobner
  have evn : ∀ a : Go.Fp.Fe, a.val % 2 = 1 → (-a).val % 2 = 0 ∨ -a = 0 := by
    intro a ha
    left
    have hlt := a.isLt
    have h0 : (Go.Fp.P - a.val) < Go.Fp.P := by omega
    have h1 : (-a).val = (Go.Fp.P - a.val) % Go.Fp.P := rfl
    rw [h1, Nat.mod_eq_of_lt h0]
    have hP : Go.Fp.P % 2 = 1 := by rw [Go.Fp.P_eq]
    omega
  by_cases hA : fe r5 = fe u
  · rw [decide_eq_true hA] at k1
    have hroot : fe v * (fe r4 * fe r4) = fe u := by rw [← hA, hsq, hw]; generalize rootW (fe u) (fe v) = w; grobner
    by_cases hO : (fe r4).val % 2 = 1
    · rw [decide_eq_true hO] at o1
      refine ⟨n1, true, ?_, En1, fun _ => ⟨?_, ?_⟩, fun h => by cases h⟩
      · apply evVal_ex
        apply Exists.intro
        rw [evFun_fn (fn := a60) rfl]
        simp only [a60, envOf, evCode_skip, evCode_exit, evCode_seq, fs_blockS, fs_blockR, fs_blockC, fs_blockK, fs_blockB, evCode_ret, quiet, keep_nil, keep_cons, fs_cond, fs_region, fs_regionQ, quiet2_eq, lastOf_nil, lastOf_cons, List.take_succ_cons, List.take_zero, List.drop_succ_cons, List.drop_zero, Int.reduceBEq, Int.reduceBNe,  fs_nil, fs_guard, fs_move, fs_pick, fs_alloc, fs_box, fs_load, fs_store, fs_bin, fs_eqv, fs_isNil, fs_un, fs_conv, fs_convStr, fs_field, fs_index, fs_indexStr, fs_build, fs_buildSlice, fs_fieldAddr, fs_indexAddr, fs_indexSl, fs_sliceArr, fs_sliceSl, fs_sliceStr, fs_makeSlice, fs_extract, fs_mkIface, fs_mkFunc, fs_nilCheck, fs_s2ap, fs_len, fs_minmax, fs_s2b, fs_b2s, fs_append, fs_copy, fs_callW, fs_callR, fs_callv, opd_tmp, opd_const, opd_func, opds_nil, opds_cons, opdOpt_none, opdOpt_some, opdParts_nil, opdParts_cons, get_miss, vPick_t, vPick_f, vEq_agg, vEq_aggN, vEq_bool, vEq_boolN, vConv_int, vStr_s, vField_agg, vIndex_agg, vIndexStr_s, vFieldAddr_p, vIndexAddr_p, vIndexSl_s, vSliceArr_p, vSliceSl_s, vSliceSl_n, vSliceStr_s, vExtract_t, vNilCheck_p, vS2ap_s, vLen_s, vLen_str, vMin_i, vMax_i, vLoad_p, vStore_p, baseP_p, vB2s_s, vMake_i, vS2b_s, callee_f, liveAt_eq, storeAt_eq, partL_none, partL_some, natIn_none, natIn_int, bounds3_two, bin_add, bin_sub, bin_mul, bin_quo, bin_rem, bin_and, bin_or, bin_xor, bin_andNot, bin_eql, bin_neq, bin_lss, bin_leq, bin_gtr, bin_geq, bin_shl, bin_shr, bin_sadd, bin_seql, bin_sneq, un_not, un_neg, un_xor, after_some, put_some, put_none, res_nil, res_val, res_var, packed_one, packed_two, merge_nil, merge_ge, rf_tup2, rfIn_int, rfIn_bool, rfIn_u8s, rf_str, rfIn_str, ↓gate_true, gd_bool, gd_ut, gd_uf, ↓guardV_tt, ↓guardV_ff, ↓guardV_tf, ↓guardV_ft, ↓keepV_some, ↓qElse_some, ↓get_hit, ↓Option.bind_some, ↓if_true, ↓if_false, List.nil_append, List.cons_append, List.all_nil, List.all_cons, List.isEmpty_nil, reduceCtorEq, Bool.false_eq_true, Nat.reduceEqDiff, beq_self_eq_true, bne_self_eq_false, Bool.not_true, Bool.not_false, Int.natCast_nonneg, Nat.lt_irrefl, false_and, Int.reduceEq, rf_int, rf_bool, rf_tuple_ints, rf_u8s, arr_list, toList2, Bool.and_self, Nat.not_lt_zero, Nat.sub_zero, Nat.zero_le, Nat.le_add_right, cells_agg, cells_agg_size, cells_int, cells_int_size, okV_int, okV_bool, okV_str, okV_agg, okV_ptr, okV_slice, okV_func, okV_nilFunc, okV_iface, okV_nilIface, cells_bool, cells_bool_size, cells_ptr, cells_ptr_size, cells_slice, cells_slice_size, cells_str, cells_str_size, eq_self, wrapI64_small, Int.natCast_zero, Int.natCast_one, Int.cast_ofNat_Int, List.length_nil, List.length_cons, List.getElem?_cons_zero, List.getElem?_cons_succ, List.set_cons_zero, List.set_cons_succ, Nat.zero_add, Nat.add_zero, Nat.mul_one, Nat.zero_mul, Int.toNat_natCast, Int.toNat_zero, Int.lt_irrefl, Int.le_refl, Nat.le_refl, and_self, true_and, and_true, decide_true, decide_false, Int.reduceLE, Int.reduceLT, Int.reduceAdd, Int.reduceMul, Int.reduceSub, Int.reduceTDiv, Int.reduceTMod, Int.reduceNeg, Int.reduceToNat, Int.reduceGT, Int.reduceGE, Int.reducePow, Nat.reduceAdd, Nat.reduceMul, Nat.reduceSub, Nat.reduceDiv, Nat.reduceMod, Nat.reducePow, Nat.reduceLT, Nat.reduceLeDiff, Nat.min_self, ge_iff_le, gt_iff_lt, Option.isNone_none, Option.isSome_none, Option.isNone_some, Option.isSome_some, Bool.and_true, Bool.true_and, Bool.and_false, Bool.false_and, not_true_eq_false, not_false_eq_true, or_true, true_or, false_or, or_false, hget0, hgetK, hset0, hsetK, splice_single, splice_whole, take_whole, List.getElem?_nil, List.length_append, List.append_assoc, hz5, hf5, l0, g1, g2, g3, g4, c1, c2, hr1, hr2, hr3, hr4, hr5, k1, o1, hn1, l1, l2, l3, l4, l5, l7, List.length_replicate, take_all, eV_cells, eV_size, eV_ok, eV_fold, ns_len, rf_eV]
        rfl
      · rw [fn1, ← hroot]; generalize fe r4 = w; grobner
      · rw [fn1]; exact evn _ hO
    · rw [decide_eq_false hO] at o1
      refine ⟨r4, true, ?_, Er4, fun _ => ⟨hroot, by left; omega⟩, fun h => by cases h⟩
      apply evVal_ex
      apply Exists.intro
      rw [evFun_fn (fn := a60) rfl]
      simp only [a60, envOf, evCode_skip, evCode_exit, evCode_seq, fs_blockS, fs_blockR, fs_blockC, fs_blockK, fs_blockB, evCode_ret, quiet, keep_nil, keep_cons, fs_cond, fs_region, fs_regionQ, quiet2_eq, lastOf_nil, lastOf_cons, List.take_succ_cons, List.take_zero, List.drop_succ_cons, List.drop_zero, Int.reduceBEq, Int.reduceBNe,  fs_nil, fs_guard, fs_move, fs_pick, fs_alloc, fs_box, fs_load, fs_store, fs_bin, fs_eqv, fs_isNil, fs_un, fs_conv, fs_convStr, fs_field, fs_index, fs_indexStr, fs_build, fs_buildSlice, fs_fieldAddr, fs_indexAddr, fs_indexSl, fs_sliceArr, fs_sliceSl, fs_sliceStr, fs_makeSlice, fs_extract, fs_mkIface, fs_mkFunc, fs_nilCheck, fs_s2ap, fs_len, fs_minmax, fs_s2b, fs_b2s, fs_append, fs_copy, fs_callW, fs_callR, fs_callv, opd_tmp, opd_const, opd_func, opds_nil, opds_cons, opdOpt_none, opdOpt_some, opdParts_nil, opdParts_cons, get_miss, vPick_t, vPick_f, vEq_agg, vEq_aggN, vEq_bool, vEq_boolN, vConv_int, vStr_s, vField_agg, vIndex_agg, vIndexStr_s, vFieldAddr_p, vIndexAddr_p, vIndexSl_s, vSliceArr_p, vSliceSl_s, vSliceSl_n, vSliceStr_s, vExtract_t, vNilCheck_p, vS2ap_s, vLen_s, vLen_str, vMin_i, vMax_i, vLoad_p, vStore_p, baseP_p, vB2s_s, vMake_i, vS2b_s, callee_f, liveAt_eq, storeAt_eq, partL_none, partL_some, natIn_none, natIn_int, bounds3_two, bin_add, bin_sub, bin_mul, bin_quo, bin_rem, bin_and, bin_or, bin_xor, bin_andNot, bin_eql, bin_neq, bin_lss, bin_leq, bin_gtr, bin_geq, bin_shl, bin_shr, bin_sadd, bin_seql, bin_sneq, un_not, un_neg, un_xor, after_some, put_some, put_none, res_nil, res_val, res_var, packed_one, packed_two, merge_nil, merge_ge, rf_tup2, rfIn_int, rfIn_bool, rfIn_u8s, rf_str, rfIn_str, ↓gate_true, gd_bool, gd_ut, gd_uf, ↓guardV_tt, ↓guardV_ff, ↓guardV_tf, ↓guardV_ft, ↓keepV_some, ↓qElse_some, ↓get_hit, ↓Option.bind_some, ↓if_true, ↓if_false, List.nil_append, List.cons_append, List.all_nil, List.all_cons, List.isEmpty_nil, reduceCtorEq, Bool.false_eq_true, Nat.reduceEqDiff, beq_self_eq_true, bne_self_eq_false, Bool.not_true, Bool.not_false, Int.natCast_nonneg, Nat.lt_irrefl, false_and, Int.reduceEq, rf_int, rf_bool, rf_tuple_ints, rf_u8s, arr_list, toList2, Bool.and_self, Nat.not_lt_zero, Nat.sub_zero, Nat.zero_le, Nat.le_add_right, cells_agg, cells_agg_size, cells_int, cells_int_size, okV_int, okV_bool, okV_str, okV_agg, okV_ptr, okV_slice, okV_func, okV_nilFunc, okV_iface, okV_nilIface, cells_bool, cells_bool_size, cells_ptr, cells_ptr_size, cells_slice, cells_slice_size, cells_str, cells_str_size, eq_self, wrapI64_small, Int.natCast_zero, Int.natCast_one, Int.cast_ofNat_Int, List.length_nil, List.length_cons, List.getElem?_cons_zero, List.getElem?_cons_succ, List.set_cons_zero, List.set_cons_succ, Nat.zero_add, Nat.add_zero, Nat.mul_one, Nat.zero_mul, Int.toNat_natCast, Int.toNat_zero, Int.lt_irrefl, Int.le_refl, Nat.le_refl, and_self, true_and, and_true, decide_true, decide_false, Int.reduceLE, Int.reduceLT, Int.reduceAdd, Int.reduceMul, Int.reduceSub, Int.reduceTDiv, Int.reduceTMod, Int.reduceNeg, Int.reduceToNat, Int.reduceGT, Int.reduceGE, Int.reducePow, Nat.reduceAdd, Nat.reduceMul, Nat.reduceSub, Nat.reduceDiv, Nat.reduceMod, Nat.reducePow, Nat.reduceLT, Nat.reduceLeDiff, Nat.min_self, ge_iff_le, gt_iff_lt, Option.isNone_none, Option.isSome_none, Option.isNone_some, Option.isSome_some, Bool.and_true, Bool.true_and, Bool.and_false, Bool.false_and, not_true_eq_false, not_false_eq_true, or_true, true_or, false_or, or_false, hget0, hgetK, hset0, hsetK, splice_single, splice_whole, take_whole, List.getElem?_nil, List.length_append, List.append_assoc, hz5, hf5, l0, g1, g2, g3, g4, c1, c2, hr1, hr2, hr3, hr4, hr5, k1, o1, hn1, l1, l2, l3, l4, l5, l7, List.length_replicate, take_all, eV_cells, eV_size, eV_ok, eV_fold, ns_len, rf_eV]
      rfl
  · rw [decide_eq_false hA] at k1
    by_cases hB : fe r5 = fe nu
    · rw [decide_eq_true hB] at k2
      have hroot : fe v * (fe q * fe q) = fe u := by
        have hs := jj_sq
        rw [hsq, fnu] at hB
        rw [fq, hw, hjj]
        generalize rootW (fe u) (fe v) = w at *
        clear k1 k2 o1 o2 c1 c2 hA hsq hw fr1 fr2 fr3 fr4 fr5
        grobner
      by_cases hO : (fe q).val % 2 = 1
      · rw [decide_eq_true hO] at o2
        refine ⟨n2, true, ?_, En2, fun _ => ⟨?_, ?_⟩, fun h => by cases h⟩
        · apply evVal_ex
          apply Exists.intro
          rw [evFun_fn (fn := a60) rfl]
          simp only [a60, envOf, evCode_skip, evCode_exit, evCode_seq, fs_blockS, fs_blockR, fs_blockC, fs_blockK, fs_blockB, evCode_ret, quiet, keep_nil, keep_cons, fs_cond, fs_region, fs_regionQ, quiet2_eq, lastOf_nil, lastOf_cons, List.take_succ_cons, List.take_zero, List.drop_succ_cons, List.drop_zero, Int.reduceBEq, Int.reduceBNe,  fs_nil, fs_guard, fs_move, fs_pick, fs_alloc, fs_box, fs_load, fs_store, fs_bin, fs_eqv, fs_isNil, fs_un, fs_conv, fs_convStr, fs_field, fs_index, fs_indexStr, fs_build, fs_buildSlice, fs_fieldAddr, fs_indexAddr, fs_indexSl, fs_sliceArr, fs_sliceSl, fs_sliceStr, fs_makeSlice, fs_extract, fs_mkIface, fs_mkFunc, fs_nilCheck, fs_s2ap, fs_len, fs_minmax, fs_s2b, fs_b2s, fs_append, fs_copy, fs_callW, fs_callR, fs_callv, opd_tmp, opd_const, opd_func, opds_nil, opds_cons, opdOpt_none, opdOpt_some, opdParts_nil, opdParts_cons, get_miss, vPick_t, vPick_f, vEq_agg, vEq_aggN, vEq_bool, vEq_boolN, vConv_int, vStr_s, vField_agg, vIndex_agg, vIndexStr_s, vFieldAddr_p, vIndexAddr_p, vIndexSl_s, vSliceArr_p, vSliceSl_s, vSliceSl_n, vSliceStr_s, vExtract_t, vNilCheck_p, vS2ap_s, vLen_s, vLen_str, vMin_i, vMax_i, vLoad_p, vStore_p, baseP_p, vB2s_s, vMake_i, vS2b_s, callee_f, liveAt_eq, storeAt_eq, partL_none, partL_some, natIn_none, natIn_int, bounds3_two, bin_add, bin_sub, bin_mul, bin_quo, bin_rem, bin_and, bin_or, bin_xor, bin_andNot, bin_eql, bin_neq, bin_lss, bin_leq, bin_gtr, bin_geq, bin_shl, bin_shr, bin_sadd, bin_seql, bin_sneq, un_not, un_neg, un_xor, after_some, put_some, put_none, res_nil, res_val, res_var, packed_one, packed_two, merge_nil, merge_ge, rf_tup2, rfIn_int, rfIn_bool, rfIn_u8s, rf_str, rfIn_str, ↓gate_true, gd_bool, gd_ut, gd_uf, ↓guardV_tt, ↓guardV_ff, ↓guardV_tf, ↓guardV_ft, ↓keepV_some, ↓qElse_some, ↓get_hit, ↓Option.bind_some, ↓if_true, ↓if_false, List.nil_append, List.cons_append, List.all_nil, List.all_cons, List.isEmpty_nil, reduceCtorEq, Bool.false_eq_true, Nat.reduceEqDiff, beq_self_eq_true, bne_self_eq_false, Bool.not_true, Bool.not_false, Int.natCast_nonneg, Nat.lt_irrefl, false_and, Int.reduceEq, rf_int, rf_bool, rf_tuple_ints, rf_u8s, arr_list, toList2, Bool.and_self, Nat.not_lt_zero, Nat.sub_zero, Nat.zero_le, Nat.le_add_right, cells_agg, cells_agg_size, cells_int, cells_int_size, okV_int, okV_bool, okV_str, okV_agg, okV_ptr, okV_slice, okV_func, okV_nilFunc, okV_iface, okV_nilIface, cells_bool, cells_bool_size, cells_ptr, cells_ptr_size, cells_slice, cells_slice_size, cells_str, cells_str_size, eq_self, wrapI64_small, Int.natCast_zero, Int.natCast_one, Int.cast_ofNat_Int, List.length_nil, List.length_cons, List.getElem?_cons_zero, List.getElem?_cons_succ, List.set_cons_zero, List.set_cons_succ, Nat.zero_add, Nat.add_zero, Nat.mul_one, Nat.zero_mul, Int.toNat_natCast, Int.toNat_zero, Int.lt_irrefl, Int.le_refl, Nat.le_refl, and_self, true_and, and_true, decide_true, decide_false, Int.reduceLE, Int.reduceLT, Int.reduceAdd, Int.reduceMul, Int.reduceSub, Int.reduceTDiv, Int.reduceTMod, Int.reduceNeg, Int.reduceToNat, Int.reduceGT, Int.reduceGE, Int.reducePow, Nat.reduceAdd, Nat.reduceMul, Nat.reduceSub, Nat.reduceDiv, Nat.reduceMod, Nat.reducePow, Nat.reduceLT, Nat.reduceLeDiff, Nat.min_self, ge_iff_le, gt_iff_lt, Option.isNone_none, Option.isSome_none, Option.isNone_some, Option.isSome_some, Bool.and_true, Bool.true_and, Bool.and_false, Bool.false_and, not_true_eq_false, not_false_eq_true, or_true, true_or, false_or, or_false, hget0, hgetK, hset0, hsetK, splice_single, splice_whole, take_whole, List.getElem?_nil, List.length_append, List.append_assoc, hz5, hf5, l0, g1, g2, g3, g4, c1, c2, hr1, hr2, hr3, hr4, hr5, k1, k2, hnu, vtwo, hj, hq, o2, hn2, l1, l2, l3, l4, l5, l6, l8, List.length_replicate, take_all, eV_cells, eV_size, eV_ok, eV_fold, ns_len, rf_eV]
          rfl
        · rw [fn2, ← hroot]; generalize fe q = w; grobner
        · rw [fn2]; exact evn _ hO
      · rw [decide_eq_false hO] at o2
        refine ⟨q, true, ?_, Eq, fun _ => ⟨hroot, by left; omega⟩, fun h => by cases h⟩
        apply evVal_ex
        apply Exists.intro
        rw [evFun_fn (fn := a60) rfl]
        simp only [a60, envOf, evCode_skip, evCode_exit, evCode_seq, fs_blockS, fs_blockR, fs_blockC, fs_blockK, fs_blockB, evCode_ret, quiet, keep_nil, keep_cons, fs_cond, fs_region, fs_regionQ, quiet2_eq, lastOf_nil, lastOf_cons, List.take_succ_cons, List.take_zero, List.drop_succ_cons, List.drop_zero, Int.reduceBEq, Int.reduceBNe,  fs_nil, fs_guard, fs_move, fs_pick, fs_alloc, fs_box, fs_load, fs_store, fs_bin, fs_eqv, fs_isNil, fs_un, fs_conv, fs_convStr, fs_field, fs_index, fs_indexStr, fs_build, fs_buildSlice, fs_fieldAddr, fs_indexAddr, fs_indexSl, fs_sliceArr, fs_sliceSl, fs_sliceStr, fs_makeSlice, fs_extract, fs_mkIface, fs_mkFunc, fs_nilCheck, fs_s2ap, fs_len, fs_minmax, fs_s2b, fs_b2s, fs_append, fs_copy, fs_callW, fs_callR, fs_callv, opd_tmp, opd_const, opd_func, opds_nil, opds_cons, opdOpt_none, opdOpt_some, opdParts_nil, opdParts_cons, get_miss, vPick_t, vPick_f, vEq_agg, vEq_aggN, vEq_bool, vEq_boolN, vConv_int, vStr_s, vField_agg, vIndex_agg, vIndexStr_s, vFieldAddr_p, vIndexAddr_p, vIndexSl_s, vSliceArr_p, vSliceSl_s, vSliceSl_n, vSliceStr_s, vExtract_t, vNilCheck_p, vS2ap_s, vLen_s, vLen_str, vMin_i, vMax_i, vLoad_p, vStore_p, baseP_p, vB2s_s, vMake_i, vS2b_s, callee_f, liveAt_eq, storeAt_eq, partL_none, partL_some, natIn_none, natIn_int, bounds3_two, bin_add, bin_sub, bin_mul, bin_quo, bin_rem, bin_and, bin_or, bin_xor, bin_andNot, bin_eql, bin_neq, bin_lss, bin_leq, bin_gtr, bin_geq, bin_shl, bin_shr, bin_sadd, bin_seql, bin_sneq, un_not, un_neg, un_xor, after_some, put_some, put_none, res_nil, res_val, res_var, packed_one, packed_two, merge_nil, merge_ge, rf_tup2, rfIn_int, rfIn_bool, rfIn_u8s, rf_str, rfIn_str, ↓gate_true, gd_bool, gd_ut, gd_uf, ↓guardV_tt, ↓guardV_ff, ↓guardV_tf, ↓guardV_ft, ↓keepV_some, ↓qElse_some, ↓get_hit, ↓Option.bind_some, ↓if_true, ↓if_false, List.nil_append, List.cons_append, List.all_nil, List.all_cons, List.isEmpty_nil, reduceCtorEq, Bool.false_eq_true, Nat.reduceEqDiff, beq_self_eq_true, bne_self_eq_false, Bool.not_true, Bool.not_false, Int.natCast_nonneg, Nat.lt_irrefl, false_and, Int.reduceEq, rf_int, rf_bool, rf_tuple_ints, rf_u8s, arr_list, toList2, Bool.and_self, Nat.not_lt_zero, Nat.sub_zero, Nat.zero_le, Nat.le_add_right, cells_agg, cells_agg_size, cells_int, cells_int_size, okV_int, okV_bool, okV_str, okV_agg, okV_ptr, okV_slice, okV_func, okV_nilFunc, okV_iface, okV_nilIface, cells_bool, cells_bool_size, cells_ptr, cells_ptr_size, cells_slice, cells_slice_size, cells_str, cells_str_size, eq_self, wrapI64_small, Int.natCast_zero, Int.natCast_one, Int.cast_ofNat_Int, List.length_nil, List.length_cons, List.getElem?_cons_zero, List.getElem?_cons_succ, List.set_cons_zero, List.set_cons_succ, Nat.zero_add, Nat.add_zero, Nat.mul_one, Nat.zero_mul, Int.toNat_natCast, Int.toNat_zero, Int.lt_irrefl, Int.le_refl, Nat.le_refl, and_self, true_and, and_true, decide_true, decide_false, Int.reduceLE, Int.reduceLT, Int.reduceAdd, Int.reduceMul, Int.reduceSub, Int.reduceTDiv, Int.reduceTMod, Int.reduceNeg, Int.reduceToNat, Int.reduceGT, Int.reduceGE, Int.reducePow, Nat.reduceAdd, Nat.reduceMul, Nat.reduceSub, Nat.reduceDiv, Nat.reduceMod, Nat.reducePow, Nat.reduceLT, Nat.reduceLeDiff, Nat.min_self, ge_iff_le, gt_iff_lt, Option.isNone_none, Option.isSome_none, Option.isNone_some, Option.isSome_some, Bool.and_true, Bool.true_and, Bool.and_false, Bool.false_and, not_true_eq_false, not_false_eq_true, or_true, true_or, false_or, or_false, hget0, hgetK, hset0, hsetK, splice_single, splice_whole, take_whole, List.getElem?_nil, List.length_append, List.append_assoc, hz5, hf5, l0, g1, g2, g3, g4, c1, c2, hr1, hr2, hr3, hr4, hr5, k1, k2, hnu, vtwo, hj, hq, o2, hn2, l1, l2, l3, l4, l5, l6, l8, List.length_replicate, take_all, eV_cells, eV_size, eV_ok, eV_fold, ns_len, rf_eV]
        rfl
    · rw [decide_eq_false hB] at k2
      refine ⟨[0, 0, 0, 0, 0], false, ?_, zero_el5, fun h => (by cases h), fun _ s => no_root (by rw [← hsq]; exact hA) (by rw [← hsq, ← fnu]; exact hB)⟩
      apply evVal_ex
      apply Exists.intro
      rw [evFun_fn (fn := a60) rfl]
      simp only [a60, envOf, evCode_skip, evCode_exit, evCode_seq, fs_blockS, fs_blockR, fs_blockC, fs_blockK, fs_blockB, evCode_ret, quiet, keep_nil, keep_cons, fs_cond, fs_region, fs_regionQ, quiet2_eq, lastOf_nil, lastOf_cons, List.take_succ_cons, List.take_zero, List.drop_succ_cons, List.drop_zero, Int.reduceBEq, Int.reduceBNe,  fs_nil, fs_guard, fs_move, fs_pick, fs_alloc, fs_box, fs_load, fs_store, fs_bin, fs_eqv, fs_isNil, fs_un, fs_conv, fs_convStr, fs_field, fs_index, fs_indexStr, fs_build, fs_buildSlice, fs_fieldAddr, fs_indexAddr, fs_indexSl, fs_sliceArr, fs_sliceSl, fs_sliceStr, fs_makeSlice, fs_extract, fs_mkIface, fs_mkFunc, fs_nilCheck, fs_s2ap, fs_len, fs_minmax, fs_s2b, fs_b2s, fs_append, fs_copy, fs_callW, fs_callR, fs_callv, opd_tmp, opd_const, opd_func, opds_nil, opds_cons, opdOpt_none, opdOpt_some, opdParts_nil, opdParts_cons, get_miss, vPick_t, vPick_f, vEq_agg, vEq_aggN, vEq_bool, vEq_boolN, vConv_int, vStr_s, vField_agg, vIndex_agg, vIndexStr_s, vFieldAddr_p, vIndexAddr_p, vIndexSl_s, vSliceArr_p, vSliceSl_s, vSliceSl_n, vSliceStr_s, vExtract_t, vNilCheck_p, vS2ap_s, vLen_s, vLen_str, vMin_i, vMax_i, vLoad_p, vStore_p, baseP_p, vB2s_s, vMake_i, vS2b_s, callee_f, liveAt_eq, storeAt_eq, partL_none, partL_some, natIn_none, natIn_int, bounds3_two, bin_add, bin_sub, bin_mul, bin_quo, bin_rem, bin_and, bin_or, bin_xor, bin_andNot, bin_eql, bin_neq, bin_lss, bin_leq, bin_gtr, bin_geq, bin_shl, bin_shr, bin_sadd, bin_seql, bin_sneq, un_not, un_neg, un_xor, after_some, put_some, put_none, res_nil, res_val, res_var, packed_one, packed_two, merge_nil, merge_ge, rf_tup2, rfIn_int, rfIn_bool, rfIn_u8s, rf_str, rfIn_str, ↓gate_true, gd_bool, gd_ut, gd_uf, ↓guardV_tt, ↓guardV_ff, ↓guardV_tf, ↓guardV_ft, ↓keepV_some, ↓qElse_some, ↓get_hit, ↓Option.bind_some, ↓if_true, ↓if_false, List.nil_append, List.cons_append, List.all_nil, List.all_cons, List.isEmpty_nil, reduceCtorEq, Bool.false_eq_true, Nat.reduceEqDiff, beq_self_eq_true, bne_self_eq_false, Bool.not_true, Bool.not_false, Int.natCast_nonneg, Nat.lt_irrefl, false_and, Int.reduceEq, rf_int, rf_bool, rf_tuple_ints, rf_u8s, arr_list, toList2, Bool.and_self, Nat.not_lt_zero, Nat.sub_zero, Nat.zero_le, Nat.le_add_right, cells_agg, cells_agg_size, cells_int, cells_int_size, okV_int, okV_bool, okV_str, okV_agg, okV_ptr, okV_slice, okV_func, okV_nilFunc, okV_iface, okV_nilIface, cells_bool, cells_bool_size, cells_ptr, cells_ptr_size, cells_slice, cells_slice_size, cells_str, cells_str_size, eq_self, wrapI64_small, Int.natCast_zero, Int.natCast_one, Int.cast_ofNat_Int, List.length_nil, List.length_cons, List.getElem?_cons_zero, List.getElem?_cons_succ, List.set_cons_zero, List.set_cons_succ, Nat.zero_add, Nat.add_zero, Nat.mul_one, Nat.zero_mul, Int.toNat_natCast, Int.toNat_zero, Int.lt_irrefl, Int.le_refl, Nat.le_refl, and_self, true_and, and_true, decide_true, decide_false, Int.reduceLE, Int.reduceLT, Int.reduceAdd, Int.reduceMul, Int.reduceSub, Int.reduceTDiv, Int.reduceTMod, Int.reduceNeg, Int.reduceToNat, Int.reduceGT, Int.reduceGE, Int.reducePow, Nat.reduceAdd, Nat.reduceMul, Nat.reduceSub, Nat.reduceDiv, Nat.reduceMod, Nat.reducePow, Nat.reduceLT, Nat.reduceLeDiff, Nat.min_self, ge_iff_le, gt_iff_lt, Option.isNone_none, Option.isSome_none, Option.isNone_some, Option.isSome_some, Bool.and_true, Bool.true_and, Bool.and_false, Bool.false_and, not_true_eq_false, not_false_eq_true, or_true, true_or, false_or, or_false, hget0, hgetK, hset0, hsetK, splice_single, splice_whole, take_whole, List.getElem?_nil, List.length_append, List.append_assoc, hz5, hf5, l0, g1, g2, g3, g4, c1, c2, hr1, hr2, hr3, hr4, hr5, k1, k2, hnu, l1, l2, l3, l4, l5, List.length_replicate, take_all, eV_cells, eV_size, eV_ok, eV_fold, ns_len, rf_eV]
      rfl
end Go.Ev.Ytaceeoghjgggjaa
set_option linter.unusedSimpArgs false
set_option linter.unusedVariables false
namespace Go.Ev.Ytaceeoghjgggjaa
open Go Go.Ev
attribute [local congr] bind_congr2 ite_congr2 qElse_congr gate_congr guardV_congr
set_option maxRecDepth 100000
structure Jac where
  x : Nat
  y : Nat
  z : Nat
  t : Nat
structure JRep (a : Jac) (p : Go.Cv.Pt Go.Fp.P Go.Fp.d) : Prop where
  nz : Go.Fp.fp a.z ≠ 0
  x : Go.Fp.fp a.x = p.x * Go.Fp.fp a.z
  y : Go.Fp.fp a.y = p.y * Go.Fp.fp a.z
  t : Go.Fp.fp a.t = p.x * p.y * Go.Fp.fp a.z
def nsub (a b : Nat) : Nat := a + (Go.Fp.P - b % Go.Fp.P)
theorem fp_nsub (a b : Nat) : Go.Fp.fp (nsub a b) = Go.Fp.fp a - Go.Fp.fp b := by
  unfold nsub
  have h : b % Go.Fp.P ≤ Go.Fp.P := Nat.le_of_lt (Nat.mod_lt _ (by rw [Go.Fp.P_eq]; decide))
  rw [Go.Fp.fp_add, Go.Fp.fp_sub h, Go.Fp.fp_P, Go.Fp.fp_mod]
  grobner
def jaddA (a b : Jac) : Nat := nsub a.y a.x * nsub b.y b.x % Go.Fp.P
def jaddB (a b : Jac) : Nat := (a.y + a.x) * (b.y + b.x) % Go.Fp.P
def jaddC (a b : Jac) : Nat := 1 * 2 * Go.Fp.dN * a.t * b.t % Go.Fp.P
def jaddD (a b : Jac) : Nat := 1 * 2 * a.z * b.z % Go.Fp.P
def jfin (a b c e : Nat) : Jac := ⟨nsub b a * nsub e c % Go.Fp.P, (e + c) * (b + a) % Go.Fp.P, nsub e c * (e + c) % Go.Fp.P, nsub b a * (b + a) % Go.Fp.P⟩
def jadd (a b : Jac) : Jac := jfin (jaddA a b) (jaddB a b) (jaddC a b) (jaddD a b)
theorem JRep.add {a b : Jac} {p q : Go.Cv.Pt Go.Fp.P Go.Fp.d} (h1 : JRep a p) (h2 : JRep b q) : JRep (jadd a b) (padd p q) := by
  have ha : Go.Fp.fp (jaddA a b) = (Go.Fp.fp a.y - Go.Fp.fp a.x) * (Go.Fp.fp b.y - Go.Fp.fp b.x) := by
    unfold jaddA; rw [Go.Fp.fp_mod, Go.Fp.fp_mul, fp_nsub, fp_nsub]
  have hb : Go.Fp.fp (jaddB a b) = (Go.Fp.fp a.y + Go.Fp.fp a.x) * (Go.Fp.fp b.y + Go.Fp.fp b.x) := by
    unfold jaddB; rw [Go.Fp.fp_mod, Go.Fp.fp_mul, Go.Fp.fp_add, Go.Fp.fp_add]
  have hc : Go.Fp.fp (jaddC a b) = 1 * 2 * Go.Fp.d * Go.Fp.fp a.t * Go.Fp.fp b.t := by
    unfold jaddC; rw [Go.Fp.fp_mod, Go.Fp.fp_mul, Go.Fp.fp_mul, Go.Fp.fp_mul, Go.Fp.fp_mul, Go.Fp.fp_one, Go.Fp.fp_two]; rfl
  have hd : Go.Fp.fp (jaddD a b) = 1 * 2 * Go.Fp.fp a.z * Go.Fp.fp b.z := by
    unfold jaddD; rw [Go.Fp.fp_mod, Go.Fp.fp_mul, Go.Fp.fp_mul, Go.Fp.fp_mul, Go.Fp.fp_one, Go.Fp.fp_two]
  have hx : Go.Fp.fp (jadd a b).x = (Go.Fp.fp (jaddB a b) - Go.Fp.fp (jaddA a b)) * (Go.Fp.fp (jaddD a b) - Go.Fp.fp (jaddC a b)) := by
    show Go.Fp.fp (_ % _) = _; rw [Go.Fp.fp_mod, Go.Fp.fp_mul, fp_nsub, fp_nsub]
  have hy : Go.Fp.fp (jadd a b).y = (Go.Fp.fp (jaddD a b) + Go.Fp.fp (jaddC a b)) * (Go.Fp.fp (jaddB a b) + Go.Fp.fp (jaddA a b)) := by
    show Go.Fp.fp (_ % _) = _; rw [Go.Fp.fp_mod, Go.Fp.fp_mul, Go.Fp.fp_add, Go.Fp.fp_add]
  have hz : Go.Fp.fp (jadd a b).z = (Go.Fp.fp (jaddD a b) - Go.Fp.fp (jaddC a b)) * (Go.Fp.fp (jaddD a b) + Go.Fp.fp (jaddC a b)) := by
    show Go.Fp.fp (_ % _) = _; rw [Go.Fp.fp_mod, Go.Fp.fp_mul, Go.Fp.fp_add, fp_nsub]
  have ht : Go.Fp.fp (jadd a b).t = (Go.Fp.fp (jaddB a b) - Go.Fp.fp (jaddA a b)) * (Go.Fp.fp (jaddB a b) + Go.Fp.fp (jaddA a b)) := by
    show Go.Fp.fp (_ % _) = _; rw [Go.Fp.fp_mod, Go.Fp.fp_mul, Go.Fp.fp_add, fp_nsub]
  obtain ⟨g1, g2, g3, g4⟩ := plus_math h1.x h1.y h1.t h2.x h2.y h2.t ha hb hc hd hx hy hz ht (Go.Cv.add_x Go.Fp.fld p q) (Go.Cv.add_y Go.Fp.fld p q)
  refine ⟨?_, g1, g2, g3⟩
  rw [g4]
  have F := Go.Fp.fld
  have w := F.mul_ne (F.mul_ne F.two h1.nz) h2.nz
  exact F.mul_ne (F.mul_ne w w) (F.mul_ne (F.denM p.on q.on) (F.denP p.on q.on))
def jmul (p : Jac) : Nat → Nat → Jac
  | 0, _ => ⟨0, 1, 1, 0⟩
  | f + 1, k => (fun r => if k % 2 = 1 then jadd (jadd r r) p else jadd r r) (jmul p f (k / 2))
theorem JRep.mul {a : Jac} {p : Go.Cv.Pt Go.Fp.P Go.Fp.d} (h : JRep a p) : ∀ {f k : Nat}, k < 2 ^ f → JRep (jmul a f k) (pmul k p)
  | 0, k, hk => by
    have : k = 0 := by omega
    subst this
    exact ⟨Go.Fp.one_ne, by show (0 : Go.Fp.Fe) = 0 * 1; grobner, by show (1 : Go.Fp.Fe) = 1 * 1; grobner, by show (0 : Go.Fp.Fe) = 0 * 1 * 1; grobner⟩
  | f + 1, k, hk => by
    have ih := JRep.mul h (f := f) (k := k / 2) (by omega)
    have hb := Nat.mod_lt k (by decide : 0 < 2)
    have e : pmul k p = pmul (2 * (k / 2) + k % 2) p := by rw [Nat.div_add_mod]
    rw [e, pmul_step p (k / 2) (k % 2) hb]
    simp only [jmul]
    split
    · exact (ih.add ih).add h
    · exact ih.add ih
def jbase : Jac := ⟨bxN, byN, 1, bxN * byN % Go.Fp.P⟩
theorem jbase_rep : JRep jbase pbase := by
  have h1 : Go.Fp.fp 1 = (1 : Go.Fp.Fe) := rfl
  refine ⟨Go.Fp.one_ne, ?_, ?_, ?_⟩
  · show Go.Fp.fp bxN = Go.Fp.fp bxN * Go.Fp.fp 1; rw [h1]; grobner
  · show Go.Fp.fp byN = Go.Fp.fp byN * Go.Fp.fp 1; rw [h1]; grobner
  · show Go.Fp.fp (bxN * byN % Go.Fp.P) = Go.Fp.fp bxN * Go.Fp.fp byN * Go.Fp.fp 1; rw [h1, Go.Fp.fp_mod, Go.Fp.fp_mul]; grobner
theorem eight_base : pmul 8 pbase ≠ pzero := fun h => by
  have r := jbase_rep.mul (f := 4) (k := 8) (by decide)
  rw [h] at r
  have hx := r.x
  rw [show (pzero : Go.Cv.Pt Go.Fp.P Go.Fp.d).x = 0 from rfl] at hx
  have h0 : Go.Fp.fp (jmul jbase 4 8).x = Go.Fp.fp 0 := by rw [hx]; show _ = (0 : Go.Fp.Fe); grobner
  have h1 := Go.Fp.fp_eq.1 h0
  have h2 : (jmul jbase 4 8).x % Go.Fp.P ≠ 0 % Go.Fp.P := by decide +kernel
  exact h2 h1
end Go.Ev.Ytaceeoghjgggjaa
set_option linter.unusedSimpArgs false
set_option linter.unusedVariables false
namespace Go.Ev.Ytaceeoghjgggjaa
open Go Go.Ev
attribute [local congr] bind_congr2 ite_congr2 qElse_congr gate_congr guardV_congr
set_option maxRecDepth 100000
theorem guardW_tt {α : Type} {x y : Option α} : guardV (.bool true) true x y = x := Eq.trans rfl rfl
theorem guardW_ff {α : Type} {x y : Option α} : guardV (.bool false) false x y = x := Eq.trans rfl rfl
theorem guardW_tf {α : Type} {x y : Option α} : guardV (.bool true) false x y = y := Eq.trans rfl rfl
theorem guardW_ft {α : Type} {x y : Option α} : guardV (.bool false) true x y = y := Eq.trans rfl rfl
theorem keepW_some {t : Nat} {v : Value} {l : Env} : keepV t (some v) l = (t, v) :: l := Eq.trans rfl rfl
theorem qElseW_some {α : Type} {v : α} {y : Option α} : qElse (some v) y = some v := Eq.trans rfl rfl
theorem steps_app {T : Tab} {b : Nat} {q : Bool} : ∀ (o1 o2 : List AOper) (s : St), steps T b q (o1 ++ o2) s = (steps T b q o1 s).bind (steps T b q o2)
  | [], o2, s => rfl
  | o :: o1, o2, s => by
    rw [List.cons_append]
    unfold steps
    cases hg : guardOf s.env o.guard with
    | none => rfl
    | some g =>
      cases g with
      | true =>
        simp only
        cases hx : evOper T o.op s.env s.h with
        | none => rfl
        | some x =>
          simp only [Option.bind_some]
          split
          · rfl
          · exact steps_app o1 o2 _
      | false => exact steps_app o1 o2 _
theorem steps_chunk {T : Tab} {b : Nat} {q : Bool} {a1 a2 a3 a4 a5 a6 a7 : AOper} {r : List AOper} {s : St} : steps T b q (a1 :: a2 :: a3 :: a4 :: a5 :: a6 :: a7 :: r) s = (steps T b q [a1, a2, a3, a4, a5, a6] s).bind fun s' => steps T b q (a7 :: r) s' := by
  rw [← steps_app]; rfl
def encB : List Nat := [88, 102, 102, 102, 102, 102, 102, 102, 102, 102, 102, 102, 102, 102, 102, 102, 102, 102, 102, 102, 102, 102, 102, 102, 102, 102, 102, 102, 102, 102, 102, 102]
def encZ : List Nat := [1, 0, 0, 0, 0, 0, 0, 0, 0, 0, 0, 0, 0, 0, 0, 0, 0, 0, 0, 0, 0, 0, 0, 0, 0, 0, 0, 0, 0, 0, 0, 0]
theorem enc_base : enc pbase = encB := by decide +kernel
theorem enc_zero : enc pzero = encZ := by decide +kernel
theorem tiny_no {p : Go.Cv.Pt Go.Fp.P Go.Fp.d} {l : List Nat} (h : RepL l p) (hp : pmul 8 p ≠ pzero) : evVal T 39 [eV l] = some (.bool false) := by
  have := tiny_v h
  rw [decide_eq_false hp] at this
  exact this
theorem tiny_yes {p : Go.Cv.Pt Go.Fp.P Go.Fp.d} {l : List Nat} (h : RepL l p) (hp : pmul 8 p = pzero) : evVal T 39 [eV l] = some (.bool true) := by
  have := tiny_v h
  rw [decide_eq_true hp] at this
  exact this
theorem enc_of {p : Go.Cv.Pt Go.Fp.P Go.Fp.d} {l E : List Nat} (h : RepL l p) (hp : enc p = E) : evVal T 29 [eV l] = some (.agg (u8s E).toArray) := by
  have := encode_v h
  rw [hp] at this
  exact this
theorem base_facts : ∃ b, evVal T 25 [] = some (eV b) ∧ b.length = 20 ∧ evVal T 29 [eV b] = some (.agg (u8s encB).toArray) ∧ evVal T 39 [eV b] = some (.bool false) := by
  obtain ⟨b, hb, rb⟩ := base_v
  exact ⟨b, hb, rb.len, enc_of rb enc_base, tiny_no rb eight_base⟩
theorem zero_facts : ∃ b, evVal T 30 [] = some (eV b) ∧ b.length = 20 ∧ evVal T 29 [eV b] = some (.agg (u8s encZ).toArray) ∧ evVal T 39 [eV b] = some (.bool true) := by
  obtain ⟨b, hb, rb⟩ := zero_v
  exact ⟨b, hb, rb.len, enc_of rb enc_zero, tiny_yes rb (Go.Cv.mul_zero Go.Fp.fld 8)⟩
theorem bl1 : encB.length = 32 := rfl
theorem bl2 : encZ.length = 32 := rfl
theorem bz32 : List.replicate 32 (Value.int .u8 0) = u8s (dig 256 32 0) := rfl
theorem bl3 : (dig 256 32 0).length = 32 := rfl
theorem bg0 : (u8s encB)[0]? = some (.int .u8 88) := rfl
theorem bg1 : (u8s encB)[1]? = some (.int .u8 102) := rfl
theorem bg2 : (u8s encB)[31]? = some (.int .u8 102) := rfl
theorem bf1 : fillL (u8s (dig 256 32 0)) [(0, 1, .int .u8 1)] = some (u8s encZ) := rfl
theorem bq : (encZ == encZ) = true := by decide
theorem based_w {U : Tab} (hU : U.fn 24 = some a24) {b z B Z O : List Nat} {c0 c1 c2 : Int} (h0 : (c0 == 88) = true) (h1 : (c1 == 102) = true) (h2 : (c2 == 102) = true) (hb : evVal U 25 [] = some (eV b)) (p1 : b.length = 20) (e1 : evVal U 29 [eV b] = some (.agg (u8s B).toArray)) (t1 : evVal U 39 [eV b] = some (.bool false))
    (hz : evVal U 30 [] = some (eV z)) (p2 : z.length = 20) (e2 : evVal U 29 [eV z] = some (.agg (u8s Z).toArray)) (t2 : evVal U 39 [eV z] = some (.bool true)) (l1 : B.length = 32) (l2 : Z.length = 32) (l3 : O.length = 32)
    (g0 : (u8s B)[0]? = some (.int .u8 c0)) (g1 : (u8s B)[1]? = some (.int .u8 c1)) (g2 : (u8s B)[31]? = some (.int .u8 c2)) (hz32 : List.replicate 32 (Value.int .u8 0) = u8s O) (f1 : fillL (u8s O) [(0, 1, .int .u8 1)] = some (u8s Z)) (q : (Z == Z) = true) : evVal U 24 [] = some (.bool true) := by
  apply evVal_ex
  apply Exists.intro
  rw [evFun_fn hU]
  simp only [a24, ↓steps_chunk, envOf, evCode_skip, evCode_exit, evCode_seq, fs_blockS, fs_blockR, fs_blockC, fs_blockK, fs_blockB, evCode_ret, quiet, keep_nil, keep_cons, fs_cond, fs_region, fs_regionQ, quiet2_eq, lastOf_nil, lastOf_cons, List.take_succ_cons, List.take_zero, List.drop_succ_cons, List.drop_zero, Int.reduceBEq, Int.reduceBNe,  fs_nil, fs_guard, fs_move, fs_pick, fs_alloc, fs_box, fs_load, fs_store, fs_bin, fs_eqv, fs_isNil, fs_un, fs_conv, fs_convStr, fs_field, fs_index, fs_indexStr, fs_build, fs_buildSlice, fs_fieldAddr, fs_indexAddr, fs_indexSl, fs_sliceArr, fs_sliceSl, fs_sliceStr, fs_makeSlice, fs_extract, fs_mkIface, fs_mkFunc, fs_nilCheck, fs_s2ap, fs_len, fs_minmax, fs_s2b, fs_b2s, fs_append, fs_copy, fs_callW, fs_callR, fs_callv, opd_tmp, opd_const, opd_func, opds_nil, opds_cons, opdOpt_none, opdOpt_some, opdParts_nil, opdParts_cons, get_miss, vPick_t, vPick_f, vEq_agg, vEq_aggN, vEq_bool, vEq_boolN, vConv_int, vStr_s, vField_agg, vIndex_agg, vIndexStr_s, vFieldAddr_p, vIndexAddr_p, vIndexSl_s, vSliceArr_p, vSliceSl_s, vSliceSl_n, vSliceStr_s, vExtract_t, vNilCheck_p, vS2ap_s, vLen_s, vLen_str, vMin_i, vMax_i, vLoad_p, vStore_p, baseP_p, vB2s_s, vMake_i, vS2b_s, callee_f, liveAt_eq, storeAt_eq, partL_none, partL_some, natIn_none, natIn_int, bounds3_two, bin_add, bin_sub, bin_mul, bin_quo, bin_rem, bin_and, bin_or, bin_xor, bin_andNot, bin_eql, bin_neq, bin_lss, bin_leq, bin_gtr, bin_geq, bin_shl, bin_shr, bin_sadd, bin_seql, bin_sneq, un_not, un_neg, un_xor, after_some, put_some, put_none, res_nil, res_val, res_var, packed_one, packed_two, merge_nil, merge_ge, rf_tup2, rfIn_int, rfIn_bool, rfIn_u8s, rf_str, rfIn_str, ↓gate_true, gd_bool, gd_ut, gd_uf, ↓guardW_tt, ↓guardW_ff, ↓guardW_tf, ↓guardW_ft, ↓keepW_some, ↓qElseW_some, ↓get_hit, ↓Option.bind_some, ↓if_true, ↓if_false, List.nil_append, List.cons_append, List.all_nil, List.all_cons, List.isEmpty_nil, reduceCtorEq, Bool.false_eq_true, Nat.reduceEqDiff, beq_self_eq_true, bne_self_eq_false, Bool.not_true, Bool.not_false, Int.natCast_nonneg, Nat.lt_irrefl, false_and, Int.reduceEq, rf_int, rf_bool, rf_tuple_ints, rf_u8s, arr_list, toList2, Bool.and_self, Nat.not_lt_zero, Nat.sub_zero, Nat.zero_le, Nat.le_add_right, cells_agg, cells_agg_size, cells_int, cells_int_size, okV_int, okV_bool, okV_str, okV_agg, okV_ptr, okV_slice, okV_func, okV_nilFunc, okV_iface, okV_nilIface, cells_bool, cells_bool_size, cells_ptr, cells_ptr_size, cells_slice, cells_slice_size, cells_str, cells_str_size, eq_self, wrapI64_small, Int.natCast_zero, Int.natCast_one, Int.cast_ofNat_Int, List.length_nil, List.length_cons, List.getElem?_cons_zero, List.getElem?_cons_succ, List.set_cons_zero, List.set_cons_succ, Nat.zero_add, Nat.add_zero, Nat.mul_one, Nat.zero_mul, Int.toNat_natCast, Int.toNat_zero, Int.lt_irrefl, Int.le_refl, Nat.le_refl, and_self, true_and, and_true, decide_true, decide_false, Int.reduceLE, Int.reduceLT, Int.reduceAdd, Int.reduceMul, Int.reduceSub, Int.reduceTDiv, Int.reduceTMod, Int.reduceNeg, Int.reduceToNat, Int.reduceGT, Int.reduceGE, Int.reducePow, Nat.reduceAdd, Nat.reduceMul, Nat.reduceSub, Nat.reduceDiv, Nat.reduceMod, Nat.reducePow, Nat.reduceLT, Nat.reduceLeDiff, Nat.min_self, ge_iff_le, gt_iff_lt, Option.isNone_none, Option.isSome_none, Option.isNone_some, Option.isSome_some, Bool.and_true, Bool.true_and, Bool.and_false, Bool.false_and, not_true_eq_false, not_false_eq_true, or_true, true_or, false_or, or_false, hget0, hgetK, hset0, hsetK, splice_single, splice_whole, take_whole, List.getElem?_nil, List.length_append, List.append_assoc, hz32, hb, hz, e1, e2, t1, t2, g0, g1, g2, h0, h1, h2, f1, q, cellsEq_u8, List.length_replicate, take_all, eV_cells, eV_size, eV_ok, eV_fold, ns_len, u8s_len, l1, l2, l3, p1, p2, rf_eV]
  rfl
theorem based_v : evVal T 24 [] = some (.bool true) := by
  obtain ⟨b, hb, p1, e1, t1⟩ := base_facts
  obtain ⟨z, hz, p2, e2, t2⟩ := zero_facts
  exact based_w (U := T) rfl (by decide) (by decide) (by decide) hb p1 e1 t1 hz p2 e2 t2 bl1 bl2 bl3 bg0 bg1 bg2 bz32 bf1 bq
end Go.Ev.Ytaceeoghjgggjaa
set_option linter.unusedSimpArgs false
set_option linter.unusedVariables false
namespace Go.Ev.Ytaceeoghjgggjaa
open Go Go.Ev
attribute [local congr] bind_congr2 ite_congr2 qElse_congr gate_congr guardV_congr
set_option maxRecDepth 100000
theorem par_neg {a : Go.Fp.Fe} (h0 : a ≠ 0) : (-a).val % 2 ≠ a.val % 2 := by
  have hlt := a.isLt
  have hne : a.val ≠ 0 := fun h => h0 (Fin.ext h)
  have h1 : (-a).val = (Go.Fp.P - a.val) % Go.Fp.P := rfl
  have h2 : (Go.Fp.P - a.val) < Go.Fp.P := by omega
  rw [h1, Nat.mod_eq_of_lt h2]
  have hP : Go.Fp.P % 2 = 1 := by rw [Go.Fp.P_eq]
  omega
theorem sq_eq {a b : Go.Fp.Fe} (h : a * a = b * b) : a = b ∨ a = -b := by
  have F := Go.Fp.fld
  have : (a - b) * (a + b) = 0 := by grobner
  rcases F.dom this with h1 | h1
  · left; clear h this; grobner
  · right; clear h this; grobner
theorem one_of (dd z : Go.Fp.Fe) (hz : z = 0) : dd * (z * z) + 1 = 1 := by grobner
theorem den_ne (y : Go.Fp.Fe) : Go.Fp.d * (y * y) + 1 ≠ 0 := fun h => by
  have F := Go.Fp.fld
  have hy : y ≠ 0 := by
    intro h0
    rw [one_of _ _ h0] at h
    exact Go.Fp.one_ne h
  have hi := Go.Fp.iv_mul hy
  have hr := Go.Fp.root_i
  apply Go.Fp.nosq (Go.Fp.i * Go.Fp.iv y)
  generalize Go.Fp.d = dd at *
  generalize Go.Fp.i = ii at *
  generalize Go.Fp.iv y = w at *
  clear F hy
  have e1 : dd * (y * w) * (y * w) + w * w = 0 := by
    have : dd * (y * w) * (y * w) + w * w = (dd * (y * y) + 1) * (w * w) := by clear h hi hr; grobner
    rw [this, h]; clear this h hi hr; grobner
  rw [hi] at e1
  have e2 : ii * w * (ii * w) = (ii * ii) * (w * w) := by clear h hi hr e1; grobner
  rw [e2, hr]
  clear h hi hr e2
  grobner
theorem x_sq (p : Go.Cv.Pt Go.Fp.P Go.Fp.d) : (Go.Fp.d * (p.y * p.y) + 1) * (p.x * p.x) = p.y * p.y - 1 := by
  have h := p.on
  unfold Go.Cv.On at h
  generalize Go.Fp.d = dd at *
  generalize p.x = x at *
  generalize p.y = y at *
  grobner
theorem fill40 {a b : List Nat} {p q : Go.Cv.Pt Go.Fp.P Go.Fp.d} (ha : RepL a p) (hb : RepL b q) : fillL (List.replicate 40 (Value.int .u64 0)) [(0, 20, eV a), (20, 20, eV b)] = some (ns .u64 [a, b].flatten) := by
  obtain ⟨x1, y1, z1, t1, rfl, h1⟩ := ha
  obtain ⟨x2, y2, z2, t2, rfl, h2⟩ := hb
  obtain ⟨a0, a1, a2, a3, a4, rfl, -⟩ := h1.ex.five
  obtain ⟨b0, b1, b2, b3, b4, rfl, -⟩ := h1.ey.five
  obtain ⟨c0, c1, c2, c3, c4, rfl, -⟩ := h1.ez.five
  obtain ⟨d0, d1, d2, d3, d4, rfl, -⟩ := h1.et.five
  obtain ⟨e0, e1, e2, e3, e4, rfl, -⟩ := h2.ex.five
  obtain ⟨f0, f1, f2, f3, f4, rfl, -⟩ := h2.ey.five
  obtain ⟨g0, g1, g2, g3, g4, rfl, -⟩ := h2.ez.five
  obtain ⟨i0, i1, i2, i3, i4, rfl, -⟩ := h2.et.five
  rfl
def keyOf (m : Nat) : List Nat := m :: List.replicate 31 0
theorem keyOf_len (m : Nat) : (keyOf m).length = 32 := rfl
theorem keyOf_lt {m : Nat} (hm : m < 256) : ∀ x ∈ keyOf m, x < 256 := by
  intro x hx
  rcases List.mem_cons.1 hx with rfl | hx
  · exact hm
  · rw [List.eq_of_mem_replicate hx]; decide
theorem keyOf_num (m : Nat) : num 256 (keyOf m) = m := by
  have : num 256 (List.replicate 31 0) = 0 := by decide +kernel
  show m + 256 * num 256 (List.replicate 31 0) = m
  rw [this]; omega
end Go.Ev.Ytaceeoghjgggjaa
set_option linter.unusedSimpArgs false
set_option linter.unusedVariables false
namespace Go.Ev.Ytaceeoghjgggjaa
open Go Go.Ev
attribute [local congr] bind_congr2 ite_congr2 qElse_congr gate_congr guardV_congr
set_option maxRecDepth 100000
theorem enc_key {k : List Nat} (lk : k.length = 32) (xk : ∀ x ∈ k, x < 256) {p : Go.Cv.Pt Go.Fp.P Go.Fp.d} : enc p = k ↔ encN p = num 256 k := by
  have h1 := num_lt xk
  rw [lk] at h1
  have h2 := dig_num (by decide : 0 < 256) xk
  rw [lk] at h2
  constructor
  · intro h
    have := num_dig (B := 256) (by decide) 32 (encN p)
    rw [Nat.mod_eq_of_lt (encN_lt p)] at this
    rw [← this, ← h]; rfl
  · intro h
    unfold enc
    rw [h, h2]
theorem enc_parts {p : Go.Cv.Pt Go.Fp.P Go.Fp.d} {V : Nat} : encN p = V ↔ p.y.val = V % 2 ^ 255 ∧ p.x.val % 2 = V / 2 ^ 255 := by
  have h1 := val_lt p.y
  have h3 := Nat.mod_lt p.x.val (by decide : 0 < 2)
  unfold encN
  constructor
  · intro h; omega
  · rintro ⟨h, h'⟩; rw [h, h', Nat.mul_comm, Nat.mod_add_div]
theorem on_of {u v x y : Go.Fp.Fe} (hu : u = y * y - 1) (hv : v = Go.Fp.d * (y * y) + 1) (h : v * (x * x) = u) : Go.Cv.On Go.Fp.d x y := by
  unfold Go.Cv.On
  generalize Go.Fp.d = dd at *
  subst hu hv
  grobner
theorem key_top {k : List Nat} (lk : k.length = 32) (xk : ∀ x ∈ k, x < 256) : ∃ w, k[31]? = some w ∧ w < 256 ∧ w / 128 = num 256 k / 2 ^ 255 ∧ num 256 (k.set 31 (w &&& 127)) = num 256 k % 2 ^ 255 ∧ (∀ x ∈ k.set 31 (w &&& 127), x < 256) ∧ (k.set 31 (w &&& 127)).length = 32 := by
  obtain ⟨w, hw⟩ : ∃ w, k[31]? = some w := ⟨_, List.getElem?_eq_getElem (by omega)⟩
  have hw' : w < 256 := xk w (List.mem_of_getElem? hw)
  have hV := num_lt xk
  rw [lk] at hV
  have hg := num_get (by decide : 0 < 256) xk hw
  have hs := num_set (B := 256) (w &&& 127) hw
  have ha : w &&& 127 = w % 128 := Nat.and_two_pow_sub_one_eq_mod w 7
  refine ⟨w, hw, hw', ?_⟩
  rw [ha] at hs ⊢
  have e31 : (256 : Nat) ^ 31 = 452312848583266388373324160190187140051835877600158453279131187530910662656 := by decide
  have e32 : (256 : Nat) ^ 32 = 115792089237316195423570985008687907853269984665640564039457584007913129639936 := by decide
  have e255 : (2 : Nat) ^ 255 = 57896044618658097711785492504343953926634992332820282019728792003956564819968 := by decide
  rw [e31] at hg hs
  rw [e32] at hV
  rw [e255]
  refine ⟨by omega, by omega, ?_, by rw [List.length_set]; exact lk⟩
  intro x hx
  rcases List.mem_or_eq_of_mem_set hx with h | h
  · exact xk x h
  · omega
def decV (l : List Nat) (c : Int) : Value := .tuple #[eV l, .int .i64 c]
theorem decode_v {k : List Nat} (lk : k.length = 32) (xk : ∀ x ∈ k, x < 256) :
    (∃ l p, evVal T 31 [.agg (u8s k).toArray] = some (decV l 0) ∧ RepL l p ∧ enc p = k) ∨ (∃ l, evVal T 31 [.agg (u8s k).toArray] = some (decV l 60) ∧ l.length = 20 ∧ ∀ p, enc p ≠ k) := by
  obtain ⟨w, hw, hw', ht, hm, xm, lm⟩ := key_top lk xk
  have hwc := u8s_get hw
  have hset := u8s_set k 31 (w &&& 127)
  have o1 : bitsOp .and .u8 (w : Int) 127 = ((w &&& 127 : Nat) : Int) := bits_and (k := .u8) (a := w) (b := 127) rfl hw' (by decide)
  have hof := of_v lm xm
  have hcan := canonical_v lm xm
  rw [hm] at hof hcan
  rw [Nat.mod_mod] at hof
  have hkey : ∀ p : Go.Cv.Pt Go.Fp.P Go.Fp.d, enc p = k ↔ p.y.val = num 256 k % 2 ^ 255 ∧ p.x.val % 2 = num 256 k / 2 ^ 255 := fun p => by rw [enc_key lk xk, enc_parts]
  rw [← ht] at hkey
  have Ey := of_el (V := num 256 k % 2 ^ 255)
  have fy : fe (dig (2 ^ 51) 5 (num 256 k % 2 ^ 255)) = Go.Fp.fp (num 256 k % 2 ^ 255) := by unfold fe; rw [of_v51]
  generalize k.set 31 (w &&& 127) = km at *
  generalize dig (2 ^ 51) 5 (num 256 k % 2 ^ 255) = Y at *
  generalize num 256 k % 2 ^ 255 = V at *
  have hz20 : ∃ O, List.replicate 20 (Value.int .u64 0) = ns .u64 O ∧ O.length = 20 ∧ fillL (ns .u64 O) [] = some (ns .u64 O) := ⟨List.replicate 20 0, rfl, rfl, rfl⟩
  obtain ⟨O, hz20, l0, hf0⟩ := hz20
  have l1 := Ey.len
  have hz5 : List.replicate 5 (Value.int .u64 0) = ns .u64 [0, 0, 0, 0, 0] := rfl
  have l5 : ([0, 0, 0, 0, 0] : List Nat).length = 5 := rfl
  have hbit : ((((w / 128 : Nat) : Int)) == 1) = decide (w / 128 = 1) := by
    by_cases h : w / 128 = 1
    · rw [h]; rfl
    · have : ¬ (((w / 128 : Nat) : Int) = 1) := by omega
      rw [decide_eq_false h, beq_eq_false_iff_ne.2 this]
  have hshr : ((w : Int) / 128) = ((w / 128 : Nat) : Int) := rfl
  by_cases hV : V < Go.Fp.P
  · rw [decide_eq_true hV] at hcan
    have hYv : (Go.Fp.fp V).val = V := Nat.mod_eq_of_lt hV
    obtain ⟨one, hone⟩ : ∃ O : List Nat, O = [1, 0, 0, 0, 0] := ⟨_, rfl⟩
    have Eone : El one (2 ^ 52) := by rw [hone]; exact one_el
    have vone : evVal T 50 [.int .u32 1] = some (eV one) := by rw [hone]; exact one_v
    have fone : fe one = 1 := by rw [hone]; exact one_fe
    clear hone
    obtain ⟨yy, hyy, Eyy, fyy⟩ := mul_ev Ey Ey
    obtain ⟨D, hD, ED, fD⟩ := factor_v
    obtain ⟨uu, huu, Euu, fuu⟩ := sub_v Eyy Eone
    obtain ⟨dy, hdy, Edy, fdy⟩ := mul_ev ED Eyy
    obtain ⟨vv, sv, hvv, Evv, fvv⟩ := add2_ev (H := [⟨u8s km, true, true, true, 1⟩, ⟨ns .u64 O, true, true, true, 1⟩, ⟨ns .u64 Y, true, true, true, 1⟩, ⟨ns .u64 yy, true, true, true, 1⟩, ⟨ns .u64 (dy ++ one), true, true, true, 1⟩]) (id := 4) Edy Eone rfl
    simp only [List.cons_append, List.nil_append] at hvv
    obtain ⟨r, ok, hr, Er, hok, hno⟩ := root_v Euu Evv
    have hf2 := fill2 Edy Eone
    have l6 := Eyy.len
    have l7 := Er.len
    have kz := isZero_v Er
    obtain ⟨nr, hnr, Enr, fnr⟩ := neg_v Er
    obtain ⟨t1, ht1, Et1, ft1⟩ := mul_ev Er Ey
    obtain ⟨t2, ht2, Et2, ft2⟩ := mul_ev Enr Ey
    have g1 := fill4 Er Ey Eone Et1
    have g2 := fill4 Enr Ey Eone Et2
    rw [hz20] at g1 g2
    have q1 := pL_len Er Ey Eone Et1
    have q2 := pL_len Enr Ey Eone Et2
    have l8 := Enr.len
    have hu : fe uu = Go.Fp.fp V * Go.Fp.fp V - 1 := by rw [fuu, fyy, fy, fone]
    have hv : fe vv = Go.Fp.d * (Go.Fp.fp V * Go.Fp.fp V) + 1 := by rw [fvv, fdy, fD, fyy, fy, fone]
    have hyp : ∀ p : Go.Cv.Pt Go.Fp.P Go.Fp.d, enc p = k → p.y = Go.Fp.fp V := fun p hp => Fin.ext (by rw [hYv]; exact ((hkey p).1 hp).1)
    have hxx : ∀ p : Go.Cv.Pt Go.Fp.P Go.Fp.d, enc p = k → fe vv * (p.x * p.x) = fe uu := fun p hp => by
      have := x_sq p
      rw [hyp p hp] at this
      rw [hu, hv]; exact this
    have rft : ∀ b : Bool, rf (Value.tuple #[eV r, .bool b]) = true := fun b => rf_tup2 (a := eV r) (b := .bool b) (rf_eV r) rfl
    cases ok with
    | false =>
      refine .inr ⟨O, ?_, l0, fun p hp => hno rfl p.x (hxx p hp)⟩
      apply evVal_ex
      apply Exists.intro
      rw [evFun_fn (fn := a31) rfl]
      simp only [a31, ↓steps_chunk, envOf, evCode_skip, evCode_exit, evCode_seq, fs_blockS, fs_blockR, fs_blockC, fs_blockK, fs_blockB, evCode_ret, quiet, keep_nil, keep_cons, fs_cond, fs_region, fs_regionQ, quiet2_eq, lastOf_nil, lastOf_cons, List.take_succ_cons, List.take_zero, List.drop_succ_cons, List.drop_zero, Int.reduceBEq, Int.reduceBNe,  fs_nil, fs_guard, fs_move, fs_pick, fs_alloc, fs_box, fs_load, fs_store, fs_bin, fs_eqv, fs_isNil, fs_un, fs_conv, fs_convStr, fs_field, fs_index, fs_indexStr, fs_build, fs_buildSlice, fs_fieldAddr, fs_indexAddr, fs_indexSl, fs_sliceArr, fs_sliceSl, fs_sliceStr, fs_makeSlice, fs_extract, fs_mkIface, fs_mkFunc, fs_nilCheck, fs_s2ap, fs_len, fs_minmax, fs_s2b, fs_b2s, fs_append, fs_copy, fs_callW, fs_callR, fs_callv, opd_tmp, opd_const, opd_func, opds_nil, opds_cons, opdOpt_none, opdOpt_some, opdParts_nil, opdParts_cons, get_miss, vPick_t, vPick_f, vEq_agg, vEq_aggN, vEq_bool, vEq_boolN, vConv_int, vStr_s, vField_agg, vIndex_agg, vIndexStr_s, vFieldAddr_p, vIndexAddr_p, vIndexSl_s, vSliceArr_p, vSliceSl_s, vSliceSl_n, vSliceStr_s, vExtract_t, vNilCheck_p, vS2ap_s, vLen_s, vLen_str, vMin_i, vMax_i, vLoad_p, vStore_p, baseP_p, vB2s_s, vMake_i, vS2b_s, callee_f, liveAt_eq, storeAt_eq, partL_none, partL_some, natIn_none, natIn_int, bounds3_two, bin_add, bin_sub, bin_mul, bin_quo, bin_rem, bin_and, bin_or, bin_xor, bin_andNot, bin_eql, bin_neq, bin_lss, bin_leq, bin_gtr, bin_geq, bin_shl, bin_shr, bin_sadd, bin_seql, bin_sneq, un_not, un_neg, un_xor, after_some, put_some, put_none, res_nil, res_val, res_var, packed_one, packed_two, merge_nil, merge_ge, rf_tup2, rfIn_int, rfIn_bool, rfIn_u8s, rf_str, rfIn_str, ↓gate_true, gd_bool, gd_ut, gd_uf, ↓guardW_tt, ↓guardW_ff, ↓guardW_tf, ↓guardW_ft, ↓keepW_some, ↓qElseW_some, ↓get_hit, ↓Option.bind_some, ↓if_true, ↓if_false, List.nil_append, List.cons_append, List.all_nil, List.all_cons, List.isEmpty_nil, reduceCtorEq, Bool.false_eq_true, Nat.reduceEqDiff, beq_self_eq_true, bne_self_eq_false, Bool.not_true, Bool.not_false, Int.natCast_nonneg, Nat.lt_irrefl, false_and, Int.reduceEq, rf_int, rf_bool, rf_tuple_ints, rf_u8s, arr_list, toList2, Bool.and_self, Nat.not_lt_zero, Nat.sub_zero, Nat.zero_le, Nat.le_add_right, cells_agg, cells_agg_size, cells_int, cells_int_size, okV_int, okV_bool, okV_str, okV_agg, okV_ptr, okV_slice, okV_func, okV_nilFunc, okV_iface, okV_nilIface, cells_bool, cells_bool_size, cells_ptr, cells_ptr_size, cells_slice, cells_slice_size, cells_str, cells_str_size, eq_self, wrapI64_small, Int.natCast_zero, Int.natCast_one, Int.cast_ofNat_Int, List.length_nil, List.length_cons, List.getElem?_cons_zero, List.getElem?_cons_succ, List.set_cons_zero, List.set_cons_succ, Nat.zero_add, Nat.add_zero, Nat.mul_one, Nat.zero_mul, Int.toNat_natCast, Int.toNat_zero, Int.lt_irrefl, Int.le_refl, Nat.le_refl, and_self, true_and, and_true, decide_true, decide_false, Int.reduceLE, Int.reduceLT, Int.reduceAdd, Int.reduceMul, Int.reduceSub, Int.reduceTDiv, Int.reduceTMod, Int.reduceNeg, Int.reduceToNat, Int.reduceGT, Int.reduceGE, Int.reducePow, Nat.reduceAdd, Nat.reduceMul, Nat.reduceSub, Nat.reduceDiv, Nat.reduceMod, Nat.reducePow, Nat.reduceLT, Nat.reduceLeDiff, Nat.min_self, ge_iff_le, gt_iff_lt, Option.isNone_none, Option.isSome_none, Option.isNone_some, Option.isSome_some, Bool.and_true, Bool.true_and, Bool.and_false, Bool.false_and, not_true_eq_false, not_false_eq_true, or_true, true_or, false_or, or_false, hget0, hgetK, hset0, hsetK, splice_single, splice_whole, take_whole, List.getElem?_nil, List.length_append, List.append_assoc, n_add, n_mul, n_ladd, n_addl, n_lmul, n_mull, n_fdiv, n_fdivl, n_tdiv, n_tmod, n_w64, n_w32, n_w16, n_w8, n_sub64, n_lsub64, n_subl64, n_m32, n_m51, n_m1, n_m1b, n_m7b, p64_32, p64_51, p64_13, p8_7, hz20, hf0, hz5, hwc, hset, o1, hof, hcan, hbit, hshr, vone, hyy, hD, huu, hdy, hf2, hvv, hr, List.length_replicate, take_all, eV_cells, eV_size, eV_ok, eV_fold, ns_len, u8s_len, lk, lm, l0, l1, l5, l6, l7, vExtract_t, rootV, rft, rf_eV]
      rfl
    | true =>
      obtain ⟨hroot, hev⟩ := hok rfl
      have hev' : (fe r).val % 2 = 0 := by
        rcases hev with h | h
        · exact h
        · rw [h]; rfl
      by_cases hb : w / 128 = 1
      · rw [decide_eq_true hb] at hbit
        by_cases h0 : fe r = 0
        · rw [decide_eq_true h0] at kz
          refine .inr ⟨O, ?_, l0, fun p hp => ?_⟩
          · apply evVal_ex
            apply Exists.intro
            rw [evFun_fn (fn := a31) rfl]
            simp only [a31, ↓steps_chunk, envOf, evCode_skip, evCode_exit, evCode_seq, fs_blockS, fs_blockR, fs_blockC, fs_blockK, fs_blockB, evCode_ret, quiet, keep_nil, keep_cons, fs_cond, fs_region, fs_regionQ, quiet2_eq, lastOf_nil, lastOf_cons, List.take_succ_cons, List.take_zero, List.drop_succ_cons, List.drop_zero, Int.reduceBEq, Int.reduceBNe,  fs_nil, fs_guard, fs_move, fs_pick, fs_alloc, fs_box, fs_load, fs_store, fs_bin, fs_eqv, fs_isNil, fs_un, fs_conv, fs_convStr, fs_field, fs_index, fs_indexStr, fs_build, fs_buildSlice, fs_fieldAddr, fs_indexAddr, fs_indexSl, fs_sliceArr, fs_sliceSl, fs_sliceStr, fs_makeSlice, fs_extract, fs_mkIface, fs_mkFunc, fs_nilCheck, fs_s2ap, fs_len, fs_minmax, fs_s2b, fs_b2s, fs_append, fs_copy, fs_callW, fs_callR, fs_callv, opd_tmp, opd_const, opd_func, opds_nil, opds_cons, opdOpt_none, opdOpt_some, opdParts_nil, opdParts_cons, get_miss, vPick_t, vPick_f, vEq_agg, vEq_aggN, vEq_bool, vEq_boolN, vConv_int, vStr_s, vField_agg, vIndex_agg, vIndexStr_s, vFieldAddr_p, vIndexAddr_p, vIndexSl_s, vSliceArr_p, vSliceSl_s, vSliceSl_n, vSliceStr_s, vExtract_t, vNilCheck_p, vS2ap_s, vLen_s, vLen_str, vMin_i, vMax_i, vLoad_p, vStore_p, baseP_p, vB2s_s, vMake_i, vS2b_s, callee_f, liveAt_eq, storeAt_eq, partL_none, partL_some, natIn_none, natIn_int, bounds3_two, bin_add, bin_sub, bin_mul, bin_quo, bin_rem, bin_and, bin_or, bin_xor, bin_andNot, bin_eql, bin_neq, bin_lss, bin_leq, bin_gtr, bin_geq, bin_shl, bin_shr, bin_sadd, bin_seql, bin_sneq, un_not, un_neg, un_xor, after_some, put_some, put_none, res_nil, res_val, res_var, packed_one, packed_two, merge_nil, merge_ge, rf_tup2, rfIn_int, rfIn_bool, rfIn_u8s, rf_str, rfIn_str, ↓gate_true, gd_bool, gd_ut, gd_uf, ↓guardW_tt, ↓guardW_ff, ↓guardW_tf, ↓guardW_ft, ↓keepW_some, ↓qElseW_some, ↓get_hit, ↓Option.bind_some, ↓if_true, ↓if_false, List.nil_append, List.cons_append, List.all_nil, List.all_cons, List.isEmpty_nil, reduceCtorEq, Bool.false_eq_true, Nat.reduceEqDiff, beq_self_eq_true, bne_self_eq_false, Bool.not_true, Bool.not_false, Int.natCast_nonneg, Nat.lt_irrefl, false_and, Int.reduceEq, rf_int, rf_bool, rf_tuple_ints, rf_u8s, arr_list, toList2, Bool.and_self, Nat.not_lt_zero, Nat.sub_zero, Nat.zero_le, Nat.le_add_right, cells_agg, cells_agg_size, cells_int, cells_int_size, okV_int, okV_bool, okV_str, okV_agg, okV_ptr, okV_slice, okV_func, okV_nilFunc, okV_iface, okV_nilIface, cells_bool, cells_bool_size, cells_ptr, cells_ptr_size, cells_slice, cells_slice_size, cells_str, cells_str_size, eq_self, wrapI64_small, Int.natCast_zero, Int.natCast_one, Int.cast_ofNat_Int, List.length_nil, List.length_cons, List.getElem?_cons_zero, List.getElem?_cons_succ, List.set_cons_zero, List.set_cons_succ, Nat.zero_add, Nat.add_zero, Nat.mul_one, Nat.zero_mul, Int.toNat_natCast, Int.toNat_zero, Int.lt_irrefl, Int.le_refl, Nat.le_refl, and_self, true_and, and_true, decide_true, decide_false, Int.reduceLE, Int.reduceLT, Int.reduceAdd, Int.reduceMul, Int.reduceSub, Int.reduceTDiv, Int.reduceTMod, Int.reduceNeg, Int.reduceToNat, Int.reduceGT, Int.reduceGE, Int.reducePow, Nat.reduceAdd, Nat.reduceMul, Nat.reduceSub, Nat.reduceDiv, Nat.reduceMod, Nat.reducePow, Nat.reduceLT, Nat.reduceLeDiff, Nat.min_self, ge_iff_le, gt_iff_lt, Option.isNone_none, Option.isSome_none, Option.isNone_some, Option.isSome_some, Bool.and_true, Bool.true_and, Bool.and_false, Bool.false_and, not_true_eq_false, not_false_eq_true, or_true, true_or, false_or, or_false, hget0, hgetK, hset0, hsetK, splice_single, splice_whole, take_whole, List.getElem?_nil, List.length_append, List.append_assoc, n_add, n_mul, n_ladd, n_addl, n_lmul, n_mull, n_fdiv, n_fdivl, n_tdiv, n_tmod, n_w64, n_w32, n_w16, n_w8, n_sub64, n_lsub64, n_subl64, n_m32, n_m51, n_m1, n_m1b, n_m7b, p64_32, p64_51, p64_13, p8_7, hz20, hf0, hz5, hwc, hset, o1, hof, hcan, hbit, hshr, vone, hyy, hD, huu, hdy, hf2, hvv, hr, List.length_replicate, take_all, eV_cells, eV_size, eV_ok, eV_fold, ns_len, u8s_len, lk, lm, l0, l1, l5, l6, l7, vExtract_t, rootV, rft, rf_eV, kz]
            rfl
          · have h2 := ((hkey p).1 hp).2
            have h3 := hxx p hp
            rw [← hroot, h0] at h3
            have h4 : p.x * p.x = 0 * 0 := Go.Fp.fld.cancel (by rw [hv]; exact den_ne _) h3
            rcases sq_eq h4 with h5 | h5
            · rw [h5, hb] at h2; exact absurd h2 (by decide)
            · rw [h5, hb] at h2; exact absurd h2 (by decide)
        · rw [decide_eq_false h0] at kz
          have hroot' : fe vv * (-fe r * -fe r) = fe uu := by rw [← hroot]; generalize fe r = a; generalize fe vv = b; grobner
          refine .inl ⟨pL nr Y one t2, ⟨-fe r, Go.Fp.fp V, on_of hu hv hroot'⟩, ?_, ⟨nr, Y, one, t2, rfl, Enr, Ey, Eone, Et2, by rw [fone]; exact Go.Fp.one_ne, ?_, ?_, ?_⟩, (hkey _).2 ⟨hYv, ?_⟩⟩
          · generalize pL nr Y one t2 = L at *
            apply evVal_ex
            apply Exists.intro
            rw [evFun_fn (fn := a31) rfl]
            simp only [a31, ↓steps_chunk, envOf, evCode_skip, evCode_exit, evCode_seq, fs_blockS, fs_blockR, fs_blockC, fs_blockK, fs_blockB, evCode_ret, quiet, keep_nil, keep_cons, fs_cond, fs_region, fs_regionQ, quiet2_eq, lastOf_nil, lastOf_cons, List.take_succ_cons, List.take_zero, List.drop_succ_cons, List.drop_zero, Int.reduceBEq, Int.reduceBNe,  fs_nil, fs_guard, fs_move, fs_pick, fs_alloc, fs_box, fs_load, fs_store, fs_bin, fs_eqv, fs_isNil, fs_un, fs_conv, fs_convStr, fs_field, fs_index, fs_indexStr, fs_build, fs_buildSlice, fs_fieldAddr, fs_indexAddr, fs_indexSl, fs_sliceArr, fs_sliceSl, fs_sliceStr, fs_makeSlice, fs_extract, fs_mkIface, fs_mkFunc, fs_nilCheck, fs_s2ap, fs_len, fs_minmax, fs_s2b, fs_b2s, fs_append, fs_copy, fs_callW, fs_callR, fs_callv, opd_tmp, opd_const, opd_func, opds_nil, opds_cons, opdOpt_none, opdOpt_some, opdParts_nil, opdParts_cons, get_miss, vPick_t, vPick_f, vEq_agg, vEq_aggN, vEq_bool, vEq_boolN, vConv_int, vStr_s, vField_agg, vIndex_agg, vIndexStr_s, vFieldAddr_p, vIndexAddr_p, vIndexSl_s, vSliceArr_p, vSliceSl_s, vSliceSl_n, vSliceStr_s, vExtract_t, vNilCheck_p, vS2ap_s, vLen_s, vLen_str, vMin_i, vMax_i, vLoad_p, vStore_p, baseP_p, vB2s_s, vMake_i, vS2b_s, callee_f, liveAt_eq, storeAt_eq, partL_none, partL_some, natIn_none, natIn_int, bounds3_two, bin_add, bin_sub, bin_mul, bin_quo, bin_rem, bin_and, bin_or, bin_xor, bin_andNot, bin_eql, bin_neq, bin_lss, bin_leq, bin_gtr, bin_geq, bin_shl, bin_shr, bin_sadd, bin_seql, bin_sneq, un_not, un_neg, un_xor, after_some, put_some, put_none, res_nil, res_val, res_var, packed_one, packed_two, merge_nil, merge_ge, rf_tup2, rfIn_int, rfIn_bool, rfIn_u8s, rf_str, rfIn_str, ↓gate_true, gd_bool, gd_ut, gd_uf, ↓guardW_tt, ↓guardW_ff, ↓guardW_tf, ↓guardW_ft, ↓keepW_some, ↓qElseW_some, ↓get_hit, ↓Option.bind_some, ↓if_true, ↓if_false, List.nil_append, List.cons_append, List.all_nil, List.all_cons, List.isEmpty_nil, reduceCtorEq, Bool.false_eq_true, Nat.reduceEqDiff, beq_self_eq_true, bne_self_eq_false, Bool.not_true, Bool.not_false, Int.natCast_nonneg, Nat.lt_irrefl, false_and, Int.reduceEq, rf_int, rf_bool, rf_tuple_ints, rf_u8s, arr_list, toList2, Bool.and_self, Nat.not_lt_zero, Nat.sub_zero, Nat.zero_le, Nat.le_add_right, cells_agg, cells_agg_size, cells_int, cells_int_size, okV_int, okV_bool, okV_str, okV_agg, okV_ptr, okV_slice, okV_func, okV_nilFunc, okV_iface, okV_nilIface, cells_bool, cells_bool_size, cells_ptr, cells_ptr_size, cells_slice, cells_slice_size, cells_str, cells_str_size, eq_self, wrapI64_small, Int.natCast_zero, Int.natCast_one, Int.cast_ofNat_Int, List.length_nil, List.length_cons, List.getElem?_cons_zero, List.getElem?_cons_succ, List.set_cons_zero, List.set_cons_succ, Nat.zero_add, Nat.add_zero, Nat.mul_one, Nat.zero_mul, Int.toNat_natCast, Int.toNat_zero, Int.lt_irrefl, Int.le_refl, Nat.le_refl, and_self, true_and, and_true, decide_true, decide_false, Int.reduceLE, Int.reduceLT, Int.reduceAdd, Int.reduceMul, Int.reduceSub, Int.reduceTDiv, Int.reduceTMod, Int.reduceNeg, Int.reduceToNat, Int.reduceGT, Int.reduceGE, Int.reducePow, Nat.reduceAdd, Nat.reduceMul, Nat.reduceSub, Nat.reduceDiv, Nat.reduceMod, Nat.reducePow, Nat.reduceLT, Nat.reduceLeDiff, Nat.min_self, ge_iff_le, gt_iff_lt, Option.isNone_none, Option.isSome_none, Option.isNone_some, Option.isSome_some, Bool.and_true, Bool.true_and, Bool.and_false, Bool.false_and, not_true_eq_false, not_false_eq_true, or_true, true_or, false_or, or_false, hget0, hgetK, hset0, hsetK, splice_single, splice_whole, take_whole, List.getElem?_nil, List.length_append, List.append_assoc, n_add, n_mul, n_ladd, n_addl, n_lmul, n_mull, n_fdiv, n_fdivl, n_tdiv, n_tmod, n_w64, n_w32, n_w16, n_w8, n_sub64, n_lsub64, n_subl64, n_m32, n_m51, n_m1, n_m1b, n_m7b, p64_32, p64_51, p64_13, p8_7, hz20, hf0, hz5, hwc, hset, o1, hof, hcan, hbit, hshr, vone, hyy, hD, huu, hdy, hf2, hvv, hr, List.length_replicate, take_all, eV_cells, eV_size, eV_ok, eV_fold, ns_len, u8s_len, lk, lm, l0, l1, l5, l6, l7, vExtract_t, rootV, rft, rf_eV, kz, hnr, ht2, g2, q2, l8]
            rfl
          · rw [fnr, fone]; show -fe r = -fe r * 1; generalize fe r = a; grobner
          · rw [fy, fone]; show Go.Fp.fp V = Go.Fp.fp V * 1; generalize Go.Fp.fp V = a; grobner
          · rw [ft2, fnr, fy, fone]; show -fe r * Go.Fp.fp V = -fe r * Go.Fp.fp V * 1; generalize Go.Fp.fp V = a; generalize fe r = b; grobner
          · have := par_neg h0
            rw [hev'] at this
            show (-fe r).val % 2 = _
            rw [hb]; omega
      · rw [decide_eq_false hb] at hbit
        refine .inl ⟨pL r Y one t1, ⟨fe r, Go.Fp.fp V, on_of hu hv hroot⟩, ?_, ⟨r, Y, one, t1, rfl, Er, Ey, Eone, Et1, by rw [fone]; exact Go.Fp.one_ne, ?_, ?_, ?_⟩, (hkey _).2 ⟨hYv, ?_⟩⟩
        · generalize pL r Y one t1 = L at *
          apply evVal_ex
          apply Exists.intro
          rw [evFun_fn (fn := a31) rfl]
          simp only [a31, ↓steps_chunk, envOf, evCode_skip, evCode_exit, evCode_seq, fs_blockS, fs_blockR, fs_blockC, fs_blockK, fs_blockB, evCode_ret, quiet, keep_nil, keep_cons, fs_cond, fs_region, fs_regionQ, quiet2_eq, lastOf_nil, lastOf_cons, List.take_succ_cons, List.take_zero, List.drop_succ_cons, List.drop_zero, Int.reduceBEq, Int.reduceBNe,  fs_nil, fs_guard, fs_move, fs_pick, fs_alloc, fs_box, fs_load, fs_store, fs_bin, fs_eqv, fs_isNil, fs_un, fs_conv, fs_convStr, fs_field, fs_index, fs_indexStr, fs_build, fs_buildSlice, fs_fieldAddr, fs_indexAddr, fs_indexSl, fs_sliceArr, fs_sliceSl, fs_sliceStr, fs_makeSlice, fs_extract, fs_mkIface, fs_mkFunc, fs_nilCheck, fs_s2ap, fs_len, fs_minmax, fs_s2b, fs_b2s, fs_append, fs_copy, fs_callW, fs_callR, fs_callv, opd_tmp, opd_const, opd_func, opds_nil, opds_cons, opdOpt_none, opdOpt_some, opdParts_nil, opdParts_cons, get_miss, vPick_t, vPick_f, vEq_agg, vEq_aggN, vEq_bool, vEq_boolN, vConv_int, vStr_s, vField_agg, vIndex_agg, vIndexStr_s, vFieldAddr_p, vIndexAddr_p, vIndexSl_s, vSliceArr_p, vSliceSl_s, vSliceSl_n, vSliceStr_s, vExtract_t, vNilCheck_p, vS2ap_s, vLen_s, vLen_str, vMin_i, vMax_i, vLoad_p, vStore_p, baseP_p, vB2s_s, vMake_i, vS2b_s, callee_f, liveAt_eq, storeAt_eq, partL_none, partL_some, natIn_none, natIn_int, bounds3_two, bin_add, bin_sub, bin_mul, bin_quo, bin_rem, bin_and, bin_or, bin_xor, bin_andNot, bin_eql, bin_neq, bin_lss, bin_leq, bin_gtr, bin_geq, bin_shl, bin_shr, bin_sadd, bin_seql, bin_sneq, un_not, un_neg, un_xor, after_some, put_some, put_none, res_nil, res_val, res_var, packed_one, packed_two, merge_nil, merge_ge, rf_tup2, rfIn_int, rfIn_bool, rfIn_u8s, rf_str, rfIn_str, ↓gate_true, gd_bool, gd_ut, gd_uf, ↓guardW_tt, ↓guardW_ff, ↓guardW_tf, ↓guardW_ft, ↓keepW_some, ↓qElseW_some, ↓get_hit, ↓Option.bind_some, ↓if_true, ↓if_false, List.nil_append, List.cons_append, List.all_nil, List.all_cons, List.isEmpty_nil, reduceCtorEq, Bool.false_eq_true, Nat.reduceEqDiff, beq_self_eq_true, bne_self_eq_false, Bool.not_true, Bool.not_false, Int.natCast_nonneg, Nat.lt_irrefl, false_and, Int.reduceEq, rf_int, rf_bool, rf_tuple_ints, rf_u8s, arr_list, toList2, Bool.and_self, Nat.not_lt_zero, Nat.sub_zero, Nat.zero_le, Nat.le_add_right, cells_agg, cells_agg_size, cells_int, cells_int_size, okV_int, okV_bool, okV_str, okV_agg, okV_ptr, okV_slice, okV_func, okV_nilFunc, okV_iface, okV_nilIface, cells_bool, cells_bool_size, cells_ptr, cells_ptr_size, cells_slice, cells_slice_size, cells_str, cells_str_size, eq_self, wrapI64_small, Int.natCast_zero, Int.natCast_one, Int.cast_ofNat_Int, List.length_nil, List.length_cons, List.getElem?_cons_zero, List.getElem?_cons_succ, List.set_cons_zero, List.set_cons_succ, Nat.zero_add, Nat.add_zero, Nat.mul_one, Nat.zero_mul, Int.toNat_natCast, Int.toNat_zero, Int.lt_irrefl, Int.le_refl, Nat.le_refl, and_self, true_and, and_true, decide_true, decide_false, Int.reduceLE, Int.reduceLT, Int.reduceAdd, Int.reduceMul, Int.reduceSub, Int.reduceTDiv, Int.reduceTMod, Int.reduceNeg, Int.reduceToNat, Int.reduceGT, Int.reduceGE, Int.reducePow, Nat.reduceAdd, Nat.reduceMul, Nat.reduceSub, Nat.reduceDiv, Nat.reduceMod, Nat.reducePow, Nat.reduceLT, Nat.reduceLeDiff, Nat.min_self, ge_iff_le, gt_iff_lt, Option.isNone_none, Option.isSome_none, Option.isNone_some, Option.isSome_some, Bool.and_true, Bool.true_and, Bool.and_false, Bool.false_and, not_true_eq_false, not_false_eq_true, or_true, true_or, false_or, or_false, hget0, hgetK, hset0, hsetK, splice_single, splice_whole, take_whole, List.getElem?_nil, List.length_append, List.append_assoc, n_add, n_mul, n_ladd, n_addl, n_lmul, n_mull, n_fdiv, n_fdivl, n_tdiv, n_tmod, n_w64, n_w32, n_w16, n_w8, n_sub64, n_lsub64, n_subl64, n_m32, n_m51, n_m1, n_m1b, n_m7b, p64_32, p64_51, p64_13, p8_7, hz20, hf0, hz5, hwc, hset, o1, hof, hcan, hbit, hshr, vone, hyy, hD, huu, hdy, hf2, hvv, hr, List.length_replicate, take_all, eV_cells, eV_size, eV_ok, eV_fold, ns_len, u8s_len, lk, lm, l0, l1, l5, l6, l7, vExtract_t, rootV, rft, rf_eV, ht1, g1, q1]
          rfl
        · rw [fone]; show fe r = fe r * 1; generalize fe r = a; grobner
        · rw [fy, fone]; show Go.Fp.fp V = Go.Fp.fp V * 1; generalize Go.Fp.fp V = a; grobner
        · rw [ft1, fy, fone]; show fe r * Go.Fp.fp V = fe r * Go.Fp.fp V * 1; generalize Go.Fp.fp V = a; generalize fe r = b; grobner
        · show (fe r).val % 2 = _
          rw [hev']; omega
  · rw [decide_eq_false hV] at hcan
    refine .inr ⟨O, ?_, l0, fun p hp => hV ?_⟩
    · apply evVal_ex
      apply Exists.intro
      rw [evFun_fn (fn := a31) rfl]
      simp only [a31, ↓steps_chunk, envOf, evCode_skip, evCode_exit, evCode_seq, fs_blockS, fs_blockR, fs_blockC, fs_blockK, fs_blockB, evCode_ret, quiet, keep_nil, keep_cons, fs_cond, fs_region, fs_regionQ, quiet2_eq, lastOf_nil, lastOf_cons, List.take_succ_cons, List.take_zero, List.drop_succ_cons, List.drop_zero, Int.reduceBEq, Int.reduceBNe,  fs_nil, fs_guard, fs_move, fs_pick, fs_alloc, fs_box, fs_load, fs_store, fs_bin, fs_eqv, fs_isNil, fs_un, fs_conv, fs_convStr, fs_field, fs_index, fs_indexStr, fs_build, fs_buildSlice, fs_fieldAddr, fs_indexAddr, fs_indexSl, fs_sliceArr, fs_sliceSl, fs_sliceStr, fs_makeSlice, fs_extract, fs_mkIface, fs_mkFunc, fs_nilCheck, fs_s2ap, fs_len, fs_minmax, fs_s2b, fs_b2s, fs_append, fs_copy, fs_callW, fs_callR, fs_callv, opd_tmp, opd_const, opd_func, opds_nil, opds_cons, opdOpt_none, opdOpt_some, opdParts_nil, opdParts_cons, get_miss, vPick_t, vPick_f, vEq_agg, vEq_aggN, vEq_bool, vEq_boolN, vConv_int, vStr_s, vField_agg, vIndex_agg, vIndexStr_s, vFieldAddr_p, vIndexAddr_p, vIndexSl_s, vSliceArr_p, vSliceSl_s, vSliceSl_n, vSliceStr_s, vExtract_t, vNilCheck_p, vS2ap_s, vLen_s, vLen_str, vMin_i, vMax_i, vLoad_p, vStore_p, baseP_p, vB2s_s, vMake_i, vS2b_s, callee_f, liveAt_eq, storeAt_eq, partL_none, partL_some, natIn_none, natIn_int, bounds3_two, bin_add, bin_sub, bin_mul, bin_quo, bin_rem, bin_and, bin_or, bin_xor, bin_andNot, bin_eql, bin_neq, bin_lss, bin_leq, bin_gtr, bin_geq, bin_shl, bin_shr, bin_sadd, bin_seql, bin_sneq, un_not, un_neg, un_xor, after_some, put_some, put_none, res_nil, res_val, res_var, packed_one, packed_two, merge_nil, merge_ge, rf_tup2, rfIn_int, rfIn_bool, rfIn_u8s, rf_str, rfIn_str, ↓gate_true, gd_bool, gd_ut, gd_uf, ↓guardW_tt, ↓guardW_ff, ↓guardW_tf, ↓guardW_ft, ↓keepW_some, ↓qElseW_some, ↓get_hit, ↓Option.bind_some, ↓if_true, ↓if_false, List.nil_append, List.cons_append, List.all_nil, List.all_cons, List.isEmpty_nil, reduceCtorEq, Bool.false_eq_true, Nat.reduceEqDiff, beq_self_eq_true, bne_self_eq_false, Bool.not_true, Bool.not_false, Int.natCast_nonneg, Nat.lt_irrefl, false_and, Int.reduceEq, rf_int, rf_bool, rf_tuple_ints, rf_u8s, arr_list, toList2, Bool.and_self, Nat.not_lt_zero, Nat.sub_zero, Nat.zero_le, Nat.le_add_right, cells_agg, cells_agg_size, cells_int, cells_int_size, okV_int, okV_bool, okV_str, okV_agg, okV_ptr, okV_slice, okV_func, okV_nilFunc, okV_iface, okV_nilIface, cells_bool, cells_bool_size, cells_ptr, cells_ptr_size, cells_slice, cells_slice_size, cells_str, cells_str_size, eq_self, wrapI64_small, Int.natCast_zero, Int.natCast_one, Int.cast_ofNat_Int, List.length_nil, List.length_cons, List.getElem?_cons_zero, List.getElem?_cons_succ, List.set_cons_zero, List.set_cons_succ, Nat.zero_add, Nat.add_zero, Nat.mul_one, Nat.zero_mul, Int.toNat_natCast, Int.toNat_zero, Int.lt_irrefl, Int.le_refl, Nat.le_refl, and_self, true_and, and_true, decide_true, decide_false, Int.reduceLE, Int.reduceLT, Int.reduceAdd, Int.reduceMul, Int.reduceSub, Int.reduceTDiv, Int.reduceTMod, Int.reduceNeg, Int.reduceToNat, Int.reduceGT, Int.reduceGE, Int.reducePow, Nat.reduceAdd, Nat.reduceMul, Nat.reduceSub, Nat.reduceDiv, Nat.reduceMod, Nat.reducePow, Nat.reduceLT, Nat.reduceLeDiff, Nat.min_self, ge_iff_le, gt_iff_lt, Option.isNone_none, Option.isSome_none, Option.isNone_some, Option.isSome_some, Bool.and_true, Bool.true_and, Bool.and_false, Bool.false_and, not_true_eq_false, not_false_eq_true, or_true, true_or, false_or, or_false, hget0, hgetK, hset0, hsetK, splice_single, splice_whole, take_whole, List.getElem?_nil, List.length_append, List.append_assoc, n_add, n_mul, n_ladd, n_addl, n_lmul, n_mull, n_fdiv, n_fdivl, n_tdiv, n_tmod, n_w64, n_w32, n_w16, n_w8, n_sub64, n_lsub64, n_subl64, n_m32, n_m51, n_m1, n_m1b, n_m7b, p64_32, p64_51, p64_13, p8_7, hz20, hf0, hz5, hwc, hset, o1, hof, hcan, hbit, hshr, List.length_replicate, take_all, eV_cells, eV_size, eV_ok, eV_fold, ns_len, u8s_len, lk, lm, l0, l1, l5, rf_eV]
      rfl
    · rw [← ((hkey p).1 hp).1]; exact p.y.isLt
end Go.Ev.Ytaceeoghjgggjaa
set_option linter.unusedSimpArgs false
set_option linter.unusedVariables false
namespace Go.Ev.Ytaceeoghjgggjaa
open Go Go.Ev
attribute [local congr] bind_congr2 ite_congr2 qElse_congr gate_congr guardV_congr
set_option maxRecDepth 100000
theorem pmul_padd (k : Nat) (p q : Go.Cv.Pt Go.Fp.P Go.Fp.d) : pmul k (padd p q) = padd (pmul k p) (pmul k q) := Go.Cv.mul_padd Go.Fp.fld k p q
theorem pzero_padd (p : Go.Cv.Pt Go.Fp.P Go.Fp.d) : padd pzero p = p := Go.Cv.zero_add Go.Fp.fld p
theorem f8_lit : fillL (List.replicate 32 (Value.int .u8 0)) [(0, 1, .int .u8 8)] = some (u8s (keyOf 8)) := rfl
theorem ptiny_ev {ka kb : List Nat} (la : ka.length = 32) (xa : ∀ x ∈ ka, x < 256) (lb : kb.length = 32) (xb : ∀ x ∈ kb, x < 256) : ∃ l, evFun T 13 [.agg (u8s ka).toArray, .agg (u8s kb).toArray] [] = some (.bool true, l, []) := by
  have hbased := based_v
  have hz20 : ∃ O, List.replicate 20 (Value.int .u64 0) = ns .u64 O ∧ O.length = 20 := ⟨List.replicate 20 0, rfl, rfl⟩
  obtain ⟨O, hz20, l0⟩ := hz20
  have rft : ∀ (r : List Nat) (c : Int), rf (Value.tuple #[eV r, .int .i64 c]) = true := fun r c => rf_tup2 (a := eV r) (b := .int .i64 c) (rf_eV r) rfl
  rcases decode_v la xa with ⟨P, p, hD, rp, he⟩ | ⟨l, hD, ll, -⟩
  · obtain ⟨B, hB, rB⟩ := base_v
    obtain ⟨Z, hZ, rZ⟩ := zero_v
    generalize pbase = bp at rB
    obtain ⟨Q, hQ, rq⟩ := multiply_v rB lb xb
    generalize pmul (num 256 kb) bp = q at rq
    have x8 := keyOf_lt (m := 8) (by decide)
    obtain ⟨P8, hP8, rp8⟩ := multiply_v rp (keyOf_len 8) x8
    obtain ⟨Q8, hQ8, rq8⟩ := multiply_v rq (keyOf_len 8) x8
    obtain ⟨S, dS, hS, ES⟩ := adds_ev (H := [⟨u8s ka, true, true, true, 1⟩, ⟨u8s kb, true, true, true, 1⟩, ⟨ns .u64 P, true, true, true, 1⟩, ⟨ns .u64 Q, true, true, true, 1⟩, ⟨ns .u64 [P, Q].flatten, true, true, true, 1⟩]) (id := 4) (n := 2) (xs := [P, Q]) rfl (by decide) (.cons rp (.cons rq .nil)) rfl
    simp only [List.map_cons, List.map_nil, List.cons_append, List.nil_append] at hS
    rw [fold2] at ES
    obtain ⟨S8, hS8, rs8⟩ := multiply_v ES (keyOf_len 8) x8
    have f8 := f8_lit
    have lk8 := keyOf_len 8
    rw [keyOf_num] at rp8 rq8 rs8
    have t1 := tiny_v rp
    have t2 := equal_v rp8 rZ
    have t3 := equal_v rs8 rq8
    have g1 := fill40 rp rq
    have p1 := rp.len
    have p2 := rq.len
    have p3 := ES.len
    have p4 := rs8.len
    generalize keyOf 8 = K8 at *
    by_cases h : pmul 8 p = pzero
    · rw [decide_eq_true h] at t1 t2
      rw [decide_eq_true (by rw [pmul_padd, h, pzero_padd])] at t3
      apply Exists.intro
      rw [evFun_fn (fn := a13) rfl]
      simp only [a13, ↓steps_chunk, envOf, evCode_skip, evCode_exit, evCode_seq, fs_blockS, fs_blockR, fs_blockC, fs_blockK, fs_blockB, evCode_ret, quiet, keep_nil, keep_cons, fs_cond, fs_region, fs_regionQ, quiet2_eq, lastOf_nil, lastOf_cons, List.take_succ_cons, List.take_zero, List.drop_succ_cons, List.drop_zero, Int.reduceBEq, Int.reduceBNe,  fs_nil, fs_guard, fs_move, fs_pick, fs_alloc, fs_box, fs_load, fs_store, fs_bin, fs_eqv, fs_isNil, fs_un, fs_conv, fs_convStr, fs_field, fs_index, fs_indexStr, fs_build, fs_buildSlice, fs_fieldAddr, fs_indexAddr, fs_indexSl, fs_sliceArr, fs_sliceSl, fs_sliceStr, fs_makeSlice, fs_extract, fs_mkIface, fs_mkFunc, fs_nilCheck, fs_s2ap, fs_len, fs_minmax, fs_s2b, fs_b2s, fs_append, fs_copy, fs_callW, fs_callR, fs_callv, opd_tmp, opd_const, opd_func, opds_nil, opds_cons, opdOpt_none, opdOpt_some, opdParts_nil, opdParts_cons, get_miss, vPick_t, vPick_f, vEq_agg, vEq_aggN, vEq_bool, vEq_boolN, vConv_int, vStr_s, vField_agg, vIndex_agg, vIndexStr_s, vFieldAddr_p, vIndexAddr_p, vIndexSl_s, vSliceArr_p, vSliceSl_s, vSliceSl_n, vSliceStr_s, vExtract_t, vNilCheck_p, vS2ap_s, vLen_s, vLen_str, vMin_i, vMax_i, vLoad_p, vStore_p, baseP_p, vB2s_s, vMake_i, vS2b_s, callee_f, liveAt_eq, storeAt_eq, partL_none, partL_some, natIn_none, natIn_int, bounds3_two, bin_add, bin_sub, bin_mul, bin_quo, bin_rem, bin_and, bin_or, bin_xor, bin_andNot, bin_eql, bin_neq, bin_lss, bin_leq, bin_gtr, bin_geq, bin_shl, bin_shr, bin_sadd, bin_seql, bin_sneq, un_not, un_neg, un_xor, after_some, put_some, put_none, res_nil, res_val, res_var, packed_one, packed_two, merge_nil, merge_ge, rf_tup2, rfIn_int, rfIn_bool, rfIn_u8s, rf_str, rfIn_str, ↓gate_true, gd_bool, gd_ut, gd_uf, ↓guardW_tt, ↓guardW_ff, ↓guardW_tf, ↓guardW_ft, ↓keepW_some, ↓qElseW_some, ↓get_hit, ↓Option.bind_some, ↓if_true, ↓if_false, List.nil_append, List.cons_append, List.all_nil, List.all_cons, List.isEmpty_nil, reduceCtorEq, Bool.false_eq_true, Nat.reduceEqDiff, beq_self_eq_true, bne_self_eq_false, Bool.not_true, Bool.not_false, Int.natCast_nonneg, Nat.lt_irrefl, false_and, Int.reduceEq, rf_int, rf_bool, rf_tuple_ints, rf_u8s, arr_list, toList2, Bool.and_self, Nat.not_lt_zero, Nat.sub_zero, Nat.zero_le, Nat.le_add_right, cells_agg, cells_agg_size, cells_int, cells_int_size, okV_int, okV_bool, okV_str, okV_agg, okV_ptr, okV_slice, okV_func, okV_nilFunc, okV_iface, okV_nilIface, cells_bool, cells_bool_size, cells_ptr, cells_ptr_size, cells_slice, cells_slice_size, cells_str, cells_str_size, eq_self, wrapI64_small, Int.natCast_zero, Int.natCast_one, Int.cast_ofNat_Int, List.length_nil, List.length_cons, List.getElem?_cons_zero, List.getElem?_cons_succ, List.set_cons_zero, List.set_cons_succ, Nat.zero_add, Nat.add_zero, Nat.mul_one, Nat.zero_mul, Int.toNat_natCast, Int.toNat_zero, Int.lt_irrefl, Int.le_refl, Nat.le_refl, and_self, true_and, and_true, decide_true, decide_false, Int.reduceLE, Int.reduceLT, Int.reduceAdd, Int.reduceMul, Int.reduceSub, Int.reduceTDiv, Int.reduceTMod, Int.reduceNeg, Int.reduceToNat, Int.reduceGT, Int.reduceGE, Int.reducePow, Nat.reduceAdd, Nat.reduceMul, Nat.reduceSub, Nat.reduceDiv, Nat.reduceMod, Nat.reducePow, Nat.reduceLT, Nat.reduceLeDiff, Nat.min_self, ge_iff_le, gt_iff_lt, Option.isNone_none, Option.isSome_none, Option.isNone_some, Option.isSome_some, Bool.and_true, Bool.true_and, Bool.and_false, Bool.false_and, not_true_eq_false, not_false_eq_true, or_true, true_or, false_or, or_false, hget0, hgetK, hset0, hsetK, splice_single, splice_whole, take_whole, List.getElem?_nil, List.length_append, List.append_assoc, decV, hbased, hD, hB, hZ, hQ, hP8, hQ8, hS, hS8, f8, t1, t2, t3, g1, hz20, List.length_replicate, take_all, eV_cells, eV_size, eV_ok, eV_fold, ns_len, u8s_len, la, lb, l0, lk8, p1, p2, p3, p4, rft, rf_eV]
      rfl
    · rw [decide_eq_false h] at t1 t2
      apply Exists.intro
      rw [evFun_fn (fn := a13) rfl]
      simp only [a13, ↓steps_chunk, envOf, evCode_skip, evCode_exit, evCode_seq, fs_blockS, fs_blockR, fs_blockC, fs_blockK, fs_blockB, evCode_ret, quiet, keep_nil, keep_cons, fs_cond, fs_region, fs_regionQ, quiet2_eq, lastOf_nil, lastOf_cons, List.take_succ_cons, List.take_zero, List.drop_succ_cons, List.drop_zero, Int.reduceBEq, Int.reduceBNe,  fs_nil, fs_guard, fs_move, fs_pick, fs_alloc, fs_box, fs_load, fs_store, fs_bin, fs_eqv, fs_isNil, fs_un, fs_conv, fs_convStr, fs_field, fs_index, fs_indexStr, fs_build, fs_buildSlice, fs_fieldAddr, fs_indexAddr, fs_indexSl, fs_sliceArr, fs_sliceSl, fs_sliceStr, fs_makeSlice, fs_extract, fs_mkIface, fs_mkFunc, fs_nilCheck, fs_s2ap, fs_len, fs_minmax, fs_s2b, fs_b2s, fs_append, fs_copy, fs_callW, fs_callR, fs_callv, opd_tmp, opd_const, opd_func, opds_nil, opds_cons, opdOpt_none, opdOpt_some, opdParts_nil, opdParts_cons, get_miss, vPick_t, vPick_f, vEq_agg, vEq_aggN, vEq_bool, vEq_boolN, vConv_int, vStr_s, vField_agg, vIndex_agg, vIndexStr_s, vFieldAddr_p, vIndexAddr_p, vIndexSl_s, vSliceArr_p, vSliceSl_s, vSliceSl_n, vSliceStr_s, vExtract_t, vNilCheck_p, vS2ap_s, vLen_s, vLen_str, vMin_i, vMax_i, vLoad_p, vStore_p, baseP_p, vB2s_s, vMake_i, vS2b_s, callee_f, liveAt_eq, storeAt_eq, partL_none, partL_some, natIn_none, natIn_int, bounds3_two, bin_add, bin_sub, bin_mul, bin_quo, bin_rem, bin_and, bin_or, bin_xor, bin_andNot, bin_eql, bin_neq, bin_lss, bin_leq, bin_gtr, bin_geq, bin_shl, bin_shr, bin_sadd, bin_seql, bin_sneq, un_not, un_neg, un_xor, after_some, put_some, put_none, res_nil, res_val, res_var, packed_one, packed_two, merge_nil, merge_ge, rf_tup2, rfIn_int, rfIn_bool, rfIn_u8s, rf_str, rfIn_str, ↓gate_true, gd_bool, gd_ut, gd_uf, ↓guardW_tt, ↓guardW_ff, ↓guardW_tf, ↓guardW_ft, ↓keepW_some, ↓qElseW_some, ↓get_hit, ↓Option.bind_some, ↓if_true, ↓if_false, List.nil_append, List.cons_append, List.all_nil, List.all_cons, List.isEmpty_nil, reduceCtorEq, Bool.false_eq_true, Nat.reduceEqDiff, beq_self_eq_true, bne_self_eq_false, Bool.not_true, Bool.not_false, Int.natCast_nonneg, Nat.lt_irrefl, false_and, Int.reduceEq, rf_int, rf_bool, rf_tuple_ints, rf_u8s, arr_list, toList2, Bool.and_self, Nat.not_lt_zero, Nat.sub_zero, Nat.zero_le, Nat.le_add_right, cells_agg, cells_agg_size, cells_int, cells_int_size, okV_int, okV_bool, okV_str, okV_agg, okV_ptr, okV_slice, okV_func, okV_nilFunc, okV_iface, okV_nilIface, cells_bool, cells_bool_size, cells_ptr, cells_ptr_size, cells_slice, cells_slice_size, cells_str, cells_str_size, eq_self, wrapI64_small, Int.natCast_zero, Int.natCast_one, Int.cast_ofNat_Int, List.length_nil, List.length_cons, List.getElem?_cons_zero, List.getElem?_cons_succ, List.set_cons_zero, List.set_cons_succ, Nat.zero_add, Nat.add_zero, Nat.mul_one, Nat.zero_mul, Int.toNat_natCast, Int.toNat_zero, Int.lt_irrefl, Int.le_refl, Nat.le_refl, and_self, true_and, and_true, decide_true, decide_false, Int.reduceLE, Int.reduceLT, Int.reduceAdd, Int.reduceMul, Int.reduceSub, Int.reduceTDiv, Int.reduceTMod, Int.reduceNeg, Int.reduceToNat, Int.reduceGT, Int.reduceGE, Int.reducePow, Nat.reduceAdd, Nat.reduceMul, Nat.reduceSub, Nat.reduceDiv, Nat.reduceMod, Nat.reducePow, Nat.reduceLT, Nat.reduceLeDiff, Nat.min_self, ge_iff_le, gt_iff_lt, Option.isNone_none, Option.isSome_none, Option.isNone_some, Option.isSome_some, Bool.and_true, Bool.true_and, Bool.and_false, Bool.false_and, not_true_eq_false, not_false_eq_true, or_true, true_or, false_or, or_false, hget0, hgetK, hset0, hsetK, splice_single, splice_whole, take_whole, List.getElem?_nil, List.length_append, List.append_assoc, decV, hbased, hD, hB, hZ, hQ, hP8, hQ8, hS, hS8, f8, t1, t2, t3, g1, hz20, List.length_replicate, take_all, eV_cells, eV_size, eV_ok, eV_fold, ns_len, u8s_len, la, lb, l0, lk8, p1, p2, p3, p4, rft, rf_eV]
      rfl
  · apply Exists.intro
    rw [evFun_fn (fn := a13) rfl]
    simp only [a13, ↓steps_chunk, envOf, evCode_skip, evCode_exit, evCode_seq, fs_blockS, fs_blockR, fs_blockC, fs_blockK, fs_blockB, evCode_ret, quiet, keep_nil, keep_cons, fs_cond, fs_region, fs_regionQ, quiet2_eq, lastOf_nil, lastOf_cons, List.take_succ_cons, List.take_zero, List.drop_succ_cons, List.drop_zero, Int.reduceBEq, Int.reduceBNe,  fs_nil, fs_guard, fs_move, fs_pick, fs_alloc, fs_box, fs_load, fs_store, fs_bin, fs_eqv, fs_isNil, fs_un, fs_conv, fs_convStr, fs_field, fs_index, fs_indexStr, fs_build, fs_buildSlice, fs_fieldAddr, fs_indexAddr, fs_indexSl, fs_sliceArr, fs_sliceSl, fs_sliceStr, fs_makeSlice, fs_extract, fs_mkIface, fs_mkFunc, fs_nilCheck, fs_s2ap, fs_len, fs_minmax, fs_s2b, fs_b2s, fs_append, fs_copy, fs_callW, fs_callR, fs_callv, opd_tmp, opd_const, opd_func, opds_nil, opds_cons, opdOpt_none, opdOpt_some, opdParts_nil, opdParts_cons, get_miss, vPick_t, vPick_f, vEq_agg, vEq_aggN, vEq_bool, vEq_boolN, vConv_int, vStr_s, vField_agg, vIndex_agg, vIndexStr_s, vFieldAddr_p, vIndexAddr_p, vIndexSl_s, vSliceArr_p, vSliceSl_s, vSliceSl_n, vSliceStr_s, vExtract_t, vNilCheck_p, vS2ap_s, vLen_s, vLen_str, vMin_i, vMax_i, vLoad_p, vStore_p, baseP_p, vB2s_s, vMake_i, vS2b_s, callee_f, liveAt_eq, storeAt_eq, partL_none, partL_some, natIn_none, natIn_int, bounds3_two, bin_add, bin_sub, bin_mul, bin_quo, bin_rem, bin_and, bin_or, bin_xor, bin_andNot, bin_eql, bin_neq, bin_lss, bin_leq, bin_gtr, bin_geq, bin_shl, bin_shr, bin_sadd, bin_seql, bin_sneq, un_not, un_neg, un_xor, after_some, put_some, put_none, res_nil, res_val, res_var, packed_one, packed_two, merge_nil, merge_ge, rf_tup2, rfIn_int, rfIn_bool, rfIn_u8s, rf_str, rfIn_str, ↓gate_true, gd_bool, gd_ut, gd_uf, ↓guardW_tt, ↓guardW_ff, ↓guardW_tf, ↓guardW_ft, ↓keepW_some, ↓qElseW_some, ↓get_hit, ↓Option.bind_some, ↓if_true, ↓if_false, List.nil_append, List.cons_append, List.all_nil, List.all_cons, List.isEmpty_nil, reduceCtorEq, Bool.false_eq_true, Nat.reduceEqDiff, beq_self_eq_true, bne_self_eq_false, Bool.not_true, Bool.not_false, Int.natCast_nonneg, Nat.lt_irrefl, false_and, Int.reduceEq, rf_int, rf_bool, rf_tuple_ints, rf_u8s, arr_list, toList2, Bool.and_self, Nat.not_lt_zero, Nat.sub_zero, Nat.zero_le, Nat.le_add_right, cells_agg, cells_agg_size, cells_int, cells_int_size, okV_int, okV_bool, okV_str, okV_agg, okV_ptr, okV_slice, okV_func, okV_nilFunc, okV_iface, okV_nilIface, cells_bool, cells_bool_size, cells_ptr, cells_ptr_size, cells_slice, cells_slice_size, cells_str, cells_str_size, eq_self, wrapI64_small, Int.natCast_zero, Int.natCast_one, Int.cast_ofNat_Int, List.length_nil, List.length_cons, List.getElem?_cons_zero, List.getElem?_cons_succ, List.set_cons_zero, List.set_cons_succ, Nat.zero_add, Nat.add_zero, Nat.mul_one, Nat.zero_mul, Int.toNat_natCast, Int.toNat_zero, Int.lt_irrefl, Int.le_refl, Nat.le_refl, and_self, true_and, and_true, decide_true, decide_false, Int.reduceLE, Int.reduceLT, Int.reduceAdd, Int.reduceMul, Int.reduceSub, Int.reduceTDiv, Int.reduceTMod, Int.reduceNeg, Int.reduceToNat, Int.reduceGT, Int.reduceGE, Int.reducePow, Nat.reduceAdd, Nat.reduceMul, Nat.reduceSub, Nat.reduceDiv, Nat.reduceMod, Nat.reducePow, Nat.reduceLT, Nat.reduceLeDiff, Nat.min_self, ge_iff_le, gt_iff_lt, Option.isNone_none, Option.isSome_none, Option.isNone_some, Option.isSome_some, Bool.and_true, Bool.true_and, Bool.and_false, Bool.false_and, not_true_eq_false, not_false_eq_true, or_true, true_or, false_or, or_false, hget0, hgetK, hset0, hsetK, splice_single, splice_whole, take_whole, List.getElem?_nil, List.length_append, List.append_assoc, decV, hbased, hD, hz20, List.length_replicate, take_all, eV_cells, eV_size, eV_ok, eV_fold, ns_len, u8s_len, la, lb, l0, ll, rft, rf_eV]
    rfl
end Go.Ev.Ytaceeoghjgggjaa

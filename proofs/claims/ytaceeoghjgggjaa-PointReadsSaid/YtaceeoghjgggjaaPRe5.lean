/- What the law leans on, part 5. -/
import Derived.Test.YtaceeoghjgggjaaPRe4
set_option linter.unusedSimpArgs false
set_option linter.unusedVariables false
set_option linter.unusedSimpArgs false
set_option linter.unusedVariables false
namespace Go.Ev.Ytaceeoghjgggjaa
open Go Go.Ev
attribute [local congr] bind_congr2 ite_congr2 qElse_congr gate_congr guardV_congr
set_option maxRecDepth 100000
theorem z32_eq : List.replicate 32 (Value.int .u8 0) = u8s (dig 256 32 0) := rfl
theorem z32_fill : fillL (u8s (dig 256 32 0)) [] = some (u8s (dig 256 32 0)) := rfl
theorem w8n {n : Nat} (h : n < 256) : IntKind.u8.wrap (n : Int) = n := by rw [n_w8, Nat.mod_eq_of_lt h]
def rbyI (c o : List Nat) (i : Int) (ex : Env) : St := ⟨[(1, .pointer (some ⟨0, 0, none⟩)), (2, .pointer (some ⟨1, 0, none⟩)), (3, .pointer (some ⟨2, 0, none⟩)), (4, .int .i64 i)] ++ ex, [⟨ns .u64 c, true, true, true, 1⟩, ⟨u8s (dig 256 32 0), true, true, true, 1⟩, ⟨u8s o, true, true, true, 1⟩], []⟩
theorem rby_body {V i : Nat} (hi : i < 16) :
    evCode T 0 a66_l0 (rbyI (dig 65536 16 V) (pf 32 (dig 256 32 V) (2 * i)) i []) = some (.normal, rbyI (dig 65536 16 V) (pf 32 (dig 256 32 V) (2 * (i + 1))) ((i + 1 : Nat) : Int) []) := by
  obtain ⟨x, hx0⟩ : ∃ x, x = V / 65536 ^ i % 65536 := ⟨_, rfl⟩
  have hx : (dig 65536 16 V)[i]? = some x := by rw [dig_get hi, hx0]
  have hx' : x < 65536 := by rw [hx0]; exact Nat.mod_lt _ (by decide)
  have e : (65536 : Nat) ^ i = 256 ^ (2 * i) := by rw [show (65536 : Nat) = 256 ^ 2 from rfl, ← Nat.pow_mul]
  rw [e] at hx0
  have hd1 : (dig 256 32 V)[2 * i]? = some (x % 256) := by rw [dig_get (by omega), hx0]; congr 1; omega
  have hd2 : (dig 256 32 V)[2 * i + 1]? = some (x / 256) := by
    rw [dig_get (by omega), hx0, Nat.pow_succ, ← Nat.div_div_eq_div_mul]
    congr 1; omega
  have hs1 := pf_step (dig_len 256 32 V) (by omega : 2 * i < 32) hd1
  have hs2 := pf_step (dig_len 256 32 V) (by omega : 2 * i + 1 < 32) hd2
  have hl1 := pf_len (dig_len 256 32 V) (by omega : 2 * i ≤ 32)
  have hl2 := pf_len (dig_len 256 32 V) (by omega : 2 * i + 1 ≤ 32)
  have hset1 := u8s_set (pf 32 (dig 256 32 V) (2 * i)) (2 * i) (x % 256)
  have hset2 := u8s_set (pf 32 (dig 256 32 V) (2 * i + 1)) (2 * i + 1) (x / 256)
  rw [hs1] at hset1
  rw [hs2] at hset2
  rw [show 2 * (i + 1) = 2 * i + 1 + 1 by omega]
  have hxc := ns_get (k := .u64) hx
  have w1 : IntKind.i64.wrap ((i : Int) + 1) = ((i + 1 : Nat) : Int) := wi_add (b := 1) (by omega)
  have w2 : IntKind.i64.wrap (2 * (i : Int)) = ((2 * i : Nat) : Int) := wi_mul (a := 2) (by omega)
  have w3 : IntKind.i64.wrap (((2 * i : Nat) : Int) + 1) = ((2 * i + 1 : Nat) : Int) := wi_add (b := 1) (by omega)
  have w4 : (x : Int).tmod 256 = ((x % 256 : Nat) : Int) := rfl
  have w5 : IntKind.u8.wrap ((x % 256 : Nat) : Int) = ((x % 256 : Nat) : Int) := w8n (by omega)
  have w6 : IntKind.u64.wrap ((x : Int).tdiv 256) = ((x / 256 : Nat) : Int) := w64n (n := x / 256) (by omega)
  have w7 : IntKind.u8.wrap ((x / 256 : Nat) : Int) = ((x / 256 : Nat) : Int) := w8n (by omega)
  have e1 : ((i : Int) < 16) = True := eq_true (by omega)
  have e2 : (((2 * i : Nat) : Int) < 32) = True := eq_true (by omega)
  have e3 : (((2 * i + 1 : Nat) : Int) < 32) = True := eq_true (by omega)
  have e5 : (2 * i ≤ 31) = True := eq_true (by omega)
  have e6 : (2 * i + 1 ≤ 31) = True := eq_true (by omega)
  have l1 := dig_len 65536 16 V
  generalize dig 65536 16 V = C at *
  generalize pf 32 (dig 256 32 V) (2 * i) = o1 at *
  generalize pf 32 (dig 256 32 V) (2 * i + 1) = o2 at *
  generalize pf 32 (dig 256 32 V) (2 * i + 1 + 1) = o3 at *
  generalize hj1 : 2 * i + 1 = j1 at *
  generalize hj : 2 * i = j at *
  simp only [rbyI, a66_l0, envOf, evCode_skip, evCode_exit, evCode_seq, fs_blockS, fs_blockR, fs_blockC, fs_blockK, fs_blockB, evCode_ret, quiet, keep_nil, keep_cons, fs_cond, fs_region, fs_regionQ, quiet2_eq, lastOf_nil, lastOf_cons, List.take_succ_cons, List.take_zero, List.drop_succ_cons, List.drop_zero, Int.reduceBEq, Int.reduceBNe,  fs_nil, fs_guard, fs_move, fs_pick, fs_alloc, fs_box, fs_load, fs_store, fs_bin, fs_eqv, fs_isNil, fs_un, fs_conv, fs_convStr, fs_field, fs_index, fs_indexStr, fs_build, fs_buildSlice, fs_fieldAddr, fs_indexAddr, fs_indexSl, fs_sliceArr, fs_sliceSl, fs_sliceStr, fs_makeSlice, fs_extract, fs_mkIface, fs_mkFunc, fs_nilCheck, fs_s2ap, fs_len, fs_minmax, fs_s2b, fs_b2s, fs_append, fs_copy, fs_callW, fs_callR, fs_callv, opd_tmp, opd_const, opd_func, opds_nil, opds_cons, opdOpt_none, opdOpt_some, opdParts_nil, opdParts_cons, get_miss, vPick_t, vPick_f, vEq_agg, vEq_aggN, vEq_bool, vEq_boolN, vConv_int, vStr_s, vField_agg, vIndex_agg, vIndexStr_s, vFieldAddr_p, vIndexAddr_p, vIndexSl_s, vSliceArr_p, vSliceSl_s, vSliceSl_n, vSliceStr_s, vExtract_t, vNilCheck_p, vS2ap_s, vLen_s, vLen_str, vMin_i, vMax_i, vLoad_p, vStore_p, baseP_p, vB2s_s, vMake_i, vS2b_s, callee_f, liveAt_eq, storeAt_eq, partL_none, partL_some, natIn_none, natIn_int, bounds3_two, bin_add, bin_sub, bin_mul, bin_quo, bin_rem, bin_and, bin_or, bin_xor, bin_andNot, bin_eql, bin_neq, bin_lss, bin_leq, bin_gtr, bin_geq, bin_shl, bin_shr, bin_sadd, bin_seql, bin_sneq, un_not, un_neg, un_xor, after_some, put_some, put_none, res_nil, res_val, res_var, packed_one, packed_two, merge_nil, merge_ge, rf_tup2, rfIn_int, rfIn_bool, rfIn_u8s, rf_str, rfIn_str, ↓gate_true, gd_bool, gd_ut, gd_uf, ↓guardV_tt, ↓guardV_ff, ↓guardV_tf, ↓guardV_ft, ↓keepV_some, ↓qElse_some, ↓get_hit, ↓Option.bind_some, ↓if_true, ↓if_false, List.nil_append, List.cons_append, List.all_nil, List.all_cons, List.isEmpty_nil, reduceCtorEq, Bool.false_eq_true, Nat.reduceEqDiff, beq_self_eq_true, bne_self_eq_false, Bool.not_true, Bool.not_false, Int.natCast_nonneg, Nat.lt_irrefl, false_and, Int.reduceEq, rf_int, rf_bool, rf_tuple_ints, rf_u8s, arr_list, toList2, Bool.and_self, Nat.not_lt_zero, Nat.sub_zero, Nat.zero_le, Nat.le_add_right, cells_agg, cells_agg_size, cells_int, cells_int_size, okV_int, okV_bool, okV_str, okV_agg, okV_ptr, okV_slice, okV_func, okV_nilFunc, okV_iface, okV_nilIface, cells_bool, cells_bool_size, cells_ptr, cells_ptr_size, cells_slice, cells_slice_size, cells_str, cells_str_size, eq_self, wrapI64_small, Int.natCast_zero, Int.natCast_one, Int.cast_ofNat_Int, List.length_nil, List.length_cons, List.getElem?_cons_zero, List.getElem?_cons_succ, List.set_cons_zero, List.set_cons_succ, Nat.zero_add, Nat.add_zero, Nat.mul_one, Nat.zero_mul, Int.toNat_natCast, Int.toNat_zero, Int.lt_irrefl, Int.le_refl, Nat.le_refl, and_self, true_and, and_true, decide_true, decide_false, Int.reduceLE, Int.reduceLT, Int.reduceAdd, Int.reduceMul, Int.reduceSub, Int.reduceTDiv, Int.reduceTMod, Int.reduceNeg, Int.reduceToNat, Int.reduceGT, Int.reduceGE, Int.reducePow, Nat.reduceAdd, Nat.reduceMul, Nat.reduceSub, Nat.reduceDiv, Nat.reduceMod, Nat.reducePow, Nat.reduceLT, Nat.reduceLeDiff, Nat.min_self, ge_iff_le, gt_iff_lt, Option.isNone_none, Option.isSome_none, Option.isNone_some, Option.isSome_some, Bool.and_true, Bool.true_and, Bool.and_false, Bool.false_and, not_true_eq_false, not_false_eq_true, or_true, true_or, false_or, or_false, hget0, hgetK, hset0, hsetK, splice_single, splice_whole, take_whole, List.getElem?_nil, List.length_append, List.append_assoc, hxc, w1, w2, w3, w4, w5, w6, w7, e1, e2, e3, e5, e6, hset1, hset2, ns_len, u8s_len, hl1, hl2, l1]
theorem rbytes_v {a : List Nat} (ha : Nm a) : evVal T 66 [eV a] = some (.agg (u8s (dig 256 32 (nf a).val)).toArray) := by
  have hc := rcanon_v ha
  have hv : (nf a).val = num 65536 a % Go.Fp.P := rfl
  rw [hv]
  generalize num 65536 a % Go.Fp.P = V at *
  have hb := block_loop (T := T) (base := 0) (id := 0) (body := a66_l0) (fun i => rbyI (dig 65536 16 V) (pf 32 (dig 256 32 V) (2 * i)) i []) (s' := rbyI (dig 65536 16 V) (dig 256 32 V) 16 [(9, .bool false)]) 16
    (fun i hi => rby_body hi) (by
      rw [show 2 * 16 = 32 from rfl, pf_full (dig_len _ _ _)]
      simp only [rbyI, a66_l0, envOf, evCode_skip, evCode_exit, evCode_seq, fs_blockS, fs_blockR, fs_blockC, fs_blockK, fs_blockB, evCode_ret, quiet, keep_nil, keep_cons, fs_cond, fs_region, fs_regionQ, quiet2_eq, lastOf_nil, lastOf_cons, List.take_succ_cons, List.take_zero, List.drop_succ_cons, List.drop_zero, Int.reduceBEq, Int.reduceBNe,  fs_nil, fs_guard, fs_move, fs_pick, fs_alloc, fs_box, fs_load, fs_store, fs_bin, fs_eqv, fs_isNil, fs_un, fs_conv, fs_convStr, fs_field, fs_index, fs_indexStr, fs_build, fs_buildSlice, fs_fieldAddr, fs_indexAddr, fs_indexSl, fs_sliceArr, fs_sliceSl, fs_sliceStr, fs_makeSlice, fs_extract, fs_mkIface, fs_mkFunc, fs_nilCheck, fs_s2ap, fs_len, fs_minmax, fs_s2b, fs_b2s, fs_append, fs_copy, fs_callW, fs_callR, fs_callv, opd_tmp, opd_const, opd_func, opds_nil, opds_cons, opdOpt_none, opdOpt_some, opdParts_nil, opdParts_cons, get_miss, vPick_t, vPick_f, vEq_agg, vEq_aggN, vEq_bool, vEq_boolN, vConv_int, vStr_s, vField_agg, vIndex_agg, vIndexStr_s, vFieldAddr_p, vIndexAddr_p, vIndexSl_s, vSliceArr_p, vSliceSl_s, vSliceSl_n, vSliceStr_s, vExtract_t, vNilCheck_p, vS2ap_s, vLen_s, vLen_str, vMin_i, vMax_i, vLoad_p, vStore_p, baseP_p, vB2s_s, vMake_i, vS2b_s, callee_f, liveAt_eq, storeAt_eq, partL_none, partL_some, natIn_none, natIn_int, bounds3_two, bin_add, bin_sub, bin_mul, bin_quo, bin_rem, bin_and, bin_or, bin_xor, bin_andNot, bin_eql, bin_neq, bin_lss, bin_leq, bin_gtr, bin_geq, bin_shl, bin_shr, bin_sadd, bin_seql, bin_sneq, un_not, un_neg, un_xor, after_some, put_some, put_none, res_nil, res_val, res_var, packed_one, packed_two, merge_nil, merge_ge, rf_tup2, rfIn_int, rfIn_bool, rfIn_u8s, rf_str, rfIn_str, ↓gate_true, gd_bool, gd_ut, gd_uf, ↓guardV_tt, ↓guardV_ff, ↓guardV_tf, ↓guardV_ft, ↓keepV_some, ↓qElse_some, ↓get_hit, ↓Option.bind_some, ↓if_true, ↓if_false, List.nil_append, List.cons_append, List.all_nil, List.all_cons, List.isEmpty_nil, reduceCtorEq, Bool.false_eq_true, Nat.reduceEqDiff, beq_self_eq_true, bne_self_eq_false, Bool.not_true, Bool.not_false, Int.natCast_nonneg, Nat.lt_irrefl, false_and, Int.reduceEq, rf_int, rf_bool, rf_tuple_ints, rf_u8s, arr_list, toList2, Bool.and_self, Nat.not_lt_zero, Nat.sub_zero, Nat.zero_le, Nat.le_add_right, cells_agg, cells_agg_size, cells_int, cells_int_size, okV_int, okV_bool, okV_str, okV_agg, okV_ptr, okV_slice, okV_func, okV_nilFunc, okV_iface, okV_nilIface, cells_bool, cells_bool_size, cells_ptr, cells_ptr_size, cells_slice, cells_slice_size, cells_str, cells_str_size, eq_self, wrapI64_small, Int.natCast_zero, Int.natCast_one, Int.cast_ofNat_Int, List.length_nil, List.length_cons, List.getElem?_cons_zero, List.getElem?_cons_succ, List.set_cons_zero, List.set_cons_succ, Nat.zero_add, Nat.add_zero, Nat.mul_one, Nat.zero_mul, Int.toNat_natCast, Int.toNat_zero, Int.lt_irrefl, Int.le_refl, Nat.le_refl, and_self, true_and, and_true, decide_true, decide_false, Int.reduceLE, Int.reduceLT, Int.reduceAdd, Int.reduceMul, Int.reduceSub, Int.reduceTDiv, Int.reduceTMod, Int.reduceNeg, Int.reduceToNat, Int.reduceGT, Int.reduceGE, Int.reducePow, Nat.reduceAdd, Nat.reduceMul, Nat.reduceSub, Nat.reduceDiv, Nat.reduceMod, Nat.reducePow, Nat.reduceLT, Nat.reduceLeDiff, Nat.min_self, ge_iff_le, gt_iff_lt, Option.isNone_none, Option.isSome_none, Option.isNone_some, Option.isSome_some, Bool.and_true, Bool.true_and, Bool.and_false, Bool.false_and, not_true_eq_false, not_false_eq_true, or_true, true_or, false_or, or_false])
  rw [Nat.mul_zero, pf_zero, show List.replicate 32 0 = dig 256 32 0 from rfl] at hb
  simp only [rbyI, List.cons_append, List.nil_append, Int.natCast_zero] at hb
  have hz := z32_eq
  have hf := z32_fill
  have lz := dig_len 256 32 0
  have l1 := ha.len
  have l2 := dig_len 65536 16 V
  have l3 := dig_len 256 32 V
  generalize dig 65536 16 V = C at *
  generalize dig 256 32 V = R at *
  generalize dig 256 32 0 = Z at *
  apply evVal_ex
  apply Exists.intro
  rw [evFun_fn (fn := a66) rfl]
  simp only [a66, ↓steps_chunk, envOf, evCode_skip, evCode_exit, evCode_seq, fs_blockS, fs_blockR, fs_blockC, fs_blockK, fs_blockB, evCode_ret, quiet, keep_nil, keep_cons, fs_cond, fs_region, fs_regionQ, quiet2_eq, lastOf_nil, lastOf_cons, List.take_succ_cons, List.take_zero, List.drop_succ_cons, List.drop_zero, Int.reduceBEq, Int.reduceBNe,  fs_nil, fs_guard, fs_move, fs_pick, fs_alloc, fs_box, fs_load, fs_store, fs_bin, fs_eqv, fs_isNil, fs_un, fs_conv, fs_convStr, fs_field, fs_index, fs_indexStr, fs_build, fs_buildSlice, fs_fieldAddr, fs_indexAddr, fs_indexSl, fs_sliceArr, fs_sliceSl, fs_sliceStr, fs_makeSlice, fs_extract, fs_mkIface, fs_mkFunc, fs_nilCheck, fs_s2ap, fs_len, fs_minmax, fs_s2b, fs_b2s, fs_append, fs_copy, fs_callW, fs_callR, fs_callv, opd_tmp, opd_const, opd_func, opds_nil, opds_cons, opdOpt_none, opdOpt_some, opdParts_nil, opdParts_cons, get_miss, vPick_t, vPick_f, vEq_agg, vEq_aggN, vEq_bool, vEq_boolN, vConv_int, vStr_s, vField_agg, vIndex_agg, vIndexStr_s, vFieldAddr_p, vIndexAddr_p, vIndexSl_s, vSliceArr_p, vSliceSl_s, vSliceSl_n, vSliceStr_s, vExtract_t, vNilCheck_p, vS2ap_s, vLen_s, vLen_str, vMin_i, vMax_i, vLoad_p, vStore_p, baseP_p, vB2s_s, vMake_i, vS2b_s, callee_f, liveAt_eq, storeAt_eq, partL_none, partL_some, natIn_none, natIn_int, bounds3_two, bin_add, bin_sub, bin_mul, bin_quo, bin_rem, bin_and, bin_or, bin_xor, bin_andNot, bin_eql, bin_neq, bin_lss, bin_leq, bin_gtr, bin_geq, bin_shl, bin_shr, bin_sadd, bin_seql, bin_sneq, un_not, un_neg, un_xor, after_some, put_some, put_none, res_nil, res_val, res_var, packed_one, packed_two, merge_nil, merge_ge, rf_tup2, rfIn_int, rfIn_bool, rfIn_u8s, rf_str, rfIn_str, ↓gate_true, gd_bool, gd_ut, gd_uf, ↓guardW_tt, ↓guardW_ff, ↓guardW_tf, ↓guardW_ft, ↓keepW_some, ↓qElseW_some, ↓get_hit, ↓Option.bind_some, ↓if_true, ↓if_false, List.nil_append, List.cons_append, List.all_nil, List.all_cons, List.isEmpty_nil, reduceCtorEq, Bool.false_eq_true, Nat.reduceEqDiff, beq_self_eq_true, bne_self_eq_false, Bool.not_true, Bool.not_false, Int.natCast_nonneg, Nat.lt_irrefl, false_and, Int.reduceEq, rf_int, rf_bool, rf_tuple_ints, rf_u8s, arr_list, toList2, Bool.and_self, Nat.not_lt_zero, Nat.sub_zero, Nat.zero_le, Nat.le_add_right, cells_agg, cells_agg_size, cells_int, cells_int_size, okV_int, okV_bool, okV_str, okV_agg, okV_ptr, okV_slice, okV_func, okV_nilFunc, okV_iface, okV_nilIface, cells_bool, cells_bool_size, cells_ptr, cells_ptr_size, cells_slice, cells_slice_size, cells_str, cells_str_size, eq_self, wrapI64_small, Int.natCast_zero, Int.natCast_one, Int.cast_ofNat_Int, List.length_nil, List.length_cons, List.getElem?_cons_zero, List.getElem?_cons_succ, List.set_cons_zero, List.set_cons_succ, Nat.zero_add, Nat.add_zero, Nat.mul_one, Nat.zero_mul, Int.toNat_natCast, Int.toNat_zero, Int.lt_irrefl, Int.le_refl, Nat.le_refl, and_self, true_and, and_true, decide_true, decide_false, Int.reduceLE, Int.reduceLT, Int.reduceAdd, Int.reduceMul, Int.reduceSub, Int.reduceTDiv, Int.reduceTMod, Int.reduceNeg, Int.reduceToNat, Int.reduceGT, Int.reduceGE, Int.reducePow, Nat.reduceAdd, Nat.reduceMul, Nat.reduceSub, Nat.reduceDiv, Nat.reduceMod, Nat.reducePow, Nat.reduceLT, Nat.reduceLeDiff, Nat.min_self, ge_iff_le, gt_iff_lt, Option.isNone_none, Option.isSome_none, Option.isNone_some, Option.isSome_some, Bool.and_true, Bool.true_and, Bool.and_false, Bool.false_and, not_true_eq_false, not_false_eq_true, or_true, true_or, false_or, or_false, hget0, hgetK, hset0, hsetK, splice_single, splice_whole, take_whole, List.getElem?_nil, List.length_append, List.append_assoc, hz, hf, hc, hb, List.length_replicate, take_all, eV_cells, eV_size, eV_ok, eV_fold, ns_len, u8s_len, l1, l2, l3, lz, rf_eV]
  rfl
def fH (d : List Nat) (l : List Ob) : List Ob := ⟨ns .u64 d, true, true, true, 1⟩ :: ⟨ns .u64 zero16, true, true, true, 1⟩ :: l
def f2I (d : List Nat) (l : List Ob) (c : Nat) (i : Int) (ex : Env) : St := ⟨[(1, .pointer (some ⟨0, 0, none⟩)), (2, .pointer (some ⟨1, 0, none⟩)), (3, .int .u64 c), (4, .int .i64 i)] ++ ex, fH d l, []⟩
theorem f2_block {d : List Nat} {l : List Ob} (hd : d.length = 32) (hM : ∀ x ∈ d, x < 2 ^ 44) (hN : num 65536 d < 65536 ^ 32) :
    ∃ o c, evCode T 0 (.block 2 (.loop a86_l2)) (f2I d l 0 0 []) = some (.normal, f2I o l c 32 [(11, .bool false)]) ∧ o.length = 32 ∧ (∀ x ∈ o, x < 65536) ∧ num 65536 o = num 65536 d := by
  obtain ⟨st, hl, o, c, rfl, h1, h2, h3⟩ := block_inv (T := T) (base := 0) (id := 2) (body := a86_l2)
    (fun i st => ∃ (o : List Nat) (c : Nat), st = f2I (o ++ d.drop i) l c i [] ∧ o.length = i ∧ (∀ x ∈ o, x < 65536) ∧ c < 2 ^ 30 ∧ num 65536 (d.take i) = num 65536 o + 65536 ^ i * c)
    (Q := fun st => ∃ (o : List Nat) (c : Nat), st = f2I o l c 32 [(11, .bool false)] ∧ o.length = 32 ∧ (∀ x ∈ o, x < 65536) ∧ num 65536 d = num 65536 o + 65536 ^ 32 * c)
    32 (s := f2I d l 0 0 []) ⟨[], 0, by rw [List.drop_zero]; rfl, rfl, by simp, by omega, by simp [num]⟩
    (fun i st hi hs => by
      obtain ⟨o, c, rfl, h1, h2, h3, h4⟩ := hs
      obtain ⟨x, hx⟩ : ∃ x, d[i]? = some x := ⟨_, List.getElem?_eq_getElem (by omega)⟩
      have hx' := hM x (List.mem_of_getElem? hx)
      have hxo : (o ++ d.drop i)[i]? = some x := by
        rw [List.getElem?_append_right (by omega), h1, Nat.sub_self, List.getElem?_drop]; exact hx
      have hstep : (o ++ d.drop i).set i ((x + c) % 65536) = (o ++ [(x + c) % 65536]) ++ d.drop (i + 1) := by
        rw [List.set_append_right _ _ (by omega), h1, Nat.sub_self, List.drop_eq_getElem?_toList_append (i := i), hx]
        simp
      have hset := ns_set .u64 (o ++ d.drop i) i ((x + c) % 65536)
      rw [hstep] at hset
      have hlen : (o ++ d.drop i).length = 32 := by simp; omega
      have hxc := ns_get (k := .u64) hxo
      have w1 : IntKind.i64.wrap ((i : Int) + 1) = ((i + 1 : Nat) : Int) := wi_add (b := 1) (by omega)
      have w2 : IntKind.u64.wrap ((x : Int) + (c : Int)) = ((x + c : Nat) : Int) := w64_add (by omega)
      have w3 : ((x + c : Nat) : Int).tmod 65536 = (((x + c) % 65536 : Nat) : Int) := rfl
      have w4 : IntKind.u64.wrap (((x + c : Nat) : Int).tdiv 65536) = (((x + c) / 65536 : Nat) : Int) := w64n (n := (x + c) / 65536) (by omega)
      have e1 : ((i : Int) < 32) = True := eq_true (by omega)
      have e4 : (i ≤ 31) = True := eq_true (by omega)
      refine ⟨f2I ((o ++ [(x + c) % 65536]) ++ d.drop (i + 1)) l ((x + c) / 65536) ((i + 1 : Nat) : Int) [], ?_, o ++ [(x + c) % 65536], (x + c) / 65536, rfl, by simp [h1], ?_, by omega, ?_⟩
      · generalize (o ++ [(x + c) % 65536]) ++ d.drop (i + 1) = O' at *
        generalize o ++ d.drop i = O at *
        generalize (x + c) / 65536 = q at *
        generalize (x + c) % 65536 = m at *
        generalize x + c = v at *
        generalize i + 1 = i1 at *
        simp only [f2I, fH, a86_l2, envOf, evCode_skip, evCode_exit, evCode_seq, fs_blockS, fs_blockR, fs_blockC, fs_blockK, fs_blockB, evCode_ret, quiet, keep_nil, keep_cons, fs_cond, fs_region, fs_regionQ, quiet2_eq, lastOf_nil, lastOf_cons, List.take_succ_cons, List.take_zero, List.drop_succ_cons, List.drop_zero, Int.reduceBEq, Int.reduceBNe,  fs_nil, fs_guard, fs_move, fs_pick, fs_alloc, fs_box, fs_load, fs_store, fs_bin, fs_eqv, fs_isNil, fs_un, fs_conv, fs_convStr, fs_field, fs_index, fs_indexStr, fs_build, fs_buildSlice, fs_fieldAddr, fs_indexAddr, fs_indexSl, fs_sliceArr, fs_sliceSl, fs_sliceStr, fs_makeSlice, fs_extract, fs_mkIface, fs_mkFunc, fs_nilCheck, fs_s2ap, fs_len, fs_minmax, fs_s2b, fs_b2s, fs_append, fs_copy, fs_callW, fs_callR, fs_callv, opd_tmp, opd_const, opd_func, opds_nil, opds_cons, opdOpt_none, opdOpt_some, opdParts_nil, opdParts_cons, get_miss, vPick_t, vPick_f, vEq_agg, vEq_aggN, vEq_bool, vEq_boolN, vConv_int, vStr_s, vField_agg, vIndex_agg, vIndexStr_s, vFieldAddr_p, vIndexAddr_p, vIndexSl_s, vSliceArr_p, vSliceSl_s, vSliceSl_n, vSliceStr_s, vExtract_t, vNilCheck_p, vS2ap_s, vLen_s, vLen_str, vMin_i, vMax_i, vLoad_p, vStore_p, baseP_p, vB2s_s, vMake_i, vS2b_s, callee_f, liveAt_eq, storeAt_eq, partL_none, partL_some, natIn_none, natIn_int, bounds3_two, bin_add, bin_sub, bin_mul, bin_quo, bin_rem, bin_and, bin_or, bin_xor, bin_andNot, bin_eql, bin_neq, bin_lss, bin_leq, bin_gtr, bin_geq, bin_shl, bin_shr, bin_sadd, bin_seql, bin_sneq, un_not, un_neg, un_xor, after_some, put_some, put_none, res_nil, res_val, res_var, packed_one, packed_two, merge_nil, merge_ge, rf_tup2, rfIn_int, rfIn_bool, rfIn_u8s, rf_str, rfIn_str, ↓gate_true, gd_bool, gd_ut, gd_uf, ↓guardV_tt, ↓guardV_ff, ↓guardV_tf, ↓guardV_ft, ↓keepV_some, ↓qElse_some, ↓get_hit, ↓Option.bind_some, ↓if_true, ↓if_false, List.nil_append, List.cons_append, List.all_nil, List.all_cons, List.isEmpty_nil, reduceCtorEq, Bool.false_eq_true, Nat.reduceEqDiff, beq_self_eq_true, bne_self_eq_false, Bool.not_true, Bool.not_false, Int.natCast_nonneg, Nat.lt_irrefl, false_and, Int.reduceEq, rf_int, rf_bool, rf_tuple_ints, rf_u8s, arr_list, toList2, Bool.and_self, Nat.not_lt_zero, Nat.sub_zero, Nat.zero_le, Nat.le_add_right, cells_agg, cells_agg_size, cells_int, cells_int_size, okV_int, okV_bool, okV_str, okV_agg, okV_ptr, okV_slice, okV_func, okV_nilFunc, okV_iface, okV_nilIface, cells_bool, cells_bool_size, cells_ptr, cells_ptr_size, cells_slice, cells_slice_size, cells_str, cells_str_size, eq_self, wrapI64_small, Int.natCast_zero, Int.natCast_one, Int.cast_ofNat_Int, List.length_nil, List.length_cons, List.getElem?_cons_zero, List.getElem?_cons_succ, List.set_cons_zero, List.set_cons_succ, Nat.zero_add, Nat.add_zero, Nat.mul_one, Nat.zero_mul, Int.toNat_natCast, Int.toNat_zero, Int.lt_irrefl, Int.le_refl, Nat.le_refl, and_self, true_and, and_true, decide_true, decide_false, Int.reduceLE, Int.reduceLT, Int.reduceAdd, Int.reduceMul, Int.reduceSub, Int.reduceTDiv, Int.reduceTMod, Int.reduceNeg, Int.reduceToNat, Int.reduceGT, Int.reduceGE, Int.reducePow, Nat.reduceAdd, Nat.reduceMul, Nat.reduceSub, Nat.reduceDiv, Nat.reduceMod, Nat.reducePow, Nat.reduceLT, Nat.reduceLeDiff, Nat.min_self, ge_iff_le, gt_iff_lt, Option.isNone_none, Option.isSome_none, Option.isNone_some, Option.isSome_some, Bool.and_true, Bool.true_and, Bool.and_false, Bool.false_and, not_true_eq_false, not_false_eq_true, or_true, true_or, false_or, or_false, hget0, hgetK, hset0, hsetK, splice_single, splice_whole, take_whole, List.getElem?_nil, List.length_append, List.append_assoc, hxc, w1, w2, w3, w4, e1, e4, hset, ns_len, hlen]
      · intro y hy
        rcases List.mem_append.1 hy with hy | hy
        · exact h2 y hy
        · rw [List.mem_singleton.1 hy]; exact Nat.mod_lt _ (by decide)
      · rw [num_take hx, num_snoc, h1, h4, Nat.pow_succ]
        have h5 : x + c = 65536 * ((x + c) / 65536) + (x + c) % 65536 := (Nat.div_add_mod _ _).symm
        generalize (x + c) / 65536 = q at *
        generalize (x + c) % 65536 = m at *
        generalize (65536 : Nat) ^ i = p at *
        have h6 := congrArg (fun t => t * p) h5
        simp only [Nat.add_mul] at h6
        rw [Nat.mul_assoc p, Nat.mul_comm p c, Nat.mul_comm p m, Nat.mul_comm p (65536 * q)]
        omega)
    (fun st hs => by
      obtain ⟨o, c, rfl, h1, h2, h3, h4⟩ := hs
      rw [List.take_of_length_le (by omega)] at h4
      refine ⟨_, ?_, o, c, rfl, h1, h2, h4⟩
      rw [List.drop_of_length_le (by omega), List.append_nil]
      simp only [f2I, fH, a86_l2, envOf, evCode_skip, evCode_exit, evCode_seq, fs_blockS, fs_blockR, fs_blockC, fs_blockK, fs_blockB, evCode_ret, quiet, keep_nil, keep_cons, fs_cond, fs_region, fs_regionQ, quiet2_eq, lastOf_nil, lastOf_cons, List.take_succ_cons, List.take_zero, List.drop_succ_cons, List.drop_zero, Int.reduceBEq, Int.reduceBNe,  fs_nil, fs_guard, fs_move, fs_pick, fs_alloc, fs_box, fs_load, fs_store, fs_bin, fs_eqv, fs_isNil, fs_un, fs_conv, fs_convStr, fs_field, fs_index, fs_indexStr, fs_build, fs_buildSlice, fs_fieldAddr, fs_indexAddr, fs_indexSl, fs_sliceArr, fs_sliceSl, fs_sliceStr, fs_makeSlice, fs_extract, fs_mkIface, fs_mkFunc, fs_nilCheck, fs_s2ap, fs_len, fs_minmax, fs_s2b, fs_b2s, fs_append, fs_copy, fs_callW, fs_callR, fs_callv, opd_tmp, opd_const, opd_func, opds_nil, opds_cons, opdOpt_none, opdOpt_some, opdParts_nil, opdParts_cons, get_miss, vPick_t, vPick_f, vEq_agg, vEq_aggN, vEq_bool, vEq_boolN, vConv_int, vStr_s, vField_agg, vIndex_agg, vIndexStr_s, vFieldAddr_p, vIndexAddr_p, vIndexSl_s, vSliceArr_p, vSliceSl_s, vSliceSl_n, vSliceStr_s, vExtract_t, vNilCheck_p, vS2ap_s, vLen_s, vLen_str, vMin_i, vMax_i, vLoad_p, vStore_p, baseP_p, vB2s_s, vMake_i, vS2b_s, callee_f, liveAt_eq, storeAt_eq, partL_none, partL_some, natIn_none, natIn_int, bounds3_two, bin_add, bin_sub, bin_mul, bin_quo, bin_rem, bin_and, bin_or, bin_xor, bin_andNot, bin_eql, bin_neq, bin_lss, bin_leq, bin_gtr, bin_geq, bin_shl, bin_shr, bin_sadd, bin_seql, bin_sneq, un_not, un_neg, un_xor, after_some, put_some, put_none, res_nil, res_val, res_var, packed_one, packed_two, merge_nil, merge_ge, rf_tup2, rfIn_int, rfIn_bool, rfIn_u8s, rf_str, rfIn_str, ↓gate_true, gd_bool, gd_ut, gd_uf, ↓guardV_tt, ↓guardV_ff, ↓guardV_tf, ↓guardV_ft, ↓keepV_some, ↓qElse_some, ↓get_hit, ↓Option.bind_some, ↓if_true, ↓if_false, List.nil_append, List.cons_append, List.all_nil, List.all_cons, List.isEmpty_nil, reduceCtorEq, Bool.false_eq_true, Nat.reduceEqDiff, beq_self_eq_true, bne_self_eq_false, Bool.not_true, Bool.not_false, Int.natCast_nonneg, Nat.lt_irrefl, false_and, Int.reduceEq, rf_int, rf_bool, rf_tuple_ints, rf_u8s, arr_list, toList2, Bool.and_self, Nat.not_lt_zero, Nat.sub_zero, Nat.zero_le, Nat.le_add_right, cells_agg, cells_agg_size, cells_int, cells_int_size, okV_int, okV_bool, okV_str, okV_agg, okV_ptr, okV_slice, okV_func, okV_nilFunc, okV_iface, okV_nilIface, cells_bool, cells_bool_size, cells_ptr, cells_ptr_size, cells_slice, cells_slice_size, cells_str, cells_str_size, eq_self, wrapI64_small, Int.natCast_zero, Int.natCast_one, Int.cast_ofNat_Int, List.length_nil, List.length_cons, List.getElem?_cons_zero, List.getElem?_cons_succ, List.set_cons_zero, List.set_cons_succ, Nat.zero_add, Nat.add_zero, Nat.mul_one, Nat.zero_mul, Int.toNat_natCast, Int.toNat_zero, Int.lt_irrefl, Int.le_refl, Nat.le_refl, and_self, true_and, and_true, decide_true, decide_false, Int.reduceLE, Int.reduceLT, Int.reduceAdd, Int.reduceMul, Int.reduceSub, Int.reduceTDiv, Int.reduceTMod, Int.reduceNeg, Int.reduceToNat, Int.reduceGT, Int.reduceGE, Int.reducePow, Nat.reduceAdd, Nat.reduceMul, Nat.reduceSub, Nat.reduceDiv, Nat.reduceMod, Nat.reducePow, Nat.reduceLT, Nat.reduceLeDiff, Nat.min_self, ge_iff_le, gt_iff_lt, Option.isNone_none, Option.isSome_none, Option.isNone_some, Option.isSome_some, Bool.and_true, Bool.true_and, Bool.and_false, Bool.false_and, not_true_eq_false, not_false_eq_true, or_true, true_or, false_or, or_false])
  refine ⟨o, c, hl, h1, h2, ?_⟩
  rcases Nat.eq_zero_or_pos c with h | h
  · rw [h3, h]; omega
  · exfalso
    have := Nat.mul_le_mul_left (65536 ^ 32) h
    generalize (65536 : Nat) ^ 32 = M at *
    omega
end Go.Ev.Ytaceeoghjgggjaa
set_option linter.unusedSimpArgs false
set_option linter.unusedVariables false
namespace Go.Ev.Ytaceeoghjgggjaa
open Go Go.Ev
attribute [local congr] bind_congr2 ite_congr2 qElse_congr gate_congr guardV_congr
set_option maxRecDepth 100000
def anyNZ (l : List Nat) : Bool := !(l.all (· == 0))
theorem anyNZ_snoc (l : List Nat) (x : Nat) : anyNZ (l ++ [x]) = (anyNZ l || !(x == 0)) := by simp [anyNZ]
def f1I (d o : List Nat) (l : List Ob) (b : Bool) (i : Int) (ex : Env) : St := ⟨[(1, .pointer (some ⟨0, 0, none⟩)), (2, .pointer (some ⟨1, 0, none⟩)), (6, .pointer (some ⟨l.length + 1 + 1, 0, none⟩)), (7, .bool b), (8, .int .i64 i)] ++ ex, fH d (l ++ [⟨ns .u64 o, true, true, true, 1⟩]), []⟩
theorem f1_body {d : List Nat} {l : List Ob} {i : Nat} {b : Bool} (hd : d.length = 32) (hi : i < 16) (hb : b = anyNZ ((d.drop 16).take i)) :
    evCode T 0 a86_l1 (f1I d (pf 16 (d.take 16) i) l b i []) = some (.normal, f1I d (pf 16 (d.take 16) (i + 1)) l (anyNZ ((d.drop 16).take (i + 1))) ((i + 1 : Nat) : Int) []) := by
  obtain ⟨x, hx⟩ : ∃ x, d[i]? = some x := ⟨_, List.getElem?_eq_getElem (by omega)⟩
  obtain ⟨y, hy⟩ : ∃ y, d[i + 16]? = some y := ⟨_, List.getElem?_eq_getElem (by omega)⟩
  have hx2 : (d.take 16)[i]? = some x := by rw [List.getElem?_take, if_pos hi]; exact hx
  have hy2 : (d.drop 16)[i]? = some y := by rw [List.getElem?_drop, Nat.add_comm]; exact hy
  have hL : (d.take 16).length = 16 := by simp; omega
  have hstep := pf_step hL hi hx2
  have hlen := pf_len hL (Nat.le_of_lt hi)
  have hset := ns_set .u64 (pf 16 (d.take 16) i) i x
  rw [hstep] at hset
  have hxc := ns_get (k := .u64) hx
  have hyc := ns_get (k := .u64) hy
  have hnz : anyNZ ((d.drop 16).take (i + 1)) = (b || !(y == 0)) := by
    rw [List.take_add_one, hy2, hb]; exact anyNZ_snoc _ _
  rw [hnz]
  have w1 : IntKind.i64.wrap ((i : Int) + 1) = ((i + 1 : Nat) : Int) := wi_add (b := 1) (by omega)
  have w2 : IntKind.i64.wrap ((i : Int) + 16) = ((i + 16 : Nat) : Int) := wi_add (b := 16) (by omega)
  have e1 : ((i : Int) < 16) = True := eq_true (by omega)
  have e2 : ((i : Int) < 32) = True := eq_true (by omega)
  have e3 : (((i + 16 : Nat) : Int) < 32) = True := eq_true (by omega)
  have e4 : (i ≤ 15) = True := eq_true (by omega)
  have e5 : ((y : Int) != 0) = !(y == 0) := by
    by_cases h : y = 0
    · subst h; rfl
    · have h' : ¬ (y : Int) = 0 := by omega
      rw [beq_eq_false_iff_ne.2 h, bne_iff_ne.2 h']; rfl
  generalize pf 16 (d.take 16) i = o1 at *
  generalize pf 16 (d.take 16) (i + 1) = o2 at *
  generalize i + 16 = j at *
  generalize (!(y == 0)) = nz at *
  clear hb hnz
  cases b with
  | false => simp only [f1I, fH, a86_l1, envOf, evCode_skip, evCode_exit, evCode_seq, fs_blockS, fs_blockR, fs_blockC, fs_blockK, fs_blockB, evCode_ret, quiet, keep_nil, keep_cons, fs_cond, fs_region, fs_regionQ, quiet2_eq, lastOf_nil, lastOf_cons, List.take_succ_cons, List.take_zero, List.drop_succ_cons, List.drop_zero, Int.reduceBEq, Int.reduceBNe,  fs_nil, fs_guard, fs_move, fs_pick, fs_alloc, fs_box, fs_load, fs_store, fs_bin, fs_eqv, fs_isNil, fs_un, fs_conv, fs_convStr, fs_field, fs_index, fs_indexStr, fs_build, fs_buildSlice, fs_fieldAddr, fs_indexAddr, fs_indexSl, fs_sliceArr, fs_sliceSl, fs_sliceStr, fs_makeSlice, fs_extract, fs_mkIface, fs_mkFunc, fs_nilCheck, fs_s2ap, fs_len, fs_minmax, fs_s2b, fs_b2s, fs_append, fs_copy, fs_callW, fs_callR, fs_callv, opd_tmp, opd_const, opd_func, opds_nil, opds_cons, opdOpt_none, opdOpt_some, opdParts_nil, opdParts_cons, get_miss, vPick_t, vPick_f, vEq_agg, vEq_aggN, vEq_bool, vEq_boolN, vConv_int, vStr_s, vField_agg, vIndex_agg, vIndexStr_s, vFieldAddr_p, vIndexAddr_p, vIndexSl_s, vSliceArr_p, vSliceSl_s, vSliceSl_n, vSliceStr_s, vExtract_t, vNilCheck_p, vS2ap_s, vLen_s, vLen_str, vMin_i, vMax_i, vLoad_p, vStore_p, baseP_p, vB2s_s, vMake_i, vS2b_s, callee_f, liveAt_eq, storeAt_eq, partL_none, partL_some, natIn_none, natIn_int, bounds3_two, bin_add, bin_sub, bin_mul, bin_quo, bin_rem, bin_and, bin_or, bin_xor, bin_andNot, bin_eql, bin_neq, bin_lss, bin_leq, bin_gtr, bin_geq, bin_shl, bin_shr, bin_sadd, bin_seql, bin_sneq, un_not, un_neg, un_xor, after_some, put_some, put_none, res_nil, res_val, res_var, packed_one, packed_two, merge_nil, merge_ge, rf_tup2, rfIn_int, rfIn_bool, rfIn_u8s, rf_str, rfIn_str, ↓gate_true, gd_bool, gd_ut, gd_uf, ↓guardW_tt, ↓guardW_ff, ↓guardW_tf, ↓guardW_ft, ↓keepW_some, ↓qElseW_some, ↓get_hit, ↓Option.bind_some, ↓if_true, ↓if_false, List.nil_append, List.cons_append, List.all_nil, List.all_cons, List.isEmpty_nil, reduceCtorEq, Bool.false_eq_true, Nat.reduceEqDiff, beq_self_eq_true, bne_self_eq_false, Bool.not_true, Bool.not_false, Int.natCast_nonneg, Nat.lt_irrefl, false_and, Int.reduceEq, rf_int, rf_bool, rf_tuple_ints, rf_u8s, arr_list, toList2, Bool.and_self, Nat.not_lt_zero, Nat.sub_zero, Nat.zero_le, Nat.le_add_right, cells_agg, cells_agg_size, cells_int, cells_int_size, okV_int, okV_bool, okV_str, okV_agg, okV_ptr, okV_slice, okV_func, okV_nilFunc, okV_iface, okV_nilIface, cells_bool, cells_bool_size, cells_ptr, cells_ptr_size, cells_slice, cells_slice_size, cells_str, cells_str_size, eq_self, wrapI64_small, Int.natCast_zero, Int.natCast_one, Int.cast_ofNat_Int, List.length_nil, List.length_cons, List.getElem?_cons_zero, List.getElem?_cons_succ, List.set_cons_zero, List.set_cons_succ, Nat.zero_add, Nat.add_zero, Nat.mul_one, Nat.zero_mul, Int.toNat_natCast, Int.toNat_zero, Int.lt_irrefl, Int.le_refl, Nat.le_refl, and_self, true_and, and_true, decide_true, decide_false, Int.reduceLE, Int.reduceLT, Int.reduceAdd, Int.reduceMul, Int.reduceSub, Int.reduceTDiv, Int.reduceTMod, Int.reduceNeg, Int.reduceToNat, Int.reduceGT, Int.reduceGE, Int.reducePow, Nat.reduceAdd, Nat.reduceMul, Nat.reduceSub, Nat.reduceDiv, Nat.reduceMod, Nat.reducePow, Nat.reduceLT, Nat.reduceLeDiff, Nat.min_self, ge_iff_le, gt_iff_lt, Option.isNone_none, Option.isSome_none, Option.isNone_some, Option.isSome_some, Bool.and_true, Bool.true_and, Bool.and_false, Bool.false_and, not_true_eq_false, not_false_eq_true, or_true, true_or, false_or, or_false, hget0, hgetK, hset0, hsetK, splice_single, splice_whole, take_whole, List.getElem?_nil, List.length_append, List.append_assoc, hxc, hyc, w1, w2, e1, e2, e3, e4, e5, hset, ns_len, hlen, hd, Bool.false_or]
  | true => simp only [f1I, fH, a86_l1, envOf, evCode_skip, evCode_exit, evCode_seq, fs_blockS, fs_blockR, fs_blockC, fs_blockK, fs_blockB, evCode_ret, quiet, keep_nil, keep_cons, fs_cond, fs_region, fs_regionQ, quiet2_eq, lastOf_nil, lastOf_cons, List.take_succ_cons, List.take_zero, List.drop_succ_cons, List.drop_zero, Int.reduceBEq, Int.reduceBNe,  fs_nil, fs_guard, fs_move, fs_pick, fs_alloc, fs_box, fs_load, fs_store, fs_bin, fs_eqv, fs_isNil, fs_un, fs_conv, fs_convStr, fs_field, fs_index, fs_indexStr, fs_build, fs_buildSlice, fs_fieldAddr, fs_indexAddr, fs_indexSl, fs_sliceArr, fs_sliceSl, fs_sliceStr, fs_makeSlice, fs_extract, fs_mkIface, fs_mkFunc, fs_nilCheck, fs_s2ap, fs_len, fs_minmax, fs_s2b, fs_b2s, fs_append, fs_copy, fs_callW, fs_callR, fs_callv, opd_tmp, opd_const, opd_func, opds_nil, opds_cons, opdOpt_none, opdOpt_some, opdParts_nil, opdParts_cons, get_miss, vPick_t, vPick_f, vEq_agg, vEq_aggN, vEq_bool, vEq_boolN, vConv_int, vStr_s, vField_agg, vIndex_agg, vIndexStr_s, vFieldAddr_p, vIndexAddr_p, vIndexSl_s, vSliceArr_p, vSliceSl_s, vSliceSl_n, vSliceStr_s, vExtract_t, vNilCheck_p, vS2ap_s, vLen_s, vLen_str, vMin_i, vMax_i, vLoad_p, vStore_p, baseP_p, vB2s_s, vMake_i, vS2b_s, callee_f, liveAt_eq, storeAt_eq, partL_none, partL_some, natIn_none, natIn_int, bounds3_two, bin_add, bin_sub, bin_mul, bin_quo, bin_rem, bin_and, bin_or, bin_xor, bin_andNot, bin_eql, bin_neq, bin_lss, bin_leq, bin_gtr, bin_geq, bin_shl, bin_shr, bin_sadd, bin_seql, bin_sneq, un_not, un_neg, un_xor, after_some, put_some, put_none, res_nil, res_val, res_var, packed_one, packed_two, merge_nil, merge_ge, rf_tup2, rfIn_int, rfIn_bool, rfIn_u8s, rf_str, rfIn_str, ↓gate_true, gd_bool, gd_ut, gd_uf, ↓guardW_tt, ↓guardW_ff, ↓guardW_tf, ↓guardW_ft, ↓keepW_some, ↓qElseW_some, ↓get_hit, ↓Option.bind_some, ↓if_true, ↓if_false, List.nil_append, List.cons_append, List.all_nil, List.all_cons, List.isEmpty_nil, reduceCtorEq, Bool.false_eq_true, Nat.reduceEqDiff, beq_self_eq_true, bne_self_eq_false, Bool.not_true, Bool.not_false, Int.natCast_nonneg, Nat.lt_irrefl, false_and, Int.reduceEq, rf_int, rf_bool, rf_tuple_ints, rf_u8s, arr_list, toList2, Bool.and_self, Nat.not_lt_zero, Nat.sub_zero, Nat.zero_le, Nat.le_add_right, cells_agg, cells_agg_size, cells_int, cells_int_size, okV_int, okV_bool, okV_str, okV_agg, okV_ptr, okV_slice, okV_func, okV_nilFunc, okV_iface, okV_nilIface, cells_bool, cells_bool_size, cells_ptr, cells_ptr_size, cells_slice, cells_slice_size, cells_str, cells_str_size, eq_self, wrapI64_small, Int.natCast_zero, Int.natCast_one, Int.cast_ofNat_Int, List.length_nil, List.length_cons, List.getElem?_cons_zero, List.getElem?_cons_succ, List.set_cons_zero, List.set_cons_succ, Nat.zero_add, Nat.add_zero, Nat.mul_one, Nat.zero_mul, Int.toNat_natCast, Int.toNat_zero, Int.lt_irrefl, Int.le_refl, Nat.le_refl, and_self, true_and, and_true, decide_true, decide_false, Int.reduceLE, Int.reduceLT, Int.reduceAdd, Int.reduceMul, Int.reduceSub, Int.reduceTDiv, Int.reduceTMod, Int.reduceNeg, Int.reduceToNat, Int.reduceGT, Int.reduceGE, Int.reducePow, Nat.reduceAdd, Nat.reduceMul, Nat.reduceSub, Nat.reduceDiv, Nat.reduceMod, Nat.reducePow, Nat.reduceLT, Nat.reduceLeDiff, Nat.min_self, ge_iff_le, gt_iff_lt, Option.isNone_none, Option.isSome_none, Option.isNone_some, Option.isSome_some, Bool.and_true, Bool.true_and, Bool.and_false, Bool.false_and, not_true_eq_false, not_false_eq_true, or_true, true_or, false_or, or_false, hget0, hgetK, hset0, hsetK, splice_single, splice_whole, take_whole, List.getElem?_nil, List.length_append, List.append_assoc, hxc, hyc, w1, w2, e1, e2, e3, e4, e5, hset, ns_len, hlen, hd, Bool.true_or]
theorem f1_block {d : List Nat} {l : List Ob} (hd : d.length = 32) :
    evCode T 0 (.block 4 (.loop a86_l1)) (f1I d zero16 l false 0 []) = some (.normal, f1I d (d.take 16) l (anyNZ (d.drop 16)) 16 [(27, .bool false)]) := by
  have hL : (d.take 16).length = 16 := by simp; omega
  have hb := block_loop (T := T) (base := 0) (id := 4) (body := a86_l1) (fun i => f1I d (pf 16 (d.take 16) i) l (anyNZ ((d.drop 16).take i)) i []) (s' := f1I d (d.take 16) l (anyNZ (d.drop 16)) 16 [(27, .bool false)]) 16
    (fun i hi => f1_body hd hi rfl) (by
      rw [pf_full hL, List.take_of_length_le (l := d.drop 16) (by simp; omega)]
      simp only [f1I, a86_l1, envOf, evCode_skip, evCode_exit, evCode_seq, fs_blockS, fs_blockR, fs_blockC, fs_blockK, fs_blockB, evCode_ret, quiet, keep_nil, keep_cons, fs_cond, fs_region, fs_regionQ, quiet2_eq, lastOf_nil, lastOf_cons, List.take_succ_cons, List.take_zero, List.drop_succ_cons, List.drop_zero, Int.reduceBEq, Int.reduceBNe,  fs_nil, fs_guard, fs_move, fs_pick, fs_alloc, fs_box, fs_load, fs_store, fs_bin, fs_eqv, fs_isNil, fs_un, fs_conv, fs_convStr, fs_field, fs_index, fs_indexStr, fs_build, fs_buildSlice, fs_fieldAddr, fs_indexAddr, fs_indexSl, fs_sliceArr, fs_sliceSl, fs_sliceStr, fs_makeSlice, fs_extract, fs_mkIface, fs_mkFunc, fs_nilCheck, fs_s2ap, fs_len, fs_minmax, fs_s2b, fs_b2s, fs_append, fs_copy, fs_callW, fs_callR, fs_callv, opd_tmp, opd_const, opd_func, opds_nil, opds_cons, opdOpt_none, opdOpt_some, opdParts_nil, opdParts_cons, get_miss, vPick_t, vPick_f, vEq_agg, vEq_aggN, vEq_bool, vEq_boolN, vConv_int, vStr_s, vField_agg, vIndex_agg, vIndexStr_s, vFieldAddr_p, vIndexAddr_p, vIndexSl_s, vSliceArr_p, vSliceSl_s, vSliceSl_n, vSliceStr_s, vExtract_t, vNilCheck_p, vS2ap_s, vLen_s, vLen_str, vMin_i, vMax_i, vLoad_p, vStore_p, baseP_p, vB2s_s, vMake_i, vS2b_s, callee_f, liveAt_eq, storeAt_eq, partL_none, partL_some, natIn_none, natIn_int, bounds3_two, bin_add, bin_sub, bin_mul, bin_quo, bin_rem, bin_and, bin_or, bin_xor, bin_andNot, bin_eql, bin_neq, bin_lss, bin_leq, bin_gtr, bin_geq, bin_shl, bin_shr, bin_sadd, bin_seql, bin_sneq, un_not, un_neg, un_xor, after_some, put_some, put_none, res_nil, res_val, res_var, packed_one, packed_two, merge_nil, merge_ge, rf_tup2, rfIn_int, rfIn_bool, rfIn_u8s, rf_str, rfIn_str, ↓gate_true, gd_bool, gd_ut, gd_uf, ↓guardV_tt, ↓guardV_ff, ↓guardV_tf, ↓guardV_ft, ↓keepV_some, ↓qElse_some, ↓get_hit, ↓Option.bind_some, ↓if_true, ↓if_false, List.nil_append, List.cons_append, List.all_nil, List.all_cons, List.isEmpty_nil, reduceCtorEq, Bool.false_eq_true, Nat.reduceEqDiff, beq_self_eq_true, bne_self_eq_false, Bool.not_true, Bool.not_false, Int.natCast_nonneg, Nat.lt_irrefl, false_and, Int.reduceEq, rf_int, rf_bool, rf_tuple_ints, rf_u8s, arr_list, toList2, Bool.and_self, Nat.not_lt_zero, Nat.sub_zero, Nat.zero_le, Nat.le_add_right, cells_agg, cells_agg_size, cells_int, cells_int_size, okV_int, okV_bool, okV_str, okV_agg, okV_ptr, okV_slice, okV_func, okV_nilFunc, okV_iface, okV_nilIface, cells_bool, cells_bool_size, cells_ptr, cells_ptr_size, cells_slice, cells_slice_size, cells_str, cells_str_size, eq_self, wrapI64_small, Int.natCast_zero, Int.natCast_one, Int.cast_ofNat_Int, List.length_nil, List.length_cons, List.getElem?_cons_zero, List.getElem?_cons_succ, List.set_cons_zero, List.set_cons_succ, Nat.zero_add, Nat.add_zero, Nat.mul_one, Nat.zero_mul, Int.toNat_natCast, Int.toNat_zero, Int.lt_irrefl, Int.le_refl, Nat.le_refl, and_self, true_and, and_true, decide_true, decide_false, Int.reduceLE, Int.reduceLT, Int.reduceAdd, Int.reduceMul, Int.reduceSub, Int.reduceTDiv, Int.reduceTMod, Int.reduceNeg, Int.reduceToNat, Int.reduceGT, Int.reduceGE, Int.reducePow, Nat.reduceAdd, Nat.reduceMul, Nat.reduceSub, Nat.reduceDiv, Nat.reduceMod, Nat.reducePow, Nat.reduceLT, Nat.reduceLeDiff, Nat.min_self, ge_iff_le, gt_iff_lt, Option.isNone_none, Option.isSome_none, Option.isNone_some, Option.isSome_some, Bool.and_true, Bool.true_and, Bool.and_false, Bool.false_and, not_true_eq_false, not_false_eq_true, or_true, true_or, false_or, or_false])
  rw [pf_zero] at hb
  exact hb
def f0I (d : List Nat) (l : List Ob) (i : Int) (ex : Env) : St := ⟨[(1, .pointer (some ⟨0, 0, none⟩)), (2, .pointer (some ⟨1, 0, none⟩)), (9, .int .i64 i)] ++ ex, fH d l, []⟩
theorem f0_block {d : List Nat} {l : List Ob} (hd : d.length = 32) (hM : ∀ x ∈ d, x < 65536) :
    ∃ o, evCode T 0 (.block 6 (.loop a86_l0)) (f0I d l 0 []) = some (.normal, f0I o l 16 [(47, .bool false)]) ∧ o.length = 32 ∧ (∀ x ∈ o, x < 2 ^ 44) ∧ num 65536 o + 65536 ^ 16 * num 65536 (d.drop 16) = num 65536 d + 38 * num 65536 (d.drop 16) := by
  obtain ⟨st, hl, o, rfl, h1, h2, h3⟩ := block_inv (T := T) (base := 0) (id := 6) (body := a86_l0)
    (fun i st => ∃ o : List Nat, st = f0I o l i [] ∧ o.length = 32 ∧ (∀ x ∈ o, x < 2 ^ 44) ∧ (∀ j, i ≤ j → j < 16 → o[j]? = d[j]? ∧ o[j + 16]? = d[j + 16]?) ∧ num 65536 o + 65536 ^ 16 * num 65536 ((d.drop 16).take i) = num 65536 d + 38 * num 65536 ((d.drop 16).take i))
    (Q := fun st => ∃ o : List Nat, st = f0I o l 16 [(47, .bool false)] ∧ o.length = 32 ∧ (∀ x ∈ o, x < 2 ^ 44) ∧ num 65536 o + 65536 ^ 16 * num 65536 (d.drop 16) = num 65536 d + 38 * num 65536 (d.drop 16))
    16 (s := f0I d l 0 []) ⟨d, rfl, hd, fun x hx => Nat.lt_trans (hM x hx) (by decide), fun _ _ _ => ⟨rfl, rfl⟩, by simp [num]⟩
    (fun i st hi hs => by
      obtain ⟨o, rfl, h1, h2, h3, h4⟩ := hs
      obtain ⟨x, hx⟩ : ∃ x, d[i]? = some x := ⟨_, List.getElem?_eq_getElem (by omega)⟩
      obtain ⟨y, hy⟩ : ∃ y, d[i + 16]? = some y := ⟨_, List.getElem?_eq_getElem (by omega)⟩
      have hx' := hM x (List.mem_of_getElem? hx)
      have hy' := hM y (List.mem_of_getElem? hy)
      obtain ⟨ox, oy⟩ := h3 i (Nat.le_refl _) hi
      rw [hx] at ox
      rw [hy] at oy
      have oy' : (o.set i (x + 38 * y))[i + 16]? = some y := by rw [List.getElem?_set_ne (by omega)]; exact oy
      have n1 := num_set (B := 65536) (x + 38 * y) ox
      have n2 := num_set (B := 65536) 0 oy'
      have s1 := ns_set .u64 o i (x + 38 * y)
      have s2 : (ns .u64 (o.set i (x + 38 * y))).set (i + 16) (.int .u64 0) = ns .u64 ((o.set i (x + 38 * y)).set (i + 16) 0) := ns_set .u64 (o.set i (x + 38 * y)) (i + 16) 0
      have l2 : (o.set i (x + 38 * y)).length = 32 := by rw [List.length_set]; exact h1
      have hxc := ns_get (k := .u64) ox
      have hyc := ns_get (k := .u64) oy
      have hy2 : (d.drop 16)[i]? = some y := by rw [List.getElem?_drop, Nat.add_comm]; exact hy
      have w1 : IntKind.i64.wrap ((i : Int) + 1) = ((i + 1 : Nat) : Int) := wi_add (b := 1) (by omega)
      have w2 : IntKind.i64.wrap ((i : Int) + 16) = ((i + 16 : Nat) : Int) := wi_add (b := 16) (by omega)
      have w3 : IntKind.u64.wrap (38 * (y : Int)) = ((38 * y : Nat) : Int) := w64_mul (a := 38) (by omega)
      have w4 : IntKind.u64.wrap ((x : Int) + ((38 * y : Nat) : Int)) = ((x + 38 * y : Nat) : Int) := w64_add (by omega)
      have e1 : ((i : Int) < 16) = True := eq_true (by omega)
      have e2 : ((i : Int) < 32) = True := eq_true (by omega)
      have e3 : (((i + 16 : Nat) : Int) < 32) = True := eq_true (by omega)
      have e4 : (i ≤ 31) = True := eq_true (by omega)
      have e5 : (i + 16 ≤ 31) = True := eq_true (by omega)
      refine ⟨f0I ((o.set i (x + 38 * y)).set (i + 16) 0) l ((i + 1 : Nat) : Int) [], ?_, _, rfl, by rw [List.length_set]; exact l2, ?_, ?_, ?_⟩
      · generalize (o.set i (x + 38 * y)).set (i + 16) 0 = O2 at *
        generalize o.set i (x + 38 * y) = O1 at *
        generalize hj : i + 16 = j at *
        generalize x + 38 * y = v at *
        generalize 38 * y = u at *
        generalize i + 1 = i1 at *
        simp only [f0I, fH, a86_l0, envOf, evCode_skip, evCode_exit, evCode_seq, fs_blockS, fs_blockR, fs_blockC, fs_blockK, fs_blockB, evCode_ret, quiet, keep_nil, keep_cons, fs_cond, fs_region, fs_regionQ, quiet2_eq, lastOf_nil, lastOf_cons, List.take_succ_cons, List.take_zero, List.drop_succ_cons, List.drop_zero, Int.reduceBEq, Int.reduceBNe,  fs_nil, fs_guard, fs_move, fs_pick, fs_alloc, fs_box, fs_load, fs_store, fs_bin, fs_eqv, fs_isNil, fs_un, fs_conv, fs_convStr, fs_field, fs_index, fs_indexStr, fs_build, fs_buildSlice, fs_fieldAddr, fs_indexAddr, fs_indexSl, fs_sliceArr, fs_sliceSl, fs_sliceStr, fs_makeSlice, fs_extract, fs_mkIface, fs_mkFunc, fs_nilCheck, fs_s2ap, fs_len, fs_minmax, fs_s2b, fs_b2s, fs_append, fs_copy, fs_callW, fs_callR, fs_callv, opd_tmp, opd_const, opd_func, opds_nil, opds_cons, opdOpt_none, opdOpt_some, opdParts_nil, opdParts_cons, get_miss, vPick_t, vPick_f, vEq_agg, vEq_aggN, vEq_bool, vEq_boolN, vConv_int, vStr_s, vField_agg, vIndex_agg, vIndexStr_s, vFieldAddr_p, vIndexAddr_p, vIndexSl_s, vSliceArr_p, vSliceSl_s, vSliceSl_n, vSliceStr_s, vExtract_t, vNilCheck_p, vS2ap_s, vLen_s, vLen_str, vMin_i, vMax_i, vLoad_p, vStore_p, baseP_p, vB2s_s, vMake_i, vS2b_s, callee_f, liveAt_eq, storeAt_eq, partL_none, partL_some, natIn_none, natIn_int, bounds3_two, bin_add, bin_sub, bin_mul, bin_quo, bin_rem, bin_and, bin_or, bin_xor, bin_andNot, bin_eql, bin_neq, bin_lss, bin_leq, bin_gtr, bin_geq, bin_shl, bin_shr, bin_sadd, bin_seql, bin_sneq, un_not, un_neg, un_xor, after_some, put_some, put_none, res_nil, res_val, res_var, packed_one, packed_two, merge_nil, merge_ge, rf_tup2, rfIn_int, rfIn_bool, rfIn_u8s, rf_str, rfIn_str, ↓gate_true, gd_bool, gd_ut, gd_uf, ↓guardV_tt, ↓guardV_ff, ↓guardV_tf, ↓guardV_ft, ↓keepV_some, ↓qElse_some, ↓get_hit, ↓Option.bind_some, ↓if_true, ↓if_false, List.nil_append, List.cons_append, List.all_nil, List.all_cons, List.isEmpty_nil, reduceCtorEq, Bool.false_eq_true, Nat.reduceEqDiff, beq_self_eq_true, bne_self_eq_false, Bool.not_true, Bool.not_false, Int.natCast_nonneg, Nat.lt_irrefl, false_and, Int.reduceEq, rf_int, rf_bool, rf_tuple_ints, rf_u8s, arr_list, toList2, Bool.and_self, Nat.not_lt_zero, Nat.sub_zero, Nat.zero_le, Nat.le_add_right, cells_agg, cells_agg_size, cells_int, cells_int_size, okV_int, okV_bool, okV_str, okV_agg, okV_ptr, okV_slice, okV_func, okV_nilFunc, okV_iface, okV_nilIface, cells_bool, cells_bool_size, cells_ptr, cells_ptr_size, cells_slice, cells_slice_size, cells_str, cells_str_size, eq_self, wrapI64_small, Int.natCast_zero, Int.natCast_one, Int.cast_ofNat_Int, List.length_nil, List.length_cons, List.getElem?_cons_zero, List.getElem?_cons_succ, List.set_cons_zero, List.set_cons_succ, Nat.zero_add, Nat.add_zero, Nat.mul_one, Nat.zero_mul, Int.toNat_natCast, Int.toNat_zero, Int.lt_irrefl, Int.le_refl, Nat.le_refl, and_self, true_and, and_true, decide_true, decide_false, Int.reduceLE, Int.reduceLT, Int.reduceAdd, Int.reduceMul, Int.reduceSub, Int.reduceTDiv, Int.reduceTMod, Int.reduceNeg, Int.reduceToNat, Int.reduceGT, Int.reduceGE, Int.reducePow, Nat.reduceAdd, Nat.reduceMul, Nat.reduceSub, Nat.reduceDiv, Nat.reduceMod, Nat.reducePow, Nat.reduceLT, Nat.reduceLeDiff, Nat.min_self, ge_iff_le, gt_iff_lt, Option.isNone_none, Option.isSome_none, Option.isNone_some, Option.isSome_some, Bool.and_true, Bool.true_and, Bool.and_false, Bool.false_and, not_true_eq_false, not_false_eq_true, or_true, true_or, false_or, or_false, hget0, hgetK, hset0, hsetK, splice_single, splice_whole, take_whole, List.getElem?_nil, List.length_append, List.append_assoc, hxc, hyc, w1, w2, w3, w4, e1, e2, e3, e4, e5, s1, s2, ns_len, h1, l2]
      · exact set_lt (set_lt h2 (by omega)) (by decide)
      · intro j hj hj'
        obtain ⟨g1, g2⟩ := h3 j (by omega) hj'
        rw [List.getElem?_set_ne (by omega), List.getElem?_set_ne (by omega), List.getElem?_set_ne (by omega), List.getElem?_set_ne (by omega)]
        exact ⟨g1, g2⟩
      · rw [num_take hy2]
        rw [Nat.pow_add] at n2
        generalize num 65536 ((o.set i (x + 38 * y)).set (i + 16) 0) = N2 at *
        generalize num 65536 (o.set i (x + 38 * y)) = N1 at *
        generalize num 65536 (List.take i (List.drop 16 d)) = S at *
        generalize (65536 : Nat) ^ i = p at *
        have e16 : (65536 : Nat) ^ 16 = 115792089237316195423570985008687907853269984665640564039457584007913129639936 := by decide
        rw [e16] at *
        rw [Nat.add_mul, Nat.mul_assoc] at n1
        rw [← Nat.mul_assoc] at n2
        rw [Nat.mul_add, Nat.mul_add]
        generalize y * p = yp at *
        omega)
    (fun st hs => by
      obtain ⟨o, rfl, h1, h2, h3, h4⟩ := hs
      rw [List.take_of_length_le (by simp; omega)] at h4
      refine ⟨_, ?_, o, rfl, h1, h2, h4⟩
      simp only [f0I, fH, a86_l0, envOf, evCode_skip, evCode_exit, evCode_seq, fs_blockS, fs_blockR, fs_blockC, fs_blockK, fs_blockB, evCode_ret, quiet, keep_nil, keep_cons, fs_cond, fs_region, fs_regionQ, quiet2_eq, lastOf_nil, lastOf_cons, List.take_succ_cons, List.take_zero, List.drop_succ_cons, List.drop_zero, Int.reduceBEq, Int.reduceBNe,  fs_nil, fs_guard, fs_move, fs_pick, fs_alloc, fs_box, fs_load, fs_store, fs_bin, fs_eqv, fs_isNil, fs_un, fs_conv, fs_convStr, fs_field, fs_index, fs_indexStr, fs_build, fs_buildSlice, fs_fieldAddr, fs_indexAddr, fs_indexSl, fs_sliceArr, fs_sliceSl, fs_sliceStr, fs_makeSlice, fs_extract, fs_mkIface, fs_mkFunc, fs_nilCheck, fs_s2ap, fs_len, fs_minmax, fs_s2b, fs_b2s, fs_append, fs_copy, fs_callW, fs_callR, fs_callv, opd_tmp, opd_const, opd_func, opds_nil, opds_cons, opdOpt_none, opdOpt_some, opdParts_nil, opdParts_cons, get_miss, vPick_t, vPick_f, vEq_agg, vEq_aggN, vEq_bool, vEq_boolN, vConv_int, vStr_s, vField_agg, vIndex_agg, vIndexStr_s, vFieldAddr_p, vIndexAddr_p, vIndexSl_s, vSliceArr_p, vSliceSl_s, vSliceSl_n, vSliceStr_s, vExtract_t, vNilCheck_p, vS2ap_s, vLen_s, vLen_str, vMin_i, vMax_i, vLoad_p, vStore_p, baseP_p, vB2s_s, vMake_i, vS2b_s, callee_f, liveAt_eq, storeAt_eq, partL_none, partL_some, natIn_none, natIn_int, bounds3_two, bin_add, bin_sub, bin_mul, bin_quo, bin_rem, bin_and, bin_or, bin_xor, bin_andNot, bin_eql, bin_neq, bin_lss, bin_leq, bin_gtr, bin_geq, bin_shl, bin_shr, bin_sadd, bin_seql, bin_sneq, un_not, un_neg, un_xor, after_some, put_some, put_none, res_nil, res_val, res_var, packed_one, packed_two, merge_nil, merge_ge, rf_tup2, rfIn_int, rfIn_bool, rfIn_u8s, rf_str, rfIn_str, ↓gate_true, gd_bool, gd_ut, gd_uf, ↓guardV_tt, ↓guardV_ff, ↓guardV_tf, ↓guardV_ft, ↓keepV_some, ↓qElse_some, ↓get_hit, ↓Option.bind_some, ↓if_true, ↓if_false, List.nil_append, List.cons_append, List.all_nil, List.all_cons, List.isEmpty_nil, reduceCtorEq, Bool.false_eq_true, Nat.reduceEqDiff, beq_self_eq_true, bne_self_eq_false, Bool.not_true, Bool.not_false, Int.natCast_nonneg, Nat.lt_irrefl, false_and, Int.reduceEq, rf_int, rf_bool, rf_tuple_ints, rf_u8s, arr_list, toList2, Bool.and_self, Nat.not_lt_zero, Nat.sub_zero, Nat.zero_le, Nat.le_add_right, cells_agg, cells_agg_size, cells_int, cells_int_size, okV_int, okV_bool, okV_str, okV_agg, okV_ptr, okV_slice, okV_func, okV_nilFunc, okV_iface, okV_nilIface, cells_bool, cells_bool_size, cells_ptr, cells_ptr_size, cells_slice, cells_slice_size, cells_str, cells_str_size, eq_self, wrapI64_small, Int.natCast_zero, Int.natCast_one, Int.cast_ofNat_Int, List.length_nil, List.length_cons, List.getElem?_cons_zero, List.getElem?_cons_succ, List.set_cons_zero, List.set_cons_succ, Nat.zero_add, Nat.add_zero, Nat.mul_one, Nat.zero_mul, Int.toNat_natCast, Int.toNat_zero, Int.lt_irrefl, Int.le_refl, Nat.le_refl, and_self, true_and, and_true, decide_true, decide_false, Int.reduceLE, Int.reduceLT, Int.reduceAdd, Int.reduceMul, Int.reduceSub, Int.reduceTDiv, Int.reduceTMod, Int.reduceNeg, Int.reduceToNat, Int.reduceGT, Int.reduceGE, Int.reducePow, Nat.reduceAdd, Nat.reduceMul, Nat.reduceSub, Nat.reduceDiv, Nat.reduceMod, Nat.reducePow, Nat.reduceLT, Nat.reduceLeDiff, Nat.min_self, ge_iff_le, gt_iff_lt, Option.isNone_none, Option.isSome_none, Option.isNone_some, Option.isSome_some, Bool.and_true, Bool.true_and, Bool.and_false, Bool.false_and, not_true_eq_false, not_false_eq_true, or_true, true_or, false_or, or_false])
  exact ⟨o, hl, h1, h2, h3⟩
end Go.Ev.Ytaceeoghjgggjaa
set_option linter.unusedSimpArgs false
set_option linter.unusedVariables false
namespace Go.Ev.Ytaceeoghjgggjaa
open Go Go.Ev
attribute [local congr] bind_congr2 ite_congr2 qElse_congr gate_congr guardV_congr
set_option maxRecDepth 100000
def f3I (d : List Nat) (l : List Ob) (ex : Env) : St := ⟨[(1, .pointer (some ⟨0, 0, none⟩)), (2, .pointer (some ⟨1, 0, none⟩))] ++ ex, fH d l, []⟩
theorem all_zero_num : ∀ {l : List Nat}, anyNZ l = false → num 65536 l = 0
  | [], _ => rfl
  | x :: l, h => by
    have h' : ((x :: l).all (· == 0)) = true := by simpa [anyNZ] using h
    rw [List.all_cons, Bool.and_eq_true] at h'
    have hx : x = 0 := by simpa using h'.1
    have ih := all_zero_num (l := l) (by unfold anyNZ; rw [h'.2]; rfl)
    rw [num, ih, hx]
theorem nz_num : ∀ {l : List Nat}, anyNZ l = true → 0 < num 65536 l
  | [], h => by cases h
  | x :: l, h => by
    rw [num]
    by_cases hx : x = 0
    · have := nz_num (l := l) (by
        subst hx
        simpa [anyNZ] using h)
      omega
    · omega
theorem fold_mod {V W H : Nat} (h : W + 65536 ^ 16 * H = V + 38 * H) : Go.Fp.fp W = Go.Fp.fp V := by
  have h1 := congrArg Go.Fp.fp h
  rw [Go.Fp.fp_add, Go.Fp.fp_add, Go.Fp.fp_mul, Go.Fp.fp_mul] at h1
  have h2 : Go.Fp.fp (65536 ^ 16) = Go.Fp.fp 38 := by decide +kernel
  rw [h2] at h1
  generalize Go.Fp.fp W = a at *
  generalize Go.Fp.fp V = b at *
  generalize Go.Fp.fp 38 * Go.Fp.fp H = c at *
  clear h h2
  grobner
theorem rfold_loop : ∀ (v : Nat) (d : List Nat) (l : List Ob) (ex : Env), num 65536 d = v → d.length = 32 → (∀ x ∈ d, x < 2 ^ 44) → v < 65536 ^ 32 →
    ∃ r d' l', evCode T 0 (.loop a86_l3) (f3I d l ex) = some (.ret, ⟨[(2, .pointer (some ⟨1, 0, none⟩))], ⟨ns .u64 d', true, true, true, 1⟩ :: ⟨ns .u64 r, true, true, true, 1⟩ :: l', []⟩) ∧ Nm r ∧ nf r = Go.Fp.fp v := by
  intro v
  induction v using Nat.strongRecOn with
  | ind v ih =>
    intro d l ex hv hd hM hN
    obtain ⟨o, c, h2, lo, xo, no⟩ := f2_block (l := l) hd hM (by rw [hv]; exact hN)
    have h1 := f1_block (d := o) (l := l) lo
    simp only [f2I, f1I, fH, List.cons_append, List.nil_append, Int.natCast_zero] at h2 h1
    have hz := z16_eq
    have lz := z16_len
    have hf := z16_fill
    by_cases hnz : anyNZ (o.drop 16) = true
    · rw [hnz] at h1
      obtain ⟨o2, h0, lo2, xo2, no2⟩ := f0_block (l := l ++ [⟨ns .u64 (o.take 16), true, true, true, 1⟩]) lo xo
      simp only [f0I, fH, List.cons_append, List.nil_append, Int.natCast_zero] at h0
      have hpos := nz_num hnz
      rw [no, hv] at no2
      have hlt : num 65536 o2 < v := by
        have e16 : (65536 : Nat) ^ 16 = 115792089237316195423570985008687907853269984665640564039457584007913129639936 := by decide
        rw [e16] at no2
        omega
      obtain ⟨r, d', l', hr, hr1, hr2⟩   := ih _ hlt o2 (l ++ [⟨ns .u64 (o.take 16), true, true, true, 1⟩]) [(9, .int .i64 16), (47, .bool false)] rfl lo2 xo2 (Nat.lt_trans hlt hN)
      refine ⟨r, d', l', ?_, hr1, by rw [hr2]; exact fold_mod no2⟩
      rw [← hr, evCode_loop]
      simp only [f3I, fH, List.cons_append, List.nil_append]
      generalize zero16 = Z at *
      simp only [f3I, fH, a86_l3, envOf, evCode_skip, evCode_exit, evCode_seq, fs_blockS, fs_blockR, fs_blockC, fs_blockK, fs_blockB, evCode_ret, quiet, keep_nil, keep_cons, fs_cond, fs_region, fs_regionQ, quiet2_eq, lastOf_nil, lastOf_cons, List.take_succ_cons, List.take_zero, List.drop_succ_cons, List.drop_zero, Int.reduceBEq, Int.reduceBNe,  fs_nil, fs_guard, fs_move, fs_pick, fs_alloc, fs_box, fs_load, fs_store, fs_bin, fs_eqv, fs_isNil, fs_un, fs_conv, fs_convStr, fs_field, fs_index, fs_indexStr, fs_build, fs_buildSlice, fs_fieldAddr, fs_indexAddr, fs_indexSl, fs_sliceArr, fs_sliceSl, fs_sliceStr, fs_makeSlice, fs_extract, fs_mkIface, fs_mkFunc, fs_nilCheck, fs_s2ap, fs_len, fs_minmax, fs_s2b, fs_b2s, fs_append, fs_copy, fs_callW, fs_callR, fs_callv, opd_tmp, opd_const, opd_func, opds_nil, opds_cons, opdOpt_none, opdOpt_some, opdParts_nil, opdParts_cons, get_miss, vPick_t, vPick_f, vEq_agg, vEq_aggN, vEq_bool, vEq_boolN, vConv_int, vStr_s, vField_agg, vIndex_agg, vIndexStr_s, vFieldAddr_p, vIndexAddr_p, vIndexSl_s, vSliceArr_p, vSliceSl_s, vSliceSl_n, vSliceStr_s, vExtract_t, vNilCheck_p, vS2ap_s, vLen_s, vLen_str, vMin_i, vMax_i, vLoad_p, vStore_p, baseP_p, vB2s_s, vMake_i, vS2b_s, callee_f, liveAt_eq, storeAt_eq, partL_none, partL_some, natIn_none, natIn_int, bounds3_two, bin_add, bin_sub, bin_mul, bin_quo, bin_rem, bin_and, bin_or, bin_xor, bin_andNot, bin_eql, bin_neq, bin_lss, bin_leq, bin_gtr, bin_geq, bin_shl, bin_shr, bin_sadd, bin_seql, bin_sneq, un_not, un_neg, un_xor, after_some, put_some, put_none, res_nil, res_val, res_var, packed_one, packed_two, merge_nil, merge_ge, rf_tup2, rfIn_int, rfIn_bool, rfIn_u8s, rf_str, rfIn_str, ↓gate_true, gd_bool, gd_ut, gd_uf, ↓guardW_tt, ↓guardW_ff, ↓guardW_tf, ↓guardW_ft, ↓keepW_some, ↓qElseW_some, ↓get_hit, ↓Option.bind_some, ↓if_true, ↓if_false, List.nil_append, List.cons_append, List.all_nil, List.all_cons, List.isEmpty_nil, reduceCtorEq, Bool.false_eq_true, Nat.reduceEqDiff, beq_self_eq_true, bne_self_eq_false, Bool.not_true, Bool.not_false, Int.natCast_nonneg, Nat.lt_irrefl, false_and, Int.reduceEq, rf_int, rf_bool, rf_tuple_ints, rf_u8s, arr_list, toList2, Bool.and_self, Nat.not_lt_zero, Nat.sub_zero, Nat.zero_le, Nat.le_add_right, cells_agg, cells_agg_size, cells_int, cells_int_size, okV_int, okV_bool, okV_str, okV_agg, okV_ptr, okV_slice, okV_func, okV_nilFunc, okV_iface, okV_nilIface, cells_bool, cells_bool_size, cells_ptr, cells_ptr_size, cells_slice, cells_slice_size, cells_str, cells_str_size, eq_self, wrapI64_small, Int.natCast_zero, Int.natCast_one, Int.cast_ofNat_Int, List.length_nil, List.length_cons, List.getElem?_cons_zero, List.getElem?_cons_succ, List.set_cons_zero, List.set_cons_succ, Nat.zero_add, Nat.add_zero, Nat.mul_one, Nat.zero_mul, Int.toNat_natCast, Int.toNat_zero, Int.lt_irrefl, Int.le_refl, Nat.le_refl, and_self, true_and, and_true, decide_true, decide_false, Int.reduceLE, Int.reduceLT, Int.reduceAdd, Int.reduceMul, Int.reduceSub, Int.reduceTDiv, Int.reduceTMod, Int.reduceNeg, Int.reduceToNat, Int.reduceGT, Int.reduceGE, Int.reducePow, Nat.reduceAdd, Nat.reduceMul, Nat.reduceSub, Nat.reduceDiv, Nat.reduceMod, Nat.reducePow, Nat.reduceLT, Nat.reduceLeDiff, Nat.min_self, ge_iff_le, gt_iff_lt, Option.isNone_none, Option.isSome_none, Option.isNone_some, Option.isSome_some, Bool.and_true, Bool.true_and, Bool.and_false, Bool.false_and, not_true_eq_false, not_false_eq_true, or_true, true_or, false_or, or_false, hget0, hgetK, hset0, hsetK, splice_single, splice_whole, take_whole, List.getElem?_nil, List.length_append, List.append_assoc, hz, hf, h2, h1, h0, List.length_replicate, ns_len, lz, take_all, eV_cells, eV_size, eV_ok, eV_fold, rf_eV]
    · have hnz' : anyNZ (o.drop 16) = false := by simpa using hnz
      rw [hnz'] at h1
      have hn0 := all_zero_num hnz'
      have hnum : num 65536 (o.take 16) = v := by
        have := num_append 65536 (o.take 16) (o.drop 16)
        rw [List.take_append_drop, hn0, no, hv] at this
        omega
      have lt : (o.take 16).length = 16 := by simp; omega
      refine ⟨o.take 16, o, l ++ [⟨ns .u64 (o.take 16), true, true, true, 1⟩], ?_, ⟨lt, fun x hx => xo x (List.mem_of_mem_take hx)⟩, by unfold nf; rw [hnum]⟩
      rw [evCode_loop]
      simp only [f3I, fH, List.cons_append, List.nil_append]
      generalize List.take 16 o = R at *
      generalize zero16 = Z at *
      simp only [f3I, fH, a86_l3, envOf, evCode_skip, evCode_exit, evCode_seq, fs_blockS, fs_blockR, fs_blockC, fs_blockK, fs_blockB, evCode_ret, quiet, keep_nil, keep_cons, fs_cond, fs_region, fs_regionQ, quiet2_eq, lastOf_nil, lastOf_cons, List.take_succ_cons, List.take_zero, List.drop_succ_cons, List.drop_zero, Int.reduceBEq, Int.reduceBNe,  fs_nil, fs_guard, fs_move, fs_pick, fs_alloc, fs_box, fs_load, fs_store, fs_bin, fs_eqv, fs_isNil, fs_un, fs_conv, fs_convStr, fs_field, fs_index, fs_indexStr, fs_build, fs_buildSlice, fs_fieldAddr, fs_indexAddr, fs_indexSl, fs_sliceArr, fs_sliceSl, fs_sliceStr, fs_makeSlice, fs_extract, fs_mkIface, fs_mkFunc, fs_nilCheck, fs_s2ap, fs_len, fs_minmax, fs_s2b, fs_b2s, fs_append, fs_copy, fs_callW, fs_callR, fs_callv, opd_tmp, opd_const, opd_func, opds_nil, opds_cons, opdOpt_none, opdOpt_some, opdParts_nil, opdParts_cons, get_miss, vPick_t, vPick_f, vEq_agg, vEq_aggN, vEq_bool, vEq_boolN, vConv_int, vStr_s, vField_agg, vIndex_agg, vIndexStr_s, vFieldAddr_p, vIndexAddr_p, vIndexSl_s, vSliceArr_p, vSliceSl_s, vSliceSl_n, vSliceStr_s, vExtract_t, vNilCheck_p, vS2ap_s, vLen_s, vLen_str, vMin_i, vMax_i, vLoad_p, vStore_p, baseP_p, vB2s_s, vMake_i, vS2b_s, callee_f, liveAt_eq, storeAt_eq, partL_none, partL_some, natIn_none, natIn_int, bounds3_two, bin_add, bin_sub, bin_mul, bin_quo, bin_rem, bin_and, bin_or, bin_xor, bin_andNot, bin_eql, bin_neq, bin_lss, bin_leq, bin_gtr, bin_geq, bin_shl, bin_shr, bin_sadd, bin_seql, bin_sneq, un_not, un_neg, un_xor, after_some, put_some, put_none, res_nil, res_val, res_var, packed_one, packed_two, merge_nil, merge_ge, rf_tup2, rfIn_int, rfIn_bool, rfIn_u8s, rf_str, rfIn_str, ↓gate_true, gd_bool, gd_ut, gd_uf, ↓guardW_tt, ↓guardW_ff, ↓guardW_tf, ↓guardW_ft, ↓keepW_some, ↓qElseW_some, ↓get_hit, ↓Option.bind_some, ↓if_true, ↓if_false, List.nil_append, List.cons_append, List.all_nil, List.all_cons, List.isEmpty_nil, reduceCtorEq, Bool.false_eq_true, Nat.reduceEqDiff, beq_self_eq_true, bne_self_eq_false, Bool.not_true, Bool.not_false, Int.natCast_nonneg, Nat.lt_irrefl, false_and, Int.reduceEq, rf_int, rf_bool, rf_tuple_ints, rf_u8s, arr_list, toList2, Bool.and_self, Nat.not_lt_zero, Nat.sub_zero, Nat.zero_le, Nat.le_add_right, cells_agg, cells_agg_size, cells_int, cells_int_size, okV_int, okV_bool, okV_str, okV_agg, okV_ptr, okV_slice, okV_func, okV_nilFunc, okV_iface, okV_nilIface, cells_bool, cells_bool_size, cells_ptr, cells_ptr_size, cells_slice, cells_slice_size, cells_str, cells_str_size, eq_self, wrapI64_small, Int.natCast_zero, Int.natCast_one, Int.cast_ofNat_Int, List.length_nil, List.length_cons, List.getElem?_cons_zero, List.getElem?_cons_succ, List.set_cons_zero, List.set_cons_succ, Nat.zero_add, Nat.add_zero, Nat.mul_one, Nat.zero_mul, Int.toNat_natCast, Int.toNat_zero, Int.lt_irrefl, Int.le_refl, Nat.le_refl, and_self, true_and, and_true, decide_true, decide_false, Int.reduceLE, Int.reduceLT, Int.reduceAdd, Int.reduceMul, Int.reduceSub, Int.reduceTDiv, Int.reduceTMod, Int.reduceNeg, Int.reduceToNat, Int.reduceGT, Int.reduceGE, Int.reducePow, Nat.reduceAdd, Nat.reduceMul, Nat.reduceSub, Nat.reduceDiv, Nat.reduceMod, Nat.reducePow, Nat.reduceLT, Nat.reduceLeDiff, Nat.min_self, ge_iff_le, gt_iff_lt, Option.isNone_none, Option.isSome_none, Option.isNone_some, Option.isSome_some, Bool.and_true, Bool.true_and, Bool.and_false, Bool.false_and, not_true_eq_false, not_false_eq_true, or_true, true_or, false_or, or_false, hget0, hgetK, hset0, hsetK, splice_single, splice_whole, take_whole, List.getElem?_nil, List.length_append, List.append_assoc, hz, hf, h2, h1, List.length_replicate, ns_len, lz, lt, take_all, eV_cells, eV_size, eV_ok, eV_fold, rf_eV]
theorem rfold_v {d : List Nat} (hd : d.length = 32) (hM : ∀ x ∈ d, x < 2 ^ 44) (hN : num 65536 d < 65536 ^ 32) : ∃ r, evVal T 86 [eV d] = some (eV r) ∧ Nm r ∧ nf r = Go.Fp.fp (num 65536 d) := by
  obtain ⟨r, d', l', hr, h1, h2⟩ := rfold_loop _ d [] [] rfl hd hM hN
  refine ⟨r, ?_, h1, h2⟩
  simp only [f3I, fH, List.cons_append, List.nil_append] at hr
  have hz := z16_eq
  have lz := z16_len
  have l1 := h1.len
  generalize zero16 = Z at *
  apply evVal_ex
  apply Exists.intro
  rw [evFun_fn (fn := a86) rfl]
  simp only [a86, ↓steps_chunk, envOf, evCode_skip, evCode_exit, evCode_seq, fs_blockS, fs_blockR, fs_blockC, fs_blockK, fs_blockB, evCode_ret, quiet, keep_nil, keep_cons, fs_cond, fs_region, fs_regionQ, quiet2_eq, lastOf_nil, lastOf_cons, List.take_succ_cons, List.take_zero, List.drop_succ_cons, List.drop_zero, Int.reduceBEq, Int.reduceBNe,  fs_nil, fs_guard, fs_move, fs_pick, fs_alloc, fs_box, fs_load, fs_store, fs_bin, fs_eqv, fs_isNil, fs_un, fs_conv, fs_convStr, fs_field, fs_index, fs_indexStr, fs_build, fs_buildSlice, fs_fieldAddr, fs_indexAddr, fs_indexSl, fs_sliceArr, fs_sliceSl, fs_sliceStr, fs_makeSlice, fs_extract, fs_mkIface, fs_mkFunc, fs_nilCheck, fs_s2ap, fs_len, fs_minmax, fs_s2b, fs_b2s, fs_append, fs_copy, fs_callW, fs_callR, fs_callv, opd_tmp, opd_const, opd_func, opds_nil, opds_cons, opdOpt_none, opdOpt_some, opdParts_nil, opdParts_cons, get_miss, vPick_t, vPick_f, vEq_agg, vEq_aggN, vEq_bool, vEq_boolN, vConv_int, vStr_s, vField_agg, vIndex_agg, vIndexStr_s, vFieldAddr_p, vIndexAddr_p, vIndexSl_s, vSliceArr_p, vSliceSl_s, vSliceSl_n, vSliceStr_s, vExtract_t, vNilCheck_p, vS2ap_s, vLen_s, vLen_str, vMin_i, vMax_i, vLoad_p, vStore_p, baseP_p, vB2s_s, vMake_i, vS2b_s, callee_f, liveAt_eq, storeAt_eq, partL_none, partL_some, natIn_none, natIn_int, bounds3_two, bin_add, bin_sub, bin_mul, bin_quo, bin_rem, bin_and, bin_or, bin_xor, bin_andNot, bin_eql, bin_neq, bin_lss, bin_leq, bin_gtr, bin_geq, bin_shl, bin_shr, bin_sadd, bin_seql, bin_sneq, un_not, un_neg, un_xor, after_some, put_some, put_none, res_nil, res_val, res_var, packed_one, packed_two, merge_nil, merge_ge, rf_tup2, rfIn_int, rfIn_bool, rfIn_u8s, rf_str, rfIn_str, ↓gate_true, gd_bool, gd_ut, gd_uf, ↓guardW_tt, ↓guardW_ff, ↓guardW_tf, ↓guardW_ft, ↓keepW_some, ↓qElseW_some, ↓get_hit, ↓Option.bind_some, ↓if_true, ↓if_false, List.nil_append, List.cons_append, List.all_nil, List.all_cons, List.isEmpty_nil, reduceCtorEq, Bool.false_eq_true, Nat.reduceEqDiff, beq_self_eq_true, bne_self_eq_false, Bool.not_true, Bool.not_false, Int.natCast_nonneg, Nat.lt_irrefl, false_and, Int.reduceEq, rf_int, rf_bool, rf_tuple_ints, rf_u8s, arr_list, toList2, Bool.and_self, Nat.not_lt_zero, Nat.sub_zero, Nat.zero_le, Nat.le_add_right, cells_agg, cells_agg_size, cells_int, cells_int_size, okV_int, okV_bool, okV_str, okV_agg, okV_ptr, okV_slice, okV_func, okV_nilFunc, okV_iface, okV_nilIface, cells_bool, cells_bool_size, cells_ptr, cells_ptr_size, cells_slice, cells_slice_size, cells_str, cells_str_size, eq_self, wrapI64_small, Int.natCast_zero, Int.natCast_one, Int.cast_ofNat_Int, List.length_nil, List.length_cons, List.getElem?_cons_zero, List.getElem?_cons_succ, List.set_cons_zero, List.set_cons_succ, Nat.zero_add, Nat.add_zero, Nat.mul_one, Nat.zero_mul, Int.toNat_natCast, Int.toNat_zero, Int.lt_irrefl, Int.le_refl, Nat.le_refl, and_self, true_and, and_true, decide_true, decide_false, Int.reduceLE, Int.reduceLT, Int.reduceAdd, Int.reduceMul, Int.reduceSub, Int.reduceTDiv, Int.reduceTMod, Int.reduceNeg, Int.reduceToNat, Int.reduceGT, Int.reduceGE, Int.reducePow, Nat.reduceAdd, Nat.reduceMul, Nat.reduceSub, Nat.reduceDiv, Nat.reduceMod, Nat.reducePow, Nat.reduceLT, Nat.reduceLeDiff, Nat.min_self, ge_iff_le, gt_iff_lt, Option.isNone_none, Option.isSome_none, Option.isNone_some, Option.isSome_some, Bool.and_true, Bool.true_and, Bool.and_false, Bool.false_and, not_true_eq_false, not_false_eq_true, or_true, true_or, false_or, or_false, hget0, hgetK, hset0, hsetK, splice_single, splice_whole, take_whole, List.getElem?_nil, List.length_append, List.append_assoc, evCode_block, hz, hr, List.length_replicate, take_all, eV_cells, eV_size, eV_ok, eV_fold, ns_len, hd, l1, lz, rf_eV]
  rfl
end Go.Ev.Ytaceeoghjgggjaa
set_option linter.unusedSimpArgs false
set_option linter.unusedVariables false
namespace Go.Ev.Ytaceeoghjgggjaa
open Go Go.Ev
attribute [local congr] bind_congr2 ite_congr2 qElse_congr gate_congr guardV_congr
set_option maxRecDepth 100000
theorem vEq_eV {n : Nat} {p q : List Nat} (hp : p.length = n) (hq : q.length = n) : vEq (some (List.replicate n true)) false (eV p) (eV q) = some (.bool (p == q)) := by
  unfold eV
  rw [vEq_agg, cellsEq_u64 hp hq]
  rfl
theorem vEq_eVN {n : Nat} {p q : List Nat} (hp : p.length = n) (hq : q.length = n) : vEq (some (List.replicate n true)) true (eV p) (eV q) = some (.bool (!(p == q))) := by
  unfold eV
  rw [vEq_aggN, cellsEq_u64 hp hq]
  rfl
theorem fe_sub_neg (x y : Go.Fp.Fe) : x + -y = x - y := by grobner
theorem fe_zero_sub (x : Go.Fp.Fe) : 0 - x = -x := by grobner
def zero32 : List Nat := List.replicate 32 0
theorem z32u_eq : List.replicate 32 (Value.int .u64 0) = ns .u64 zero32 := rfl
theorem z32u_len : zero32.length = 32 := rfl
def abI (a b d : List Nat) (i : Int) (ex : Env) : St := ⟨[(2, .pointer (some ⟨0, 0, none⟩)), (3, .pointer (some ⟨1, 0, none⟩)), (4, .pointer (some ⟨2, 0, none⟩)), (5, .pointer (some ⟨3, 0, none⟩)), (6, .int .i64 i)] ++ ex, [⟨ns .u64 a, true, true, true, 1⟩, ⟨ns .u64 b, true, true, true, 1⟩, ⟨ns .u64 zero16, true, true, true, 1⟩, ⟨ns .u64 d, true, true, true, 1⟩], []⟩
theorem radd_block {a b : List Nat} (ha : Nm a) (hb : Nm b) :
    ∃ d, evCode T 0 (.block 0 (.loop a72_l0)) (abI a b zero32 0 []) = some (.normal, abI a b d 16 [(8, .bool false)]) ∧ d.length = 32 ∧ (∀ x ∈ d, x < 2 ^ 44) ∧ num 65536 d = num 65536 a + num 65536 b := by
  obtain ⟨st, hl, o, rfl, h1, h2, h3⟩ := block_inv (T := T) (base := 0) (id := 0) (body := a72_l0)
    (fun i st => ∃ o : List Nat, st = abI a b o i [] ∧ o.length = 32 ∧ (∀ x ∈ o, x < 2 ^ 44) ∧ (∀ j, i ≤ j → j < 16 → o[j]? = some 0) ∧ num 65536 o = num 65536 (a.take i) + num 65536 (b.take i))
    (Q := fun st => ∃ o : List Nat, st = abI a b o 16 [(8, .bool false)] ∧ o.length = 32 ∧ (∀ x ∈ o, x < 2 ^ 44) ∧ num 65536 o = num 65536 a + num 65536 b)
    16 (s := abI a b zero32 0 []) ⟨zero32, rfl, rfl, by decide, fun j _ hj => by unfold zero32; rw [List.getElem?_replicate, if_pos (by omega)], by simp [num]; decide⟩
    (fun i st hi hs => by
      obtain ⟨o, rfl, h1, h2, h3, h4⟩ := hs
      obtain ⟨x, hx⟩ : ∃ x, a[i]? = some x := ⟨_, List.getElem?_eq_getElem (by rw [ha.len]; omega)⟩
      obtain ⟨y, hy⟩ : ∃ y, b[i]? = some y := ⟨_, List.getElem?_eq_getElem (by rw [hb.len]; omega)⟩
      have hx' := ha.lt x (List.mem_of_getElem? hx)
      have hy' := hb.lt y (List.mem_of_getElem? hy)
      have n1 := num_set (B := 65536) (x + y) (h3 i (Nat.le_refl _) hi)
      have s1 := ns_set .u64 o i (x + y)
      have hxc := ns_get (k := .u64) hx
      have hyc := ns_get (k := .u64) hy
      have l1 := ha.len
      have l2 := hb.len
      have w1 : IntKind.i64.wrap ((i : Int) + 1) = ((i + 1 : Nat) : Int) := wi_add (b := 1) (by omega)
      have w2 : IntKind.u64.wrap ((x : Int) + (y : Int)) = ((x + y : Nat) : Int) := w64_add (by omega)
      have e1 : ((i : Int) < 16) = True := eq_true (by omega)
      have e2 : ((i : Int) < 32) = True := eq_true (by omega)
      have e4 : (i ≤ 31) = True := eq_true (by omega)
      refine ⟨abI a b (o.set i (x + y)) ((i + 1 : Nat) : Int) [], ?_, _, rfl, by rw [List.length_set]; exact h1, set_lt h2 (by omega), ?_, ?_⟩
      · generalize o.set i (x + y) = O1 at *
        generalize x + y = v at *
        generalize i + 1 = i1 at *
        simp only [abI, a72_l0, envOf, evCode_skip, evCode_exit, evCode_seq, fs_blockS, fs_blockR, fs_blockC, fs_blockK, fs_blockB, evCode_ret, quiet, keep_nil, keep_cons, fs_cond, fs_region, fs_regionQ, quiet2_eq, lastOf_nil, lastOf_cons, List.take_succ_cons, List.take_zero, List.drop_succ_cons, List.drop_zero, Int.reduceBEq, Int.reduceBNe,  fs_nil, fs_guard, fs_move, fs_pick, fs_alloc, fs_box, fs_load, fs_store, fs_bin, fs_eqv, fs_isNil, fs_un, fs_conv, fs_convStr, fs_field, fs_index, fs_indexStr, fs_build, fs_buildSlice, fs_fieldAddr, fs_indexAddr, fs_indexSl, fs_sliceArr, fs_sliceSl, fs_sliceStr, fs_makeSlice, fs_extract, fs_mkIface, fs_mkFunc, fs_nilCheck, fs_s2ap, fs_len, fs_minmax, fs_s2b, fs_b2s, fs_append, fs_copy, fs_callW, fs_callR, fs_callv, opd_tmp, opd_const, opd_func, opds_nil, opds_cons, opdOpt_none, opdOpt_some, opdParts_nil, opdParts_cons, get_miss, vPick_t, vPick_f, vEq_agg, vEq_aggN, vEq_bool, vEq_boolN, vConv_int, vStr_s, vField_agg, vIndex_agg, vIndexStr_s, vFieldAddr_p, vIndexAddr_p, vIndexSl_s, vSliceArr_p, vSliceSl_s, vSliceSl_n, vSliceStr_s, vExtract_t, vNilCheck_p, vS2ap_s, vLen_s, vLen_str, vMin_i, vMax_i, vLoad_p, vStore_p, baseP_p, vB2s_s, vMake_i, vS2b_s, callee_f, liveAt_eq, storeAt_eq, partL_none, partL_some, natIn_none, natIn_int, bounds3_two, bin_add, bin_sub, bin_mul, bin_quo, bin_rem, bin_and, bin_or, bin_xor, bin_andNot, bin_eql, bin_neq, bin_lss, bin_leq, bin_gtr, bin_geq, bin_shl, bin_shr, bin_sadd, bin_seql, bin_sneq, un_not, un_neg, un_xor, after_some, put_some, put_none, res_nil, res_val, res_var, packed_one, packed_two, merge_nil, merge_ge, rf_tup2, rfIn_int, rfIn_bool, rfIn_u8s, rf_str, rfIn_str, ↓gate_true, gd_bool, gd_ut, gd_uf, ↓guardV_tt, ↓guardV_ff, ↓guardV_tf, ↓guardV_ft, ↓keepV_some, ↓qElse_some, ↓get_hit, ↓Option.bind_some, ↓if_true, ↓if_false, List.nil_append, List.cons_append, List.all_nil, List.all_cons, List.isEmpty_nil, reduceCtorEq, Bool.false_eq_true, Nat.reduceEqDiff, beq_self_eq_true, bne_self_eq_false, Bool.not_true, Bool.not_false, Int.natCast_nonneg, Nat.lt_irrefl, false_and, Int.reduceEq, rf_int, rf_bool, rf_tuple_ints, rf_u8s, arr_list, toList2, Bool.and_self, Nat.not_lt_zero, Nat.sub_zero, Nat.zero_le, Nat.le_add_right, cells_agg, cells_agg_size, cells_int, cells_int_size, okV_int, okV_bool, okV_str, okV_agg, okV_ptr, okV_slice, okV_func, okV_nilFunc, okV_iface, okV_nilIface, cells_bool, cells_bool_size, cells_ptr, cells_ptr_size, cells_slice, cells_slice_size, cells_str, cells_str_size, eq_self, wrapI64_small, Int.natCast_zero, Int.natCast_one, Int.cast_ofNat_Int, List.length_nil, List.length_cons, List.getElem?_cons_zero, List.getElem?_cons_succ, List.set_cons_zero, List.set_cons_succ, Nat.zero_add, Nat.add_zero, Nat.mul_one, Nat.zero_mul, Int.toNat_natCast, Int.toNat_zero, Int.lt_irrefl, Int.le_refl, Nat.le_refl, and_self, true_and, and_true, decide_true, decide_false, Int.reduceLE, Int.reduceLT, Int.reduceAdd, Int.reduceMul, Int.reduceSub, Int.reduceTDiv, Int.reduceTMod, Int.reduceNeg, Int.reduceToNat, Int.reduceGT, Int.reduceGE, Int.reducePow, Nat.reduceAdd, Nat.reduceMul, Nat.reduceSub, Nat.reduceDiv, Nat.reduceMod, Nat.reducePow, Nat.reduceLT, Nat.reduceLeDiff, Nat.min_self, ge_iff_le, gt_iff_lt, Option.isNone_none, Option.isSome_none, Option.isNone_some, Option.isSome_some, Bool.and_true, Bool.true_and, Bool.and_false, Bool.false_and, not_true_eq_false, not_false_eq_true, or_true, true_or, false_or, or_false, hget0, hgetK, hset0, hsetK, splice_single, splice_whole, take_whole, List.getElem?_nil, List.length_append, List.append_assoc, hxc, hyc, w1, w2, e1, e2, e4, s1, ns_len, h1, l1, l2]
      · intro j hj hj'
        rw [List.getElem?_set_ne (by omega)]
        exact h3 j (by omega) hj'
      · rw [num_take hx, num_take hy]
        rw [Nat.add_mul] at n1
        omega)
    (fun st hs => by
      obtain ⟨o, rfl, h1, h2, h3, h4⟩ := hs
      rw [List.take_of_length_le (by rw [ha.len]; omega), List.take_of_length_le (by rw [hb.len]; omega)] at h4
      refine ⟨_, ?_, o, rfl, h1, h2, h4⟩
      simp only [abI, a72_l0, envOf, evCode_skip, evCode_exit, evCode_seq, fs_blockS, fs_blockR, fs_blockC, fs_blockK, fs_blockB, evCode_ret, quiet, keep_nil, keep_cons, fs_cond, fs_region, fs_regionQ, quiet2_eq, lastOf_nil, lastOf_cons, List.take_succ_cons, List.take_zero, List.drop_succ_cons, List.drop_zero, Int.reduceBEq, Int.reduceBNe,  fs_nil, fs_guard, fs_move, fs_pick, fs_alloc, fs_box, fs_load, fs_store, fs_bin, fs_eqv, fs_isNil, fs_un, fs_conv, fs_convStr, fs_field, fs_index, fs_indexStr, fs_build, fs_buildSlice, fs_fieldAddr, fs_indexAddr, fs_indexSl, fs_sliceArr, fs_sliceSl, fs_sliceStr, fs_makeSlice, fs_extract, fs_mkIface, fs_mkFunc, fs_nilCheck, fs_s2ap, fs_len, fs_minmax, fs_s2b, fs_b2s, fs_append, fs_copy, fs_callW, fs_callR, fs_callv, opd_tmp, opd_const, opd_func, opds_nil, opds_cons, opdOpt_none, opdOpt_some, opdParts_nil, opdParts_cons, get_miss, vPick_t, vPick_f, vEq_agg, vEq_aggN, vEq_bool, vEq_boolN, vConv_int, vStr_s, vField_agg, vIndex_agg, vIndexStr_s, vFieldAddr_p, vIndexAddr_p, vIndexSl_s, vSliceArr_p, vSliceSl_s, vSliceSl_n, vSliceStr_s, vExtract_t, vNilCheck_p, vS2ap_s, vLen_s, vLen_str, vMin_i, vMax_i, vLoad_p, vStore_p, baseP_p, vB2s_s, vMake_i, vS2b_s, callee_f, liveAt_eq, storeAt_eq, partL_none, partL_some, natIn_none, natIn_int, bounds3_two, bin_add, bin_sub, bin_mul, bin_quo, bin_rem, bin_and, bin_or, bin_xor, bin_andNot, bin_eql, bin_neq, bin_lss, bin_leq, bin_gtr, bin_geq, bin_shl, bin_shr, bin_sadd, bin_seql, bin_sneq, un_not, un_neg, un_xor, after_some, put_some, put_none, res_nil, res_val, res_var, packed_one, packed_two, merge_nil, merge_ge, rf_tup2, rfIn_int, rfIn_bool, rfIn_u8s, rf_str, rfIn_str, ↓gate_true, gd_bool, gd_ut, gd_uf, ↓guardV_tt, ↓guardV_ff, ↓guardV_tf, ↓guardV_ft, ↓keepV_some, ↓qElse_some, ↓get_hit, ↓Option.bind_some, ↓if_true, ↓if_false, List.nil_append, List.cons_append, List.all_nil, List.all_cons, List.isEmpty_nil, reduceCtorEq, Bool.false_eq_true, Nat.reduceEqDiff, beq_self_eq_true, bne_self_eq_false, Bool.not_true, Bool.not_false, Int.natCast_nonneg, Nat.lt_irrefl, false_and, Int.reduceEq, rf_int, rf_bool, rf_tuple_ints, rf_u8s, arr_list, toList2, Bool.and_self, Nat.not_lt_zero, Nat.sub_zero, Nat.zero_le, Nat.le_add_right, cells_agg, cells_agg_size, cells_int, cells_int_size, okV_int, okV_bool, okV_str, okV_agg, okV_ptr, okV_slice, okV_func, okV_nilFunc, okV_iface, okV_nilIface, cells_bool, cells_bool_size, cells_ptr, cells_ptr_size, cells_slice, cells_slice_size, cells_str, cells_str_size, eq_self, wrapI64_small, Int.natCast_zero, Int.natCast_one, Int.cast_ofNat_Int, List.length_nil, List.length_cons, List.getElem?_cons_zero, List.getElem?_cons_succ, List.set_cons_zero, List.set_cons_succ, Nat.zero_add, Nat.add_zero, Nat.mul_one, Nat.zero_mul, Int.toNat_natCast, Int.toNat_zero, Int.lt_irrefl, Int.le_refl, Nat.le_refl, and_self, true_and, and_true, decide_true, decide_false, Int.reduceLE, Int.reduceLT, Int.reduceAdd, Int.reduceMul, Int.reduceSub, Int.reduceTDiv, Int.reduceTMod, Int.reduceNeg, Int.reduceToNat, Int.reduceGT, Int.reduceGE, Int.reducePow, Nat.reduceAdd, Nat.reduceMul, Nat.reduceSub, Nat.reduceDiv, Nat.reduceMod, Nat.reducePow, Nat.reduceLT, Nat.reduceLeDiff, Nat.min_self, ge_iff_le, gt_iff_lt, Option.isNone_none, Option.isSome_none, Option.isNone_some, Option.isSome_some, Bool.and_true, Bool.true_and, Bool.and_false, Bool.false_and, not_true_eq_false, not_false_eq_true, or_true, true_or, false_or, or_false])
  exact ⟨o, hl, h1, h2, h3⟩
theorem radd_v {a b : List Nat} (ha : Nm a) (hb : Nm b) : ∃ r, evVal T 72 [eV a, eV b] = some (eV r) ∧ Nm r ∧ nf r = nf a + nf b := by
  obtain ⟨d, hd, l1, h2, h3⟩ := radd_block ha hb
  have hal := ha.num_lt
  have hbl := hb.num_lt
  obtain ⟨r, hr, hN, hf⟩ := rfold_v l1 h2 (by
    rw [h3]
    have e : (65536 : Nat) ^ 32 = 2 ^ 256 * 2 ^ 256 := by decide
    rw [e]
    have : (2 : Nat) ≤ 2 ^ 256 := by decide
    have := Nat.mul_le_mul_right (2 ^ 256) this
    generalize (2 : Nat) ^ 256 = M at *
    omega)
  refine ⟨r, ?_, hN, by rw [hf, h3, Go.Fp.fp_add]; rfl⟩
  simp only [abI, List.cons_append, List.nil_append, Int.natCast_zero] at hd
  have hz := z16_eq
  have lz := z16_len
  have hz2 := z32u_eq
  have lz2 := z32u_len
  have la := ha.len
  have lb := hb.len
  have lr := hN.len
  generalize zero16 = Z at *
  generalize zero32 = Z2 at *
  apply evVal_ex
  apply Exists.intro
  rw [evFun_fn (fn := a72) rfl]
  simp only [a72, ↓steps_chunk, envOf, evCode_skip, evCode_exit, evCode_seq, fs_blockS, fs_blockR, fs_blockC, fs_blockK, fs_blockB, evCode_ret, quiet, keep_nil, keep_cons, fs_cond, fs_region, fs_regionQ, quiet2_eq, lastOf_nil, lastOf_cons, List.take_succ_cons, List.take_zero, List.drop_succ_cons, List.drop_zero, Int.reduceBEq, Int.reduceBNe,  fs_nil, fs_guard, fs_move, fs_pick, fs_alloc, fs_box, fs_load, fs_store, fs_bin, fs_eqv, fs_isNil, fs_un, fs_conv, fs_convStr, fs_field, fs_index, fs_indexStr, fs_build, fs_buildSlice, fs_fieldAddr, fs_indexAddr, fs_indexSl, fs_sliceArr, fs_sliceSl, fs_sliceStr, fs_makeSlice, fs_extract, fs_mkIface, fs_mkFunc, fs_nilCheck, fs_s2ap, fs_len, fs_minmax, fs_s2b, fs_b2s, fs_append, fs_copy, fs_callW, fs_callR, fs_callv, opd_tmp, opd_const, opd_func, opds_nil, opds_cons, opdOpt_none, opdOpt_some, opdParts_nil, opdParts_cons, get_miss, vPick_t, vPick_f, vEq_agg, vEq_aggN, vEq_bool, vEq_boolN, vConv_int, vStr_s, vField_agg, vIndex_agg, vIndexStr_s, vFieldAddr_p, vIndexAddr_p, vIndexSl_s, vSliceArr_p, vSliceSl_s, vSliceSl_n, vSliceStr_s, vExtract_t, vNilCheck_p, vS2ap_s, vLen_s, vLen_str, vMin_i, vMax_i, vLoad_p, vStore_p, baseP_p, vB2s_s, vMake_i, vS2b_s, callee_f, liveAt_eq, storeAt_eq, partL_none, partL_some, natIn_none, natIn_int, bounds3_two, bin_add, bin_sub, bin_mul, bin_quo, bin_rem, bin_and, bin_or, bin_xor, bin_andNot, bin_eql, bin_neq, bin_lss, bin_leq, bin_gtr, bin_geq, bin_shl, bin_shr, bin_sadd, bin_seql, bin_sneq, un_not, un_neg, un_xor, after_some, put_some, put_none, res_nil, res_val, res_var, packed_one, packed_two, merge_nil, merge_ge, rf_tup2, rfIn_int, rfIn_bool, rfIn_u8s, rf_str, rfIn_str, ↓gate_true, gd_bool, gd_ut, gd_uf, ↓guardW_tt, ↓guardW_ff, ↓guardW_tf, ↓guardW_ft, ↓keepW_some, ↓qElseW_some, ↓get_hit, ↓Option.bind_some, ↓if_true, ↓if_false, List.nil_append, List.cons_append, List.all_nil, List.all_cons, List.isEmpty_nil, reduceCtorEq, Bool.false_eq_true, Nat.reduceEqDiff, beq_self_eq_true, bne_self_eq_false, Bool.not_true, Bool.not_false, Int.natCast_nonneg, Nat.lt_irrefl, false_and, Int.reduceEq, rf_int, rf_bool, rf_tuple_ints, rf_u8s, arr_list, toList2, Bool.and_self, Nat.not_lt_zero, Nat.sub_zero, Nat.zero_le, Nat.le_add_right, cells_agg, cells_agg_size, cells_int, cells_int_size, okV_int, okV_bool, okV_str, okV_agg, okV_ptr, okV_slice, okV_func, okV_nilFunc, okV_iface, okV_nilIface, cells_bool, cells_bool_size, cells_ptr, cells_ptr_size, cells_slice, cells_slice_size, cells_str, cells_str_size, eq_self, wrapI64_small, Int.natCast_zero, Int.natCast_one, Int.cast_ofNat_Int, List.length_nil, List.length_cons, List.getElem?_cons_zero, List.getElem?_cons_succ, List.set_cons_zero, List.set_cons_succ, Nat.zero_add, Nat.add_zero, Nat.mul_one, Nat.zero_mul, Int.toNat_natCast, Int.toNat_zero, Int.lt_irrefl, Int.le_refl, Nat.le_refl, and_self, true_and, and_true, decide_true, decide_false, Int.reduceLE, Int.reduceLT, Int.reduceAdd, Int.reduceMul, Int.reduceSub, Int.reduceTDiv, Int.reduceTMod, Int.reduceNeg, Int.reduceToNat, Int.reduceGT, Int.reduceGE, Int.reducePow, Nat.reduceAdd, Nat.reduceMul, Nat.reduceSub, Nat.reduceDiv, Nat.reduceMod, Nat.reducePow, Nat.reduceLT, Nat.reduceLeDiff, Nat.min_self, ge_iff_le, gt_iff_lt, Option.isNone_none, Option.isSome_none, Option.isNone_some, Option.isSome_some, Bool.and_true, Bool.true_and, Bool.and_false, Bool.false_and, not_true_eq_false, not_false_eq_true, or_true, true_or, false_or, or_false, hget0, hgetK, hset0, hsetK, splice_single, splice_whole, take_whole, List.getElem?_nil, List.length_append, List.append_assoc, hz, hz2, hd, hr, List.length_replicate, take_all, eV_cells, eV_size, eV_ok, eV_fold, ns_len, la, lb, l1, lr, lz, lz2, rf_eV]
  rfl
theorem zero16_nm : Nm zero16 := ⟨rfl, by decide⟩
theorem zero16_num : num 65536 zero16 = 0 := by decide
theorem nf_zero_iff {a : List Nat} : nf a = 0 ↔ num 65536 a % Go.Fp.P = 0 := by
  unfold nf
  rw [← Go.Fp.fp_zero, Go.Fp.fp_eq, Nat.zero_mod]
theorem dig16_eq {v w : Nat} (hv : v < 2 ^ 256) (hw : w < 2 ^ 256) : (dig 65536 16 v == dig 65536 16 w) = decide (v = w) := by
  by_cases h : v = w
  · subst h; simp
  · rw [decide_eq_false h, beq_eq_false_iff_ne.2]
    intro e
    have := congrArg (num 65536) e
    rw [nm_dig hv, nm_dig hw] at this
    exact h this
theorem P_lt2 : Go.Fp.P < 2 ^ 256 := by decide
theorem P_pos : 0 < Go.Fp.P := by decide
theorem canon_eq_zero (a : List Nat) : (dig 65536 16 (num 65536 a % Go.Fp.P) == zero16) = decide (nf a = 0) := by
  have hz : zero16 = dig 65536 16 0 := by decide
  have h1 := Nat.mod_lt (num 65536 a) P_pos
  have h2 := P_lt2
  rw [hz, dig16_eq (by omega) (by omega)]
  by_cases h : nf a = 0
  · rw [decide_eq_true h, decide_eq_true (nf_zero_iff.1 h)]
  · rw [decide_eq_false h, decide_eq_false (fun e => h (nf_zero_iff.2 e))]
theorem rneg_v {a : List Nat} (ha : Nm a) : ∃ r, evVal T 73 [eV a] = some (eV r) ∧ Nm r ∧ nf r = -nf a := by
  have hc := rcanon_v ha
  have hq := canon_eq_zero a
  have h1 := Nat.mod_lt (num 65536 a) P_pos
  have hPl := P_lt2
  have hC := Nm.dig (num 65536 a % Go.Fp.P)
  have hCn := nm_dig (v := num 65536 a % Go.Fp.P) (by omega)
  have hp := rprime_v
  have hm := rminus_v primeL_nm hC (by rw [hCn, primeL_num]; omega)
  have lP := primeL_nm.len
  have lC := hC.len
  have la := ha.len
  have hz := z16_eq
  have lz := z16_len
  have hf := z16_fill
  rw [hCn, primeL_num] at hm
  have hceq := vEq_eV lC lz
  rw [hq] at hceq
  by_cases h : nf a = 0
  · rw [decide_eq_true h] at hceq
    refine ⟨dig 65536 16 (num 65536 a % Go.Fp.P), ?_, hC, ?_⟩
    · generalize dig 65536 16 (num 65536 a % Go.Fp.P) = C at *
      generalize zero16 = Z at *
      apply evVal_ex
      apply Exists.intro
      rw [evFun_fn (fn := a73) rfl]
      simp only [a73, ↓steps_chunk, envOf, evCode_skip, evCode_exit, evCode_seq, fs_blockS, fs_blockR, fs_blockC, fs_blockK, fs_blockB, evCode_ret, quiet, keep_nil, keep_cons, fs_cond, fs_region, fs_regionQ, quiet2_eq, lastOf_nil, lastOf_cons, List.take_succ_cons, List.take_zero, List.drop_succ_cons, List.drop_zero, Int.reduceBEq, Int.reduceBNe,  fs_nil, fs_guard, fs_move, fs_pick, fs_alloc, fs_box, fs_load, fs_store, fs_bin, fs_eqv, fs_isNil, fs_un, fs_conv, fs_convStr, fs_field, fs_index, fs_indexStr, fs_build, fs_buildSlice, fs_fieldAddr, fs_indexAddr, fs_indexSl, fs_sliceArr, fs_sliceSl, fs_sliceStr, fs_makeSlice, fs_extract, fs_mkIface, fs_mkFunc, fs_nilCheck, fs_s2ap, fs_len, fs_minmax, fs_s2b, fs_b2s, fs_append, fs_copy, fs_callW, fs_callR, fs_callv, opd_tmp, opd_const, opd_func, opds_nil, opds_cons, opdOpt_none, opdOpt_some, opdParts_nil, opdParts_cons, get_miss, vPick_t, vPick_f, vEq_agg, vEq_aggN, vEq_bool, vEq_boolN, vConv_int, vStr_s, vField_agg, vIndex_agg, vIndexStr_s, vFieldAddr_p, vIndexAddr_p, vIndexSl_s, vSliceArr_p, vSliceSl_s, vSliceSl_n, vSliceStr_s, vExtract_t, vNilCheck_p, vS2ap_s, vLen_s, vLen_str, vMin_i, vMax_i, vLoad_p, vStore_p, baseP_p, vB2s_s, vMake_i, vS2b_s, callee_f, liveAt_eq, storeAt_eq, partL_none, partL_some, natIn_none, natIn_int, bounds3_two, bin_add, bin_sub, bin_mul, bin_quo, bin_rem, bin_and, bin_or, bin_xor, bin_andNot, bin_eql, bin_neq, bin_lss, bin_leq, bin_gtr, bin_geq, bin_shl, bin_shr, bin_sadd, bin_seql, bin_sneq, un_not, un_neg, un_xor, after_some, put_some, put_none, res_nil, res_val, res_var, packed_one, packed_two, merge_nil, merge_ge, rf_tup2, rfIn_int, rfIn_bool, rfIn_u8s, rf_str, rfIn_str, ↓gate_true, gd_bool, gd_ut, gd_uf, ↓guardW_tt, ↓guardW_ff, ↓guardW_tf, ↓guardW_ft, ↓keepW_some, ↓qElseW_some, ↓get_hit, ↓Option.bind_some, ↓if_true, ↓if_false, List.nil_append, List.cons_append, List.all_nil, List.all_cons, List.isEmpty_nil, reduceCtorEq, Bool.false_eq_true, Nat.reduceEqDiff, beq_self_eq_true, bne_self_eq_false, Bool.not_true, Bool.not_false, Int.natCast_nonneg, Nat.lt_irrefl, false_and, Int.reduceEq, rf_int, rf_bool, rf_tuple_ints, rf_u8s, arr_list, toList2, Bool.and_self, Nat.not_lt_zero, Nat.sub_zero, Nat.zero_le, Nat.le_add_right, cells_agg, cells_agg_size, cells_int, cells_int_size, okV_int, okV_bool, okV_str, okV_agg, okV_ptr, okV_slice, okV_func, okV_nilFunc, okV_iface, okV_nilIface, cells_bool, cells_bool_size, cells_ptr, cells_ptr_size, cells_slice, cells_slice_size, cells_str, cells_str_size, eq_self, wrapI64_small, Int.natCast_zero, Int.natCast_one, Int.cast_ofNat_Int, List.length_nil, List.length_cons, List.getElem?_cons_zero, List.getElem?_cons_succ, List.set_cons_zero, List.set_cons_succ, Nat.zero_add, Nat.add_zero, Nat.mul_one, Nat.zero_mul, Int.toNat_natCast, Int.toNat_zero, Int.lt_irrefl, Int.le_refl, Nat.le_refl, and_self, true_and, and_true, decide_true, decide_false, Int.reduceLE, Int.reduceLT, Int.reduceAdd, Int.reduceMul, Int.reduceSub, Int.reduceTDiv, Int.reduceTMod, Int.reduceNeg, Int.reduceToNat, Int.reduceGT, Int.reduceGE, Int.reducePow, Nat.reduceAdd, Nat.reduceMul, Nat.reduceSub, Nat.reduceDiv, Nat.reduceMod, Nat.reducePow, Nat.reduceLT, Nat.reduceLeDiff, Nat.min_self, ge_iff_le, gt_iff_lt, Option.isNone_none, Option.isSome_none, Option.isNone_some, Option.isSome_some, Bool.and_true, Bool.true_and, Bool.and_false, Bool.false_and, not_true_eq_false, not_false_eq_true, or_true, true_or, false_or, or_false, hget0, hgetK, hset0, hsetK, splice_single, splice_whole, take_whole, List.getElem?_nil, List.length_append, List.append_assoc, hz, hf, hc, hceq, List.length_replicate, take_all, eV_cells, eV_size, eV_ok, eV_fold, ns_len, la, lC, lz, rf_eV]
      rfl
    · unfold nf
      rw [hCn, Go.Fp.fp_mod]
      show nf a = - nf a
      rw [h]; grobner
  · rw [decide_eq_false h] at hceq
    have hR := Nm.dig (Go.Fp.P - num 65536 a % Go.Fp.P)
    have hRn := nm_dig (v := Go.Fp.P - num 65536 a % Go.Fp.P) (by omega)
    refine ⟨dig 65536 16 (Go.Fp.P - num 65536 a % Go.Fp.P), ?_, hR, ?_⟩
    · have lR := hR.len
      generalize dig 65536 16 (num 65536 a % Go.Fp.P) = C at *
      generalize dig 65536 16 (Go.Fp.P - num 65536 a % Go.Fp.P) = R at *
      generalize primeL = PL at *
      generalize zero16 = Z at *
      apply evVal_ex
      apply Exists.intro
      rw [evFun_fn (fn := a73) rfl]
      simp only [a73, ↓steps_chunk, envOf, evCode_skip, evCode_exit, evCode_seq, fs_blockS, fs_blockR, fs_blockC, fs_blockK, fs_blockB, evCode_ret, quiet, keep_nil, keep_cons, fs_cond, fs_region, fs_regionQ, quiet2_eq, lastOf_nil, lastOf_cons, List.take_succ_cons, List.take_zero, List.drop_succ_cons, List.drop_zero, Int.reduceBEq, Int.reduceBNe,  fs_nil, fs_guard, fs_move, fs_pick, fs_alloc, fs_box, fs_load, fs_store, fs_bin, fs_eqv, fs_isNil, fs_un, fs_conv, fs_convStr, fs_field, fs_index, fs_indexStr, fs_build, fs_buildSlice, fs_fieldAddr, fs_indexAddr, fs_indexSl, fs_sliceArr, fs_sliceSl, fs_sliceStr, fs_makeSlice, fs_extract, fs_mkIface, fs_mkFunc, fs_nilCheck, fs_s2ap, fs_len, fs_minmax, fs_s2b, fs_b2s, fs_append, fs_copy, fs_callW, fs_callR, fs_callv, opd_tmp, opd_const, opd_func, opds_nil, opds_cons, opdOpt_none, opdOpt_some, opdParts_nil, opdParts_cons, get_miss, vPick_t, vPick_f, vEq_agg, vEq_aggN, vEq_bool, vEq_boolN, vConv_int, vStr_s, vField_agg, vIndex_agg, vIndexStr_s, vFieldAddr_p, vIndexAddr_p, vIndexSl_s, vSliceArr_p, vSliceSl_s, vSliceSl_n, vSliceStr_s, vExtract_t, vNilCheck_p, vS2ap_s, vLen_s, vLen_str, vMin_i, vMax_i, vLoad_p, vStore_p, baseP_p, vB2s_s, vMake_i, vS2b_s, callee_f, liveAt_eq, storeAt_eq, partL_none, partL_some, natIn_none, natIn_int, bounds3_two, bin_add, bin_sub, bin_mul, bin_quo, bin_rem, bin_and, bin_or, bin_xor, bin_andNot, bin_eql, bin_neq, bin_lss, bin_leq, bin_gtr, bin_geq, bin_shl, bin_shr, bin_sadd, bin_seql, bin_sneq, un_not, un_neg, un_xor, after_some, put_some, put_none, res_nil, res_val, res_var, packed_one, packed_two, merge_nil, merge_ge, rf_tup2, rfIn_int, rfIn_bool, rfIn_u8s, rf_str, rfIn_str, ↓gate_true, gd_bool, gd_ut, gd_uf, ↓guardW_tt, ↓guardW_ff, ↓guardW_tf, ↓guardW_ft, ↓keepW_some, ↓qElseW_some, ↓get_hit, ↓Option.bind_some, ↓if_true, ↓if_false, List.nil_append, List.cons_append, List.all_nil, List.all_cons, List.isEmpty_nil, reduceCtorEq, Bool.false_eq_true, Nat.reduceEqDiff, beq_self_eq_true, bne_self_eq_false, Bool.not_true, Bool.not_false, Int.natCast_nonneg, Nat.lt_irrefl, false_and, Int.reduceEq, rf_int, rf_bool, rf_tuple_ints, rf_u8s, arr_list, toList2, Bool.and_self, Nat.not_lt_zero, Nat.sub_zero, Nat.zero_le, Nat.le_add_right, cells_agg, cells_agg_size, cells_int, cells_int_size, okV_int, okV_bool, okV_str, okV_agg, okV_ptr, okV_slice, okV_func, okV_nilFunc, okV_iface, okV_nilIface, cells_bool, cells_bool_size, cells_ptr, cells_ptr_size, cells_slice, cells_slice_size, cells_str, cells_str_size, eq_self, wrapI64_small, Int.natCast_zero, Int.natCast_one, Int.cast_ofNat_Int, List.length_nil, List.length_cons, List.getElem?_cons_zero, List.getElem?_cons_succ, List.set_cons_zero, List.set_cons_succ, Nat.zero_add, Nat.add_zero, Nat.mul_one, Nat.zero_mul, Int.toNat_natCast, Int.toNat_zero, Int.lt_irrefl, Int.le_refl, Nat.le_refl, and_self, true_and, and_true, decide_true, decide_false, Int.reduceLE, Int.reduceLT, Int.reduceAdd, Int.reduceMul, Int.reduceSub, Int.reduceTDiv, Int.reduceTMod, Int.reduceNeg, Int.reduceToNat, Int.reduceGT, Int.reduceGE, Int.reducePow, Nat.reduceAdd, Nat.reduceMul, Nat.reduceSub, Nat.reduceDiv, Nat.reduceMod, Nat.reducePow, Nat.reduceLT, Nat.reduceLeDiff, Nat.min_self, ge_iff_le, gt_iff_lt, Option.isNone_none, Option.isSome_none, Option.isNone_some, Option.isSome_some, Bool.and_true, Bool.true_and, Bool.and_false, Bool.false_and, not_true_eq_false, not_false_eq_true, or_true, true_or, false_or, or_false, hget0, hgetK, hset0, hsetK, splice_single, splice_whole, take_whole, List.getElem?_nil, List.length_append, List.append_assoc, hz, hf, hc, hceq, hp, hm, List.length_replicate, take_all, eV_cells, eV_size, eV_ok, eV_fold, ns_len, la, lC, lR, lP, lz, rf_eV]
      rfl
    · show Go.Fp.fp (num 65536 _) = _
      rw [hRn, Go.Fp.fp_sub (by omega), Go.Fp.fp_mod, Go.Fp.fp_P]
      exact fe_zero_sub _
theorem rsub_v {a b : List Nat} (ha : Nm a) (hb : Nm b) : ∃ r, evVal T 69 [eV a, eV b] = some (eV r) ∧ Nm r ∧ nf r = nf a - nf b := by
  obtain ⟨n, hn, hN, hnf⟩ := rneg_v hb
  obtain ⟨r, hr, hR, hrf⟩ := radd_v ha hN
  refine ⟨r, ?_, hR, by rw [hrf, hnf, fe_sub_neg]⟩
  have hz := z16_eq
  have lz := z16_len
  have la := ha.len
  have lb := hb.len
  have lr := hR.len
  generalize zero16 = Z at *
  apply evVal_ex
  apply Exists.intro
  rw [evFun_fn (fn := a69) rfl]
  simp only [a69, ↓steps_chunk, envOf, evCode_skip, evCode_exit, evCode_seq, fs_blockS, fs_blockR, fs_blockC, fs_blockK, fs_blockB, evCode_ret, quiet, keep_nil, keep_cons, fs_cond, fs_region, fs_regionQ, quiet2_eq, lastOf_nil, lastOf_cons, List.take_succ_cons, List.take_zero, List.drop_succ_cons, List.drop_zero, Int.reduceBEq, Int.reduceBNe,  fs_nil, fs_guard, fs_move, fs_pick, fs_alloc, fs_box, fs_load, fs_store, fs_bin, fs_eqv, fs_isNil, fs_un, fs_conv, fs_convStr, fs_field, fs_index, fs_indexStr, fs_build, fs_buildSlice, fs_fieldAddr, fs_indexAddr, fs_indexSl, fs_sliceArr, fs_sliceSl, fs_sliceStr, fs_makeSlice, fs_extract, fs_mkIface, fs_mkFunc, fs_nilCheck, fs_s2ap, fs_len, fs_minmax, fs_s2b, fs_b2s, fs_append, fs_copy, fs_callW, fs_callR, fs_callv, opd_tmp, opd_const, opd_func, opds_nil, opds_cons, opdOpt_none, opdOpt_some, opdParts_nil, opdParts_cons, get_miss, vPick_t, vPick_f, vEq_agg, vEq_aggN, vEq_bool, vEq_boolN, vConv_int, vStr_s, vField_agg, vIndex_agg, vIndexStr_s, vFieldAddr_p, vIndexAddr_p, vIndexSl_s, vSliceArr_p, vSliceSl_s, vSliceSl_n, vSliceStr_s, vExtract_t, vNilCheck_p, vS2ap_s, vLen_s, vLen_str, vMin_i, vMax_i, vLoad_p, vStore_p, baseP_p, vB2s_s, vMake_i, vS2b_s, callee_f, liveAt_eq, storeAt_eq, partL_none, partL_some, natIn_none, natIn_int, bounds3_two, bin_add, bin_sub, bin_mul, bin_quo, bin_rem, bin_and, bin_or, bin_xor, bin_andNot, bin_eql, bin_neq, bin_lss, bin_leq, bin_gtr, bin_geq, bin_shl, bin_shr, bin_sadd, bin_seql, bin_sneq, un_not, un_neg, un_xor, after_some, put_some, put_none, res_nil, res_val, res_var, packed_one, packed_two, merge_nil, merge_ge, rf_tup2, rfIn_int, rfIn_bool, rfIn_u8s, rf_str, rfIn_str, ↓gate_true, gd_bool, gd_ut, gd_uf, ↓guardW_tt, ↓guardW_ff, ↓guardW_tf, ↓guardW_ft, ↓keepW_some, ↓qElseW_some, ↓get_hit, ↓Option.bind_some, ↓if_true, ↓if_false, List.nil_append, List.cons_append, List.all_nil, List.all_cons, List.isEmpty_nil, reduceCtorEq, Bool.false_eq_true, Nat.reduceEqDiff, beq_self_eq_true, bne_self_eq_false, Bool.not_true, Bool.not_false, Int.natCast_nonneg, Nat.lt_irrefl, false_and, Int.reduceEq, rf_int, rf_bool, rf_tuple_ints, rf_u8s, arr_list, toList2, Bool.and_self, Nat.not_lt_zero, Nat.sub_zero, Nat.zero_le, Nat.le_add_right, cells_agg, cells_agg_size, cells_int, cells_int_size, okV_int, okV_bool, okV_str, okV_agg, okV_ptr, okV_slice, okV_func, okV_nilFunc, okV_iface, okV_nilIface, cells_bool, cells_bool_size, cells_ptr, cells_ptr_size, cells_slice, cells_slice_size, cells_str, cells_str_size, eq_self, wrapI64_small, Int.natCast_zero, Int.natCast_one, Int.cast_ofNat_Int, List.length_nil, List.length_cons, List.getElem?_cons_zero, List.getElem?_cons_succ, List.set_cons_zero, List.set_cons_succ, Nat.zero_add, Nat.add_zero, Nat.mul_one, Nat.zero_mul, Int.toNat_natCast, Int.toNat_zero, Int.lt_irrefl, Int.le_refl, Nat.le_refl, and_self, true_and, and_true, decide_true, decide_false, Int.reduceLE, Int.reduceLT, Int.reduceAdd, Int.reduceMul, Int.reduceSub, Int.reduceTDiv, Int.reduceTMod, Int.reduceNeg, Int.reduceToNat, Int.reduceGT, Int.reduceGE, Int.reducePow, Nat.reduceAdd, Nat.reduceMul, Nat.reduceSub, Nat.reduceDiv, Nat.reduceMod, Nat.reducePow, Nat.reduceLT, Nat.reduceLeDiff, Nat.min_self, ge_iff_le, gt_iff_lt, Option.isNone_none, Option.isSome_none, Option.isNone_some, Option.isSome_some, Bool.and_true, Bool.true_and, Bool.and_false, Bool.false_and, not_true_eq_false, not_false_eq_true, or_true, true_or, false_or, or_false, hget0, hgetK, hset0, hsetK, splice_single, splice_whole, take_whole, List.getElem?_nil, List.length_append, List.append_assoc, hz, hn, hr, List.length_replicate, take_all, eV_cells, eV_size, eV_ok, eV_fold, ns_len, la, lb, lr, lz, rf_eV]
  rfl
def abkI (a b d : List Nat) (i k : Int) (ex : Env) : St := ⟨[(2, .pointer (some ⟨0, 0, none⟩)), (3, .pointer (some ⟨1, 0, none⟩)), (4, .pointer (some ⟨2, 0, none⟩)), (5, .pointer (some ⟨3, 0, none⟩)), (6, .int .i64 i), (7, .int .i64 k)] ++ ex, [⟨ns .u64 a, true, true, true, 1⟩, ⟨ns .u64 b, true, true, true, 1⟩, ⟨ns .u64 zero16, true, true, true, 1⟩, ⟨ns .u64 d, true, true, true, 1⟩], []⟩
theorem rmul_inner {a b d : List Nat} {i x S : Nat} (ha : Nm a) (hb : Nm b) (hi : i < 16) (hx : a[i]? = some x) (hd : d.length = 32) (hM : ∀ x ∈ d, x ≤ S * 4294967296) (hS : S ≤ 256) :
    ∃ d', evCode T 0 (.block 2 (.loop a67_l0)) (abkI a b d i 0 []) = some (.normal, abkI a b d' i 16 [(13, .bool false)]) ∧ d'.length = 32 ∧ (∀ x ∈ d', x ≤ (S + 16) * 4294967296) ∧ num 65536 d' = num 65536 d + x * num 65536 b * 65536 ^ i := by
  have hx' := ha.lt x (List.mem_of_getElem? hx)
  obtain ⟨st, hl, d', rfl, h2, h3, h4⟩ := block_inv (T := T) (base := 0) (id := 2) (body := a67_l0)
    (fun k st => ∃ d' : List Nat, st = abkI a b d' i k [] ∧ d'.length = 32 ∧ (∀ x ∈ d', x ≤ (S + k) * 4294967296) ∧ num 65536 d' = num 65536 d + x * num 65536 (b.take k) * 65536 ^ i)
    (Q := fun st => ∃ d' : List Nat, st = abkI a b d' i 16 [(13, .bool false)] ∧ d'.length = 32 ∧ (∀ x ∈ d', x ≤ (S + 16) * 4294967296) ∧ num 65536 d' = num 65536 d + x * num 65536 b * 65536 ^ i)
    16 (s := abkI a b d i 0 []) ⟨d, rfl, hd, by simpa using hM, by simp [num]⟩
    (fun k st hk hs => by
      obtain ⟨d', rfl, h2, h3, h4⟩ := hs
      obtain ⟨y, hy⟩ : ∃ y, b[k]? = some y := ⟨_, List.getElem?_eq_getElem (by rw [hb.len]; omega)⟩
      obtain ⟨v, hv⟩ : ∃ y, d'[i + k]? = some y := ⟨_, List.getElem?_eq_getElem (by omega)⟩
      have hy' := hb.lt y (List.mem_of_getElem? hy)
      have hv' := h3 v (List.mem_of_getElem? hv)
      have hxy : x * y ≤ 65535 * 65535 := Nat.mul_le_mul (by omega) (by omega)
      have hxc := ns_get (k := .u64) hx
      have hyc := ns_get (k := .u64) hy
      have hvc := ns_get (k := .u64) hv
      have l1 := ha.len
      have l2 := hb.len
      have e1 : ((k : Int) < 16) = True := eq_true (by omega)
      have e3 : ((i : Int) < 16) = True := eq_true (by omega)
      have w1 : IntKind.i64.wrap ((k : Int) + 1) = ((k + 1 : Nat) : Int) := wi_add (b := 1) (by omega)
      have w2 : IntKind.i64.wrap ((i : Int) + (k : Int)) = ((i + k : Nat) : Int) := wi_add (by omega)
      have w5 : IntKind.u64.wrap ((x : Int) * (y : Int)) = ((x * y : Nat) : Int) := w64_mul (by omega)
      have w6 : IntKind.u64.wrap ((v : Int) + ((x * y : Nat) : Int)) = ((v + x * y : Nat) : Int) := w64_add (by omega)
      have hset := ns_set .u64 d' (i + k) (v + x * y)
      have hn := num_set (B := 65536) (v + x * y) hv
      refine ⟨abkI a b (d'.set (i + k) (v + x * y)) i ((k + 1 : Nat) : Int) [], ?_, d'.set (i + k) (v + x * y), rfl, by rw [List.length_set]; exact h2, ?_, ?_⟩
      · have e5 : (((i + k : Nat) : Int) < 32) = True := eq_true (by omega)
        have e7 : (i + k ≤ 31) = True := eq_true (by omega)
        generalize d'.set (i + k) (v + x * y) = D' at *
        generalize v + x * y = u at *
        generalize x * y = xy at *
        generalize i + k = j at *
        generalize k + 1 = k1 at *
        simp only [abkI, a67_l0, envOf, evCode_skip, evCode_exit, evCode_seq, fs_blockS, fs_blockR, fs_blockC, fs_blockK, fs_blockB, evCode_ret, quiet, keep_nil, keep_cons, fs_cond, fs_region, fs_regionQ, quiet2_eq, lastOf_nil, lastOf_cons, List.take_succ_cons, List.take_zero, List.drop_succ_cons, List.drop_zero, Int.reduceBEq, Int.reduceBNe,  fs_nil, fs_guard, fs_move, fs_pick, fs_alloc, fs_box, fs_load, fs_store, fs_bin, fs_eqv, fs_isNil, fs_un, fs_conv, fs_convStr, fs_field, fs_index, fs_indexStr, fs_build, fs_buildSlice, fs_fieldAddr, fs_indexAddr, fs_indexSl, fs_sliceArr, fs_sliceSl, fs_sliceStr, fs_makeSlice, fs_extract, fs_mkIface, fs_mkFunc, fs_nilCheck, fs_s2ap, fs_len, fs_minmax, fs_s2b, fs_b2s, fs_append, fs_copy, fs_callW, fs_callR, fs_callv, opd_tmp, opd_const, opd_func, opds_nil, opds_cons, opdOpt_none, opdOpt_some, opdParts_nil, opdParts_cons, get_miss, vPick_t, vPick_f, vEq_agg, vEq_aggN, vEq_bool, vEq_boolN, vConv_int, vStr_s, vField_agg, vIndex_agg, vIndexStr_s, vFieldAddr_p, vIndexAddr_p, vIndexSl_s, vSliceArr_p, vSliceSl_s, vSliceSl_n, vSliceStr_s, vExtract_t, vNilCheck_p, vS2ap_s, vLen_s, vLen_str, vMin_i, vMax_i, vLoad_p, vStore_p, baseP_p, vB2s_s, vMake_i, vS2b_s, callee_f, liveAt_eq, storeAt_eq, partL_none, partL_some, natIn_none, natIn_int, bounds3_two, bin_add, bin_sub, bin_mul, bin_quo, bin_rem, bin_and, bin_or, bin_xor, bin_andNot, bin_eql, bin_neq, bin_lss, bin_leq, bin_gtr, bin_geq, bin_shl, bin_shr, bin_sadd, bin_seql, bin_sneq, un_not, un_neg, un_xor, after_some, put_some, put_none, res_nil, res_val, res_var, packed_one, packed_two, merge_nil, merge_ge, rf_tup2, rfIn_int, rfIn_bool, rfIn_u8s, rf_str, rfIn_str, ↓gate_true, gd_bool, gd_ut, gd_uf, ↓guardV_tt, ↓guardV_ff, ↓guardV_tf, ↓guardV_ft, ↓keepV_some, ↓qElse_some, ↓get_hit, ↓Option.bind_some, ↓if_true, ↓if_false, List.nil_append, List.cons_append, List.all_nil, List.all_cons, List.isEmpty_nil, reduceCtorEq, Bool.false_eq_true, Nat.reduceEqDiff, beq_self_eq_true, bne_self_eq_false, Bool.not_true, Bool.not_false, Int.natCast_nonneg, Nat.lt_irrefl, false_and, Int.reduceEq, rf_int, rf_bool, rf_tuple_ints, rf_u8s, arr_list, toList2, Bool.and_self, Nat.not_lt_zero, Nat.sub_zero, Nat.zero_le, Nat.le_add_right, cells_agg, cells_agg_size, cells_int, cells_int_size, okV_int, okV_bool, okV_str, okV_agg, okV_ptr, okV_slice, okV_func, okV_nilFunc, okV_iface, okV_nilIface, cells_bool, cells_bool_size, cells_ptr, cells_ptr_size, cells_slice, cells_slice_size, cells_str, cells_str_size, eq_self, wrapI64_small, Int.natCast_zero, Int.natCast_one, Int.cast_ofNat_Int, List.length_nil, List.length_cons, List.getElem?_cons_zero, List.getElem?_cons_succ, List.set_cons_zero, List.set_cons_succ, Nat.zero_add, Nat.add_zero, Nat.mul_one, Nat.zero_mul, Int.toNat_natCast, Int.toNat_zero, Int.lt_irrefl, Int.le_refl, Nat.le_refl, and_self, true_and, and_true, decide_true, decide_false, Int.reduceLE, Int.reduceLT, Int.reduceAdd, Int.reduceMul, Int.reduceSub, Int.reduceTDiv, Int.reduceTMod, Int.reduceNeg, Int.reduceToNat, Int.reduceGT, Int.reduceGE, Int.reducePow, Nat.reduceAdd, Nat.reduceMul, Nat.reduceSub, Nat.reduceDiv, Nat.reduceMod, Nat.reducePow, Nat.reduceLT, Nat.reduceLeDiff, Nat.min_self, ge_iff_le, gt_iff_lt, Option.isNone_none, Option.isSome_none, Option.isNone_some, Option.isSome_some, Bool.and_true, Bool.true_and, Bool.and_false, Bool.false_and, not_true_eq_false, not_false_eq_true, or_true, true_or, false_or, or_false, hget0, hgetK, hset0, hsetK, splice_single, splice_whole, take_whole, List.getElem?_nil, List.length_append, List.append_assoc, e1, e3, e5, e7, w1, w2, w5, w6, hxc, hyc, hvc, hset, ns_len, h2, l1, l2]
      · intro z hz
        rcases List.mem_or_eq_of_mem_set hz with h | h
        · exact Nat.le_trans (h3 z h) (Nat.mul_le_mul_right _ (Nat.le_succ _))
        · omega
      · rw [num_take hy]
        have e8 : (v + x * y) * 65536 ^ (i + k) = v * 65536 ^ (i + k) + x * y * 65536 ^ k * 65536 ^ i := by
          rw [Nat.add_mul, Nat.mul_assoc (x * y), ← Nat.pow_add, Nat.add_comm k i]
        rw [Nat.mul_add, Nat.add_mul, ← Nat.mul_assoc x y]
        omega)
    (fun st hs => by
      obtain ⟨d', rfl, h2, h3, h4⟩ := hs
      rw [List.take_of_length_le (by rw [hb.len]; omega)] at h4
      refine ⟨_, ?_, d', rfl, h2, h3, h4⟩
      simp only [abkI, a67_l0, envOf, evCode_skip, evCode_exit, evCode_seq, fs_blockS, fs_blockR, fs_blockC, fs_blockK, fs_blockB, evCode_ret, quiet, keep_nil, keep_cons, fs_cond, fs_region, fs_regionQ, quiet2_eq, lastOf_nil, lastOf_cons, List.take_succ_cons, List.take_zero, List.drop_succ_cons, List.drop_zero, Int.reduceBEq, Int.reduceBNe,  fs_nil, fs_guard, fs_move, fs_pick, fs_alloc, fs_box, fs_load, fs_store, fs_bin, fs_eqv, fs_isNil, fs_un, fs_conv, fs_convStr, fs_field, fs_index, fs_indexStr, fs_build, fs_buildSlice, fs_fieldAddr, fs_indexAddr, fs_indexSl, fs_sliceArr, fs_sliceSl, fs_sliceStr, fs_makeSlice, fs_extract, fs_mkIface, fs_mkFunc, fs_nilCheck, fs_s2ap, fs_len, fs_minmax, fs_s2b, fs_b2s, fs_append, fs_copy, fs_callW, fs_callR, fs_callv, opd_tmp, opd_const, opd_func, opds_nil, opds_cons, opdOpt_none, opdOpt_some, opdParts_nil, opdParts_cons, get_miss, vPick_t, vPick_f, vEq_agg, vEq_aggN, vEq_bool, vEq_boolN, vConv_int, vStr_s, vField_agg, vIndex_agg, vIndexStr_s, vFieldAddr_p, vIndexAddr_p, vIndexSl_s, vSliceArr_p, vSliceSl_s, vSliceSl_n, vSliceStr_s, vExtract_t, vNilCheck_p, vS2ap_s, vLen_s, vLen_str, vMin_i, vMax_i, vLoad_p, vStore_p, baseP_p, vB2s_s, vMake_i, vS2b_s, callee_f, liveAt_eq, storeAt_eq, partL_none, partL_some, natIn_none, natIn_int, bounds3_two, bin_add, bin_sub, bin_mul, bin_quo, bin_rem, bin_and, bin_or, bin_xor, bin_andNot, bin_eql, bin_neq, bin_lss, bin_leq, bin_gtr, bin_geq, bin_shl, bin_shr, bin_sadd, bin_seql, bin_sneq, un_not, un_neg, un_xor, after_some, put_some, put_none, res_nil, res_val, res_var, packed_one, packed_two, merge_nil, merge_ge, rf_tup2, rfIn_int, rfIn_bool, rfIn_u8s, rf_str, rfIn_str, ↓gate_true, gd_bool, gd_ut, gd_uf, ↓guardV_tt, ↓guardV_ff, ↓guardV_tf, ↓guardV_ft, ↓keepV_some, ↓qElse_some, ↓get_hit, ↓Option.bind_some, ↓if_true, ↓if_false, List.nil_append, List.cons_append, List.all_nil, List.all_cons, List.isEmpty_nil, reduceCtorEq, Bool.false_eq_true, Nat.reduceEqDiff, beq_self_eq_true, bne_self_eq_false, Bool.not_true, Bool.not_false, Int.natCast_nonneg, Nat.lt_irrefl, false_and, Int.reduceEq, rf_int, rf_bool, rf_tuple_ints, rf_u8s, arr_list, toList2, Bool.and_self, Nat.not_lt_zero, Nat.sub_zero, Nat.zero_le, Nat.le_add_right, cells_agg, cells_agg_size, cells_int, cells_int_size, okV_int, okV_bool, okV_str, okV_agg, okV_ptr, okV_slice, okV_func, okV_nilFunc, okV_iface, okV_nilIface, cells_bool, cells_bool_size, cells_ptr, cells_ptr_size, cells_slice, cells_slice_size, cells_str, cells_str_size, eq_self, wrapI64_small, Int.natCast_zero, Int.natCast_one, Int.cast_ofNat_Int, List.length_nil, List.length_cons, List.getElem?_cons_zero, List.getElem?_cons_succ, List.set_cons_zero, List.set_cons_succ, Nat.zero_add, Nat.add_zero, Nat.mul_one, Nat.zero_mul, Int.toNat_natCast, Int.toNat_zero, Int.lt_irrefl, Int.le_refl, Nat.le_refl, and_self, true_and, and_true, decide_true, decide_false, Int.reduceLE, Int.reduceLT, Int.reduceAdd, Int.reduceMul, Int.reduceSub, Int.reduceTDiv, Int.reduceTMod, Int.reduceNeg, Int.reduceToNat, Int.reduceGT, Int.reduceGE, Int.reducePow, Nat.reduceAdd, Nat.reduceMul, Nat.reduceSub, Nat.reduceDiv, Nat.reduceMod, Nat.reducePow, Nat.reduceLT, Nat.reduceLeDiff, Nat.min_self, ge_iff_le, gt_iff_lt, Option.isNone_none, Option.isSome_none, Option.isNone_some, Option.isSome_some, Bool.and_true, Bool.true_and, Bool.and_false, Bool.false_and, not_true_eq_false, not_false_eq_true, or_true, true_or, false_or, or_false])
  exact ⟨d', hl, h2, h3, h4⟩
theorem rmul_block {a b : List Nat} (ha : Nm a) (hb : Nm b) :
    ∃ d, evCode T 0 (.block 0 (.loop a67_l1)) (abI a b zero32 0 []) = some (.normal, abI a b d 16 [(9, .bool false)]) ∧ d.length = 32 ∧ (∀ x ∈ d, x < 2 ^ 44) ∧ num 65536 d = num 65536 a * num 65536 b := by
  obtain ⟨st, hl, o, rfl, h1, h2, h3⟩ := block_inv (T := T) (base := 0) (id := 0) (body := a67_l1)
    (fun i st => ∃ (o : List Nat) (ex : Env), st = abI a b o i ex ∧ o.length = 32 ∧ (∀ x ∈ o, x ≤ (i * 16) * 4294967296) ∧ num 65536 o = num 65536 (a.take i) * num 65536 b)
    (Q := fun st => ∃ o : List Nat, st = abI a b o 16 [(9, .bool false)] ∧ o.length = 32 ∧ (∀ x ∈ o, x < 2 ^ 44) ∧ num 65536 o = num 65536 a * num 65536 b)
    16 (s := abI a b zero32 0 []) ⟨zero32, [], rfl, rfl, by decide, by simp [num]; decide⟩
    (fun i st hi hs => by
      obtain ⟨o, ex, rfl, h1, h2, h3⟩ := hs
      obtain ⟨x, hx⟩ : ∃ x, a[i]? = some x := ⟨_, List.getElem?_eq_getElem (by rw [ha.len]; omega)⟩
      obtain ⟨d', hb', g1, g2, g3⟩ := rmul_inner ha hb hi hx h1 h2 (by omega)
      simp only [abkI, List.cons_append, List.nil_append, Int.natCast_zero] at hb'
      have w1 : IntKind.i64.wrap ((i : Int) + 1) = ((i + 1 : Nat) : Int) := wi_add (b := 1) (by omega)
      have e1 : ((i : Int) < 16) = True := eq_true (by omega)
      refine ⟨abI a b d' ((i + 1 : Nat) : Int) [], ?_, d', [], rfl, g1, ?_, ?_⟩
      · simp only [abI, a67_l1, envOf, evCode_skip, evCode_exit, evCode_seq, fs_blockS, fs_blockR, fs_blockC, fs_blockK, fs_blockB, evCode_ret, quiet, keep_nil, keep_cons, fs_cond, fs_region, fs_regionQ, quiet2_eq, lastOf_nil, lastOf_cons, List.take_succ_cons, List.take_zero, List.drop_succ_cons, List.drop_zero, Int.reduceBEq, Int.reduceBNe,  fs_nil, fs_guard, fs_move, fs_pick, fs_alloc, fs_box, fs_load, fs_store, fs_bin, fs_eqv, fs_isNil, fs_un, fs_conv, fs_convStr, fs_field, fs_index, fs_indexStr, fs_build, fs_buildSlice, fs_fieldAddr, fs_indexAddr, fs_indexSl, fs_sliceArr, fs_sliceSl, fs_sliceStr, fs_makeSlice, fs_extract, fs_mkIface, fs_mkFunc, fs_nilCheck, fs_s2ap, fs_len, fs_minmax, fs_s2b, fs_b2s, fs_append, fs_copy, fs_callW, fs_callR, fs_callv, opd_tmp, opd_const, opd_func, opds_nil, opds_cons, opdOpt_none, opdOpt_some, opdParts_nil, opdParts_cons, get_miss, vPick_t, vPick_f, vEq_agg, vEq_aggN, vEq_bool, vEq_boolN, vConv_int, vStr_s, vField_agg, vIndex_agg, vIndexStr_s, vFieldAddr_p, vIndexAddr_p, vIndexSl_s, vSliceArr_p, vSliceSl_s, vSliceSl_n, vSliceStr_s, vExtract_t, vNilCheck_p, vS2ap_s, vLen_s, vLen_str, vMin_i, vMax_i, vLoad_p, vStore_p, baseP_p, vB2s_s, vMake_i, vS2b_s, callee_f, liveAt_eq, storeAt_eq, partL_none, partL_some, natIn_none, natIn_int, bounds3_two, bin_add, bin_sub, bin_mul, bin_quo, bin_rem, bin_and, bin_or, bin_xor, bin_andNot, bin_eql, bin_neq, bin_lss, bin_leq, bin_gtr, bin_geq, bin_shl, bin_shr, bin_sadd, bin_seql, bin_sneq, un_not, un_neg, un_xor, after_some, put_some, put_none, res_nil, res_val, res_var, packed_one, packed_two, merge_nil, merge_ge, rf_tup2, rfIn_int, rfIn_bool, rfIn_u8s, rf_str, rfIn_str, ↓gate_true, gd_bool, gd_ut, gd_uf, ↓guardV_tt, ↓guardV_ff, ↓guardV_tf, ↓guardV_ft, ↓keepV_some, ↓qElse_some, ↓get_hit, ↓Option.bind_some, ↓if_true, ↓if_false, List.nil_append, List.cons_append, List.all_nil, List.all_cons, List.isEmpty_nil, reduceCtorEq, Bool.false_eq_true, Nat.reduceEqDiff, beq_self_eq_true, bne_self_eq_false, Bool.not_true, Bool.not_false, Int.natCast_nonneg, Nat.lt_irrefl, false_and, Int.reduceEq, rf_int, rf_bool, rf_tuple_ints, rf_u8s, arr_list, toList2, Bool.and_self, Nat.not_lt_zero, Nat.sub_zero, Nat.zero_le, Nat.le_add_right, cells_agg, cells_agg_size, cells_int, cells_int_size, okV_int, okV_bool, okV_str, okV_agg, okV_ptr, okV_slice, okV_func, okV_nilFunc, okV_iface, okV_nilIface, cells_bool, cells_bool_size, cells_ptr, cells_ptr_size, cells_slice, cells_slice_size, cells_str, cells_str_size, eq_self, wrapI64_small, Int.natCast_zero, Int.natCast_one, Int.cast_ofNat_Int, List.length_nil, List.length_cons, List.getElem?_cons_zero, List.getElem?_cons_succ, List.set_cons_zero, List.set_cons_succ, Nat.zero_add, Nat.add_zero, Nat.mul_one, Nat.zero_mul, Int.toNat_natCast, Int.toNat_zero, Int.lt_irrefl, Int.le_refl, Nat.le_refl, and_self, true_and, and_true, decide_true, decide_false, Int.reduceLE, Int.reduceLT, Int.reduceAdd, Int.reduceMul, Int.reduceSub, Int.reduceTDiv, Int.reduceTMod, Int.reduceNeg, Int.reduceToNat, Int.reduceGT, Int.reduceGE, Int.reducePow, Nat.reduceAdd, Nat.reduceMul, Nat.reduceSub, Nat.reduceDiv, Nat.reduceMod, Nat.reducePow, Nat.reduceLT, Nat.reduceLeDiff, Nat.min_self, ge_iff_le, gt_iff_lt, Option.isNone_none, Option.isSome_none, Option.isNone_some, Option.isSome_some, Bool.and_true, Bool.true_and, Bool.and_false, Bool.false_and, not_true_eq_false, not_false_eq_true, or_true, true_or, false_or, or_false, hget0, hgetK, hset0, hsetK, splice_single, splice_whole, take_whole, List.getElem?_nil, List.length_append, List.append_assoc, e1, w1, hb']
      · intro z hz
        exact Nat.le_trans (g2 z hz) (Nat.mul_le_mul_right _ (by omega))
      · rw [g3, h3, num_take hx, Nat.add_mul, Nat.mul_assoc, Nat.mul_assoc, Nat.mul_comm (num 65536 b) (65536 ^ i)])
    (fun st hs => by
      obtain ⟨o, ex, rfl, h1, h2, h3⟩ := hs
      rw [List.take_of_length_le (by rw [ha.len]; omega)] at h3
      refine ⟨_, ?_, o, rfl, h1, fun x hx => Nat.lt_of_le_of_lt (h2 x hx) (by decide), h3⟩
      simp only [abI, a67_l1, envOf, evCode_skip, evCode_exit, evCode_seq, fs_blockS, fs_blockR, fs_blockC, fs_blockK, fs_blockB, evCode_ret, quiet, keep_nil, keep_cons, fs_cond, fs_region, fs_regionQ, quiet2_eq, lastOf_nil, lastOf_cons, List.take_succ_cons, List.take_zero, List.drop_succ_cons, List.drop_zero, Int.reduceBEq, Int.reduceBNe,  fs_nil, fs_guard, fs_move, fs_pick, fs_alloc, fs_box, fs_load, fs_store, fs_bin, fs_eqv, fs_isNil, fs_un, fs_conv, fs_convStr, fs_field, fs_index, fs_indexStr, fs_build, fs_buildSlice, fs_fieldAddr, fs_indexAddr, fs_indexSl, fs_sliceArr, fs_sliceSl, fs_sliceStr, fs_makeSlice, fs_extract, fs_mkIface, fs_mkFunc, fs_nilCheck, fs_s2ap, fs_len, fs_minmax, fs_s2b, fs_b2s, fs_append, fs_copy, fs_callW, fs_callR, fs_callv, opd_tmp, opd_const, opd_func, opds_nil, opds_cons, opdOpt_none, opdOpt_some, opdParts_nil, opdParts_cons, get_miss, vPick_t, vPick_f, vEq_agg, vEq_aggN, vEq_bool, vEq_boolN, vConv_int, vStr_s, vField_agg, vIndex_agg, vIndexStr_s, vFieldAddr_p, vIndexAddr_p, vIndexSl_s, vSliceArr_p, vSliceSl_s, vSliceSl_n, vSliceStr_s, vExtract_t, vNilCheck_p, vS2ap_s, vLen_s, vLen_str, vMin_i, vMax_i, vLoad_p, vStore_p, baseP_p, vB2s_s, vMake_i, vS2b_s, callee_f, liveAt_eq, storeAt_eq, partL_none, partL_some, natIn_none, natIn_int, bounds3_two, bin_add, bin_sub, bin_mul, bin_quo, bin_rem, bin_and, bin_or, bin_xor, bin_andNot, bin_eql, bin_neq, bin_lss, bin_leq, bin_gtr, bin_geq, bin_shl, bin_shr, bin_sadd, bin_seql, bin_sneq, un_not, un_neg, un_xor, after_some, put_some, put_none, res_nil, res_val, res_var, packed_one, packed_two, merge_nil, merge_ge, rf_tup2, rfIn_int, rfIn_bool, rfIn_u8s, rf_str, rfIn_str, ↓gate_true, gd_bool, gd_ut, gd_uf, ↓guardV_tt, ↓guardV_ff, ↓guardV_tf, ↓guardV_ft, ↓keepV_some, ↓qElse_some, ↓get_hit, ↓Option.bind_some, ↓if_true, ↓if_false, List.nil_append, List.cons_append, List.all_nil, List.all_cons, List.isEmpty_nil, reduceCtorEq, Bool.false_eq_true, Nat.reduceEqDiff, beq_self_eq_true, bne_self_eq_false, Bool.not_true, Bool.not_false, Int.natCast_nonneg, Nat.lt_irrefl, false_and, Int.reduceEq, rf_int, rf_bool, rf_tuple_ints, rf_u8s, arr_list, toList2, Bool.and_self, Nat.not_lt_zero, Nat.sub_zero, Nat.zero_le, Nat.le_add_right, cells_agg, cells_agg_size, cells_int, cells_int_size, okV_int, okV_bool, okV_str, okV_agg, okV_ptr, okV_slice, okV_func, okV_nilFunc, okV_iface, okV_nilIface, cells_bool, cells_bool_size, cells_ptr, cells_ptr_size, cells_slice, cells_slice_size, cells_str, cells_str_size, eq_self, wrapI64_small, Int.natCast_zero, Int.natCast_one, Int.cast_ofNat_Int, List.length_nil, List.length_cons, List.getElem?_cons_zero, List.getElem?_cons_succ, List.set_cons_zero, List.set_cons_succ, Nat.zero_add, Nat.add_zero, Nat.mul_one, Nat.zero_mul, Int.toNat_natCast, Int.toNat_zero, Int.lt_irrefl, Int.le_refl, Nat.le_refl, and_self, true_and, and_true, decide_true, decide_false, Int.reduceLE, Int.reduceLT, Int.reduceAdd, Int.reduceMul, Int.reduceSub, Int.reduceTDiv, Int.reduceTMod, Int.reduceNeg, Int.reduceToNat, Int.reduceGT, Int.reduceGE, Int.reducePow, Nat.reduceAdd, Nat.reduceMul, Nat.reduceSub, Nat.reduceDiv, Nat.reduceMod, Nat.reducePow, Nat.reduceLT, Nat.reduceLeDiff, Nat.min_self, ge_iff_le, gt_iff_lt, Option.isNone_none, Option.isSome_none, Option.isNone_some, Option.isSome_some, Bool.and_true, Bool.true_and, Bool.and_false, Bool.false_and, not_true_eq_false, not_false_eq_true, or_true, true_or, false_or, or_false])
  exact ⟨o, hl, h1, h2, h3⟩
theorem rmul_v {a b : List Nat} (ha : Nm a) (hb : Nm b) : ∃ r, evVal T 67 [eV a, eV b] = some (eV r) ∧ Nm r ∧ nf r = nf a * nf b := by
  obtain ⟨d, hd, l1, h2, h3⟩ := rmul_block ha hb
  have hal := ha.num_lt
  have hbl := hb.num_lt
  obtain ⟨r, hr, hN, hf⟩ := rfold_v l1 h2 (by
    rw [h3]
    have e : (65536 : Nat) ^ 32 = 2 ^ 256 * 2 ^ 256 := by decide
    rw [e]
    exact Nat.mul_lt_mul'' hal hbl)
  refine ⟨r, ?_, hN, by rw [hf, h3, Go.Fp.fp_mul]; rfl⟩
  simp only [abI, List.cons_append, List.nil_append, Int.natCast_zero] at hd
  have hz := z16_eq
  have lz := z16_len
  have hz2 := z32u_eq
  have lz2 := z32u_len
  have la := ha.len
  have lb := hb.len
  have lr := hN.len
  generalize zero16 = Z at *
  generalize zero32 = Z2 at *
  apply evVal_ex
  apply Exists.intro
  rw [evFun_fn (fn := a67) rfl]
  simp only [a67, ↓steps_chunk, envOf, evCode_skip, evCode_exit, evCode_seq, fs_blockS, fs_blockR, fs_blockC, fs_blockK, fs_blockB, evCode_ret, quiet, keep_nil, keep_cons, fs_cond, fs_region, fs_regionQ, quiet2_eq, lastOf_nil, lastOf_cons, List.take_succ_cons, List.take_zero, List.drop_succ_cons, List.drop_zero, Int.reduceBEq, Int.reduceBNe,  fs_nil, fs_guard, fs_move, fs_pick, fs_alloc, fs_box, fs_load, fs_store, fs_bin, fs_eqv, fs_isNil, fs_un, fs_conv, fs_convStr, fs_field, fs_index, fs_indexStr, fs_build, fs_buildSlice, fs_fieldAddr, fs_indexAddr, fs_indexSl, fs_sliceArr, fs_sliceSl, fs_sliceStr, fs_makeSlice, fs_extract, fs_mkIface, fs_mkFunc, fs_nilCheck, fs_s2ap, fs_len, fs_minmax, fs_s2b, fs_b2s, fs_append, fs_copy, fs_callW, fs_callR, fs_callv, opd_tmp, opd_const, opd_func, opds_nil, opds_cons, opdOpt_none, opdOpt_some, opdParts_nil, opdParts_cons, get_miss, vPick_t, vPick_f, vEq_agg, vEq_aggN, vEq_bool, vEq_boolN, vConv_int, vStr_s, vField_agg, vIndex_agg, vIndexStr_s, vFieldAddr_p, vIndexAddr_p, vIndexSl_s, vSliceArr_p, vSliceSl_s, vSliceSl_n, vSliceStr_s, vExtract_t, vNilCheck_p, vS2ap_s, vLen_s, vLen_str, vMin_i, vMax_i, vLoad_p, vStore_p, baseP_p, vB2s_s, vMake_i, vS2b_s, callee_f, liveAt_eq, storeAt_eq, partL_none, partL_some, natIn_none, natIn_int, bounds3_two, bin_add, bin_sub, bin_mul, bin_quo, bin_rem, bin_and, bin_or, bin_xor, bin_andNot, bin_eql, bin_neq, bin_lss, bin_leq, bin_gtr, bin_geq, bin_shl, bin_shr, bin_sadd, bin_seql, bin_sneq, un_not, un_neg, un_xor, after_some, put_some, put_none, res_nil, res_val, res_var, packed_one, packed_two, merge_nil, merge_ge, rf_tup2, rfIn_int, rfIn_bool, rfIn_u8s, rf_str, rfIn_str, ↓gate_true, gd_bool, gd_ut, gd_uf, ↓guardW_tt, ↓guardW_ff, ↓guardW_tf, ↓guardW_ft, ↓keepW_some, ↓qElseW_some, ↓get_hit, ↓Option.bind_some, ↓if_true, ↓if_false, List.nil_append, List.cons_append, List.all_nil, List.all_cons, List.isEmpty_nil, reduceCtorEq, Bool.false_eq_true, Nat.reduceEqDiff, beq_self_eq_true, bne_self_eq_false, Bool.not_true, Bool.not_false, Int.natCast_nonneg, Nat.lt_irrefl, false_and, Int.reduceEq, rf_int, rf_bool, rf_tuple_ints, rf_u8s, arr_list, toList2, Bool.and_self, Nat.not_lt_zero, Nat.sub_zero, Nat.zero_le, Nat.le_add_right, cells_agg, cells_agg_size, cells_int, cells_int_size, okV_int, okV_bool, okV_str, okV_agg, okV_ptr, okV_slice, okV_func, okV_nilFunc, okV_iface, okV_nilIface, cells_bool, cells_bool_size, cells_ptr, cells_ptr_size, cells_slice, cells_slice_size, cells_str, cells_str_size, eq_self, wrapI64_small, Int.natCast_zero, Int.natCast_one, Int.cast_ofNat_Int, List.length_nil, List.length_cons, List.getElem?_cons_zero, List.getElem?_cons_succ, List.set_cons_zero, List.set_cons_succ, Nat.zero_add, Nat.add_zero, Nat.mul_one, Nat.zero_mul, Int.toNat_natCast, Int.toNat_zero, Int.lt_irrefl, Int.le_refl, Nat.le_refl, and_self, true_and, and_true, decide_true, decide_false, Int.reduceLE, Int.reduceLT, Int.reduceAdd, Int.reduceMul, Int.reduceSub, Int.reduceTDiv, Int.reduceTMod, Int.reduceNeg, Int.reduceToNat, Int.reduceGT, Int.reduceGE, Int.reducePow, Nat.reduceAdd, Nat.reduceMul, Nat.reduceSub, Nat.reduceDiv, Nat.reduceMod, Nat.reducePow, Nat.reduceLT, Nat.reduceLeDiff, Nat.min_self, ge_iff_le, gt_iff_lt, Option.isNone_none, Option.isSome_none, Option.isNone_some, Option.isSome_some, Bool.and_true, Bool.true_and, Bool.and_false, Bool.false_and, not_true_eq_false, not_false_eq_true, or_true, true_or, false_or, or_false, hget0, hgetK, hset0, hsetK, splice_single, splice_whole, take_whole, List.getElem?_nil, List.length_append, List.append_assoc, hz, hz2, hd, hr, List.length_replicate, take_all, eV_cells, eV_size, eV_ok, eV_fold, ns_len, la, lb, l1, lr, lz, lz2, rf_eV]
  rfl
end Go.Ev.Ytaceeoghjgggjaa
set_option linter.unusedSimpArgs false
set_option linter.unusedVariables false
namespace Go.Ev.Ytaceeoghjgggjaa
open Go Go.Ev
attribute [local congr] bind_congr2 ite_congr2 qElse_congr gate_congr guardV_congr
set_option maxRecDepth 100000
def rpH (a n o : List Nat) : List Ob := [⟨ns .u64 a, true, true, true, 1⟩, ⟨ns .u64 n, true, true, true, 1⟩, ⟨ns .u64 zero16, true, true, true, 1⟩, ⟨ns .u64 o, true, true, true, 1⟩]
def rpI (a n o : List Nat) (i : Int) (ex : Env) : St := ⟨[(2, .pointer (some ⟨0, 0, none⟩)), (3, .pointer (some ⟨1, 0, none⟩)), (4, .pointer (some ⟨2, 0, none⟩)), (5, .pointer (some ⟨3, 0, none⟩)), (6, .int .i64 i)] ++ ex, rpH a n o, []⟩
def rbI (a n o : List Nat) (i : Int) (w k : Nat) (ex : Env) : St := ⟨[(2, .pointer (some ⟨0, 0, none⟩)), (3, .pointer (some ⟨1, 0, none⟩)), (4, .pointer (some ⟨2, 0, none⟩)), (5, .pointer (some ⟨3, 0, none⟩)), (6, .int .i64 i), (7, .int .u64 w), (8, .int .i64 k)] ++ ex, rpH a n o, []⟩
theorem rb_block {a n o : List Nat} {i w : Nat} (hi : i < 256) (hw : w < 65536) :
    evCode T 0 (.block 2 (.loop a88_l0)) (rbI a n o i w 0 []) = some (.normal, rbI a n o i (w / 2 ^ (i % 16)) (i % 16) [(24, .bool false)]) := by
  have e3 : (i : Int).tmod 16 = ((i % 16 : Nat) : Int) := rfl
  have h := block_loop (T := T) (base := 0) (id := 2) (body := a88_l0) (fun k => rbI a n o i (w / 2 ^ k) k []) (s' := rbI a n o i (w / 2 ^ (i % 16)) (i % 16) [(24, .bool false)]) (i % 16)
    (fun k hk => by
      have h16 := Nat.mod_lt i (by decide : 0 < 16)
      have e1 : ((k : Int) < ((i % 16 : Nat) : Int)) = True := eq_true (by omega)
      have w1 : IntKind.i64.wrap ((k : Int) + 1) = ((k + 1 : Nat) : Int) := wi_add (b := 1) (by omega)
      have hle : w / 2 ^ k ≤ w := Nat.div_le_self _ _
      have w2 : IntKind.u64.wrap (((w / 2 ^ k : Nat) : Int).tdiv 2) = ((w / 2 ^ k / 2 : Nat) : Int) := w64n (n := w / 2 ^ k / 2) (by omega)
      rw [Nat.pow_succ, ← Nat.div_div_eq_div_mul]
      generalize w / 2 ^ k = v at *
      generalize v / 2 = u at *
      generalize i % 16 = m at *
      simp only [rbI, rpH, a88_l0, envOf, evCode_skip, evCode_exit, evCode_seq, fs_blockS, fs_blockR, fs_blockC, fs_blockK, fs_blockB, evCode_ret, quiet, keep_nil, keep_cons, fs_cond, fs_region, fs_regionQ, quiet2_eq, lastOf_nil, lastOf_cons, List.take_succ_cons, List.take_zero, List.drop_succ_cons, List.drop_zero, Int.reduceBEq, Int.reduceBNe,  fs_nil, fs_guard, fs_move, fs_pick, fs_alloc, fs_box, fs_load, fs_store, fs_bin, fs_eqv, fs_isNil, fs_un, fs_conv, fs_convStr, fs_field, fs_index, fs_indexStr, fs_build, fs_buildSlice, fs_fieldAddr, fs_indexAddr, fs_indexSl, fs_sliceArr, fs_sliceSl, fs_sliceStr, fs_makeSlice, fs_extract, fs_mkIface, fs_mkFunc, fs_nilCheck, fs_s2ap, fs_len, fs_minmax, fs_s2b, fs_b2s, fs_append, fs_copy, fs_callW, fs_callR, fs_callv, opd_tmp, opd_const, opd_func, opds_nil, opds_cons, opdOpt_none, opdOpt_some, opdParts_nil, opdParts_cons, get_miss, vPick_t, vPick_f, vEq_agg, vEq_aggN, vEq_bool, vEq_boolN, vConv_int, vStr_s, vField_agg, vIndex_agg, vIndexStr_s, vFieldAddr_p, vIndexAddr_p, vIndexSl_s, vSliceArr_p, vSliceSl_s, vSliceSl_n, vSliceStr_s, vExtract_t, vNilCheck_p, vS2ap_s, vLen_s, vLen_str, vMin_i, vMax_i, vLoad_p, vStore_p, baseP_p, vB2s_s, vMake_i, vS2b_s, callee_f, liveAt_eq, storeAt_eq, partL_none, partL_some, natIn_none, natIn_int, bounds3_two, bin_add, bin_sub, bin_mul, bin_quo, bin_rem, bin_and, bin_or, bin_xor, bin_andNot, bin_eql, bin_neq, bin_lss, bin_leq, bin_gtr, bin_geq, bin_shl, bin_shr, bin_sadd, bin_seql, bin_sneq, un_not, un_neg, un_xor, after_some, put_some, put_none, res_nil, res_val, res_var, packed_one, packed_two, merge_nil, merge_ge, rf_tup2, rfIn_int, rfIn_bool, rfIn_u8s, rf_str, rfIn_str, ↓gate_true, gd_bool, gd_ut, gd_uf, ↓guardV_tt, ↓guardV_ff, ↓guardV_tf, ↓guardV_ft, ↓keepV_some, ↓qElse_some, ↓get_hit, ↓Option.bind_some, ↓if_true, ↓if_false, List.nil_append, List.cons_append, List.all_nil, List.all_cons, List.isEmpty_nil, reduceCtorEq, Bool.false_eq_true, Nat.reduceEqDiff, beq_self_eq_true, bne_self_eq_false, Bool.not_true, Bool.not_false, Int.natCast_nonneg, Nat.lt_irrefl, false_and, Int.reduceEq, rf_int, rf_bool, rf_tuple_ints, rf_u8s, arr_list, toList2, Bool.and_self, Nat.not_lt_zero, Nat.sub_zero, Nat.zero_le, Nat.le_add_right, cells_agg, cells_agg_size, cells_int, cells_int_size, okV_int, okV_bool, okV_str, okV_agg, okV_ptr, okV_slice, okV_func, okV_nilFunc, okV_iface, okV_nilIface, cells_bool, cells_bool_size, cells_ptr, cells_ptr_size, cells_slice, cells_slice_size, cells_str, cells_str_size, eq_self, wrapI64_small, Int.natCast_zero, Int.natCast_one, Int.cast_ofNat_Int, List.length_nil, List.length_cons, List.getElem?_cons_zero, List.getElem?_cons_succ, List.set_cons_zero, List.set_cons_succ, Nat.zero_add, Nat.add_zero, Nat.mul_one, Nat.zero_mul, Int.toNat_natCast, Int.toNat_zero, Int.lt_irrefl, Int.le_refl, Nat.le_refl, and_self, true_and, and_true, decide_true, decide_false, Int.reduceLE, Int.reduceLT, Int.reduceAdd, Int.reduceMul, Int.reduceSub, Int.reduceTDiv, Int.reduceTMod, Int.reduceNeg, Int.reduceToNat, Int.reduceGT, Int.reduceGE, Int.reducePow, Nat.reduceAdd, Nat.reduceMul, Nat.reduceSub, Nat.reduceDiv, Nat.reduceMod, Nat.reducePow, Nat.reduceLT, Nat.reduceLeDiff, Nat.min_self, ge_iff_le, gt_iff_lt, Option.isNone_none, Option.isSome_none, Option.isNone_some, Option.isSome_some, Bool.and_true, Bool.true_and, Bool.and_false, Bool.false_and, not_true_eq_false, not_false_eq_true, or_true, true_or, false_or, or_false, hget0, hgetK, hset0, hsetK, splice_single, splice_whole, take_whole, List.getElem?_nil, List.length_append, List.append_assoc, e1, e3, w1, w2])
    (by
      generalize w / 2 ^ (i % 16) = v at *
      generalize i % 16 = m at *
      simp only [rbI, rpH, a88_l0, envOf, evCode_skip, evCode_exit, evCode_seq, fs_blockS, fs_blockR, fs_blockC, fs_blockK, fs_blockB, evCode_ret, quiet, keep_nil, keep_cons, fs_cond, fs_region, fs_regionQ, quiet2_eq, lastOf_nil, lastOf_cons, List.take_succ_cons, List.take_zero, List.drop_succ_cons, List.drop_zero, Int.reduceBEq, Int.reduceBNe,  fs_nil, fs_guard, fs_move, fs_pick, fs_alloc, fs_box, fs_load, fs_store, fs_bin, fs_eqv, fs_isNil, fs_un, fs_conv, fs_convStr, fs_field, fs_index, fs_indexStr, fs_build, fs_buildSlice, fs_fieldAddr, fs_indexAddr, fs_indexSl, fs_sliceArr, fs_sliceSl, fs_sliceStr, fs_makeSlice, fs_extract, fs_mkIface, fs_mkFunc, fs_nilCheck, fs_s2ap, fs_len, fs_minmax, fs_s2b, fs_b2s, fs_append, fs_copy, fs_callW, fs_callR, fs_callv, opd_tmp, opd_const, opd_func, opds_nil, opds_cons, opdOpt_none, opdOpt_some, opdParts_nil, opdParts_cons, get_miss, vPick_t, vPick_f, vEq_agg, vEq_aggN, vEq_bool, vEq_boolN, vConv_int, vStr_s, vField_agg, vIndex_agg, vIndexStr_s, vFieldAddr_p, vIndexAddr_p, vIndexSl_s, vSliceArr_p, vSliceSl_s, vSliceSl_n, vSliceStr_s, vExtract_t, vNilCheck_p, vS2ap_s, vLen_s, vLen_str, vMin_i, vMax_i, vLoad_p, vStore_p, baseP_p, vB2s_s, vMake_i, vS2b_s, callee_f, liveAt_eq, storeAt_eq, partL_none, partL_some, natIn_none, natIn_int, bounds3_two, bin_add, bin_sub, bin_mul, bin_quo, bin_rem, bin_and, bin_or, bin_xor, bin_andNot, bin_eql, bin_neq, bin_lss, bin_leq, bin_gtr, bin_geq, bin_shl, bin_shr, bin_sadd, bin_seql, bin_sneq, un_not, un_neg, un_xor, after_some, put_some, put_none, res_nil, res_val, res_var, packed_one, packed_two, merge_nil, merge_ge, rf_tup2, rfIn_int, rfIn_bool, rfIn_u8s, rf_str, rfIn_str, ↓gate_true, gd_bool, gd_ut, gd_uf, ↓guardV_tt, ↓guardV_ff, ↓guardV_tf, ↓guardV_ft, ↓keepV_some, ↓qElse_some, ↓get_hit, ↓Option.bind_some, ↓if_true, ↓if_false, List.nil_append, List.cons_append, List.all_nil, List.all_cons, List.isEmpty_nil, reduceCtorEq, Bool.false_eq_true, Nat.reduceEqDiff, beq_self_eq_true, bne_self_eq_false, Bool.not_true, Bool.not_false, Int.natCast_nonneg, Nat.lt_irrefl, false_and, Int.reduceEq, rf_int, rf_bool, rf_tuple_ints, rf_u8s, arr_list, toList2, Bool.and_self, Nat.not_lt_zero, Nat.sub_zero, Nat.zero_le, Nat.le_add_right, cells_agg, cells_agg_size, cells_int, cells_int_size, okV_int, okV_bool, okV_str, okV_agg, okV_ptr, okV_slice, okV_func, okV_nilFunc, okV_iface, okV_nilIface, cells_bool, cells_bool_size, cells_ptr, cells_ptr_size, cells_slice, cells_slice_size, cells_str, cells_str_size, eq_self, wrapI64_small, Int.natCast_zero, Int.natCast_one, Int.cast_ofNat_Int, List.length_nil, List.length_cons, List.getElem?_cons_zero, List.getElem?_cons_succ, List.set_cons_zero, List.set_cons_succ, Nat.zero_add, Nat.add_zero, Nat.mul_one, Nat.zero_mul, Int.toNat_natCast, Int.toNat_zero, Int.lt_irrefl, Int.le_refl, Nat.le_refl, and_self, true_and, and_true, decide_true, decide_false, Int.reduceLE, Int.reduceLT, Int.reduceAdd, Int.reduceMul, Int.reduceSub, Int.reduceTDiv, Int.reduceTMod, Int.reduceNeg, Int.reduceToNat, Int.reduceGT, Int.reduceGE, Int.reducePow, Nat.reduceAdd, Nat.reduceMul, Nat.reduceSub, Nat.reduceDiv, Nat.reduceMod, Nat.reducePow, Nat.reduceLT, Nat.reduceLeDiff, Nat.min_self, ge_iff_le, gt_iff_lt, Option.isNone_none, Option.isSome_none, Option.isNone_some, Option.isSome_some, Bool.and_true, Bool.true_and, Bool.and_false, Bool.false_and, not_true_eq_false, not_false_eq_true, or_true, true_or, false_or, or_false, hget0, hgetK, hset0, hsetK, splice_single, splice_whole, take_whole, List.getElem?_nil, List.length_append, List.append_assoc, e3])
  rw [Nat.pow_zero, Nat.div_one] at h
  exact h
theorem rp_body {a n o : List Nat} {i : Nat} {ex : Env} (ha : Nm a) (hn : Nm n) (hi : i < 256) (ho : Nm o) (hp : nf o = Go.Fp.pow (nf a) (num 65536 n / 2 ^ (i + 1))) :
    ∃ r ex', evCode T 0 a88_l1 (rpI a n o i ex) = some (.normal, rpI a n r ((i : Int) - 1) ex') ∧ Nm r ∧ nf r = Go.Fp.pow (nf a) (num 65536 n / 2 ^ i) := by
  obtain ⟨w, hw⟩ : ∃ w, n[i / 16]? = some w := ⟨_, List.getElem?_eq_getElem (by rw [hn.len]; omega)⟩
  have hw' := hn.lt w (List.mem_of_getElem? hw)
  have hwv := num_get (B := 65536) (by decide) hn.lt hw
  have hwc := ns_get (k := .u64) hw
  have hbit : w / 2 ^ (i % 16) % 2 = num 65536 n / 2 ^ i % 2 := by
    rw [← hwv, show (65536 : Nat) = 2 ^ 16 from rfl, bitOf (Nat.mod_lt _ (by decide)), Nat.div_add_mod]
  obtain ⟨r1, m1, g1, g2⟩ := rmul_v ho ho
  obtain ⟨r2, m2, g3, g4⟩ := rmul_v g1 ha
  have hlt := bit_lt (num 65536 n) i
  have hnum : num 65536 n / 2 ^ i = 2 * (num 65536 n / 2 ^ (i + 1)) + num 65536 n / 2 ^ i % 2 := by
    rw [Nat.pow_succ, ← Nat.div_div_eq_div_mul]
    omega
  have hstep := pow_step (nf a) (num 65536 n / 2 ^ (i + 1)) (num 65536 n / 2 ^ i % 2) hlt
  rw [← hnum, ← hp] at hstep
  have hb := rb_block (a := a) (n := n) (o := r1) hi hw'
  simp only [rbI, rpH, List.cons_append, List.nil_append, Int.natCast_zero] at hb
  have w2 : IntKind.i64.wrap ((i : Int).tdiv 16) = ((i / 16 : Nat) : Int) := wn (n := i / 16) (by omega)
  have w3 : IntKind.i64.wrap ((i : Int) - 1) = (i : Int) - 1 := wrapI64_small (by omega) (by omega)
  have w4 : ((w / 2 ^ (i % 16) : Nat) : Int).tmod 2 = ((w / 2 ^ (i % 16) % 2 : Nat) : Int) := rfl
  have e1 : ((0 : Int) ≤ (i : Int)) = True := eq_true (by omega)
  have e3 : (((i / 16 : Nat) : Int) < 16) = True := eq_true (by omega)
  have l0 := ha.len
  have l1 := hn.len
  have l2 := ho.len
  have l3 := g1.len
  have l4 := g3.len
  rw [hbit] at w4
  generalize hB : num 65536 n / 2 ^ i % 2 = B at *
  generalize w / 2 ^ (i % 16) = wv at *
  by_cases hB1 : B = 1
  · have hbq : ((B : Int) == 1) = true := by rw [hB1]; rfl
    rw [if_pos hB1] at hstep
    refine ⟨r2, [], ?_, g3, by rw [hstep, g4, g2]⟩
    simp only [rpI, rpH, a88_l1, envOf, evCode_skip, evCode_exit, evCode_seq, fs_blockS, fs_blockR, fs_blockC, fs_blockK, fs_blockB, evCode_ret, quiet, keep_nil, keep_cons, fs_cond, fs_region, fs_regionQ, quiet2_eq, lastOf_nil, lastOf_cons, List.take_succ_cons, List.take_zero, List.drop_succ_cons, List.drop_zero, Int.reduceBEq, Int.reduceBNe,  fs_nil, fs_guard, fs_move, fs_pick, fs_alloc, fs_box, fs_load, fs_store, fs_bin, fs_eqv, fs_isNil, fs_un, fs_conv, fs_convStr, fs_field, fs_index, fs_indexStr, fs_build, fs_buildSlice, fs_fieldAddr, fs_indexAddr, fs_indexSl, fs_sliceArr, fs_sliceSl, fs_sliceStr, fs_makeSlice, fs_extract, fs_mkIface, fs_mkFunc, fs_nilCheck, fs_s2ap, fs_len, fs_minmax, fs_s2b, fs_b2s, fs_append, fs_copy, fs_callW, fs_callR, fs_callv, opd_tmp, opd_const, opd_func, opds_nil, opds_cons, opdOpt_none, opdOpt_some, opdParts_nil, opdParts_cons, get_miss, vPick_t, vPick_f, vEq_agg, vEq_aggN, vEq_bool, vEq_boolN, vConv_int, vStr_s, vField_agg, vIndex_agg, vIndexStr_s, vFieldAddr_p, vIndexAddr_p, vIndexSl_s, vSliceArr_p, vSliceSl_s, vSliceSl_n, vSliceStr_s, vExtract_t, vNilCheck_p, vS2ap_s, vLen_s, vLen_str, vMin_i, vMax_i, vLoad_p, vStore_p, baseP_p, vB2s_s, vMake_i, vS2b_s, callee_f, liveAt_eq, storeAt_eq, partL_none, partL_some, natIn_none, natIn_int, bounds3_two, bin_add, bin_sub, bin_mul, bin_quo, bin_rem, bin_and, bin_or, bin_xor, bin_andNot, bin_eql, bin_neq, bin_lss, bin_leq, bin_gtr, bin_geq, bin_shl, bin_shr, bin_sadd, bin_seql, bin_sneq, un_not, un_neg, un_xor, after_some, put_some, put_none, res_nil, res_val, res_var, packed_one, packed_two, merge_nil, merge_ge, rf_tup2, rfIn_int, rfIn_bool, rfIn_u8s, rf_str, rfIn_str, ↓gate_true, gd_bool, gd_ut, gd_uf, ↓guardV_tt, ↓guardV_ff, ↓guardV_tf, ↓guardV_ft, ↓keepV_some, ↓qElse_some, ↓get_hit, ↓Option.bind_some, ↓if_true, ↓if_false, List.nil_append, List.cons_append, List.all_nil, List.all_cons, List.isEmpty_nil, reduceCtorEq, Bool.false_eq_true, Nat.reduceEqDiff, beq_self_eq_true, bne_self_eq_false, Bool.not_true, Bool.not_false, Int.natCast_nonneg, Nat.lt_irrefl, false_and, Int.reduceEq, rf_int, rf_bool, rf_tuple_ints, rf_u8s, arr_list, toList2, Bool.and_self, Nat.not_lt_zero, Nat.sub_zero, Nat.zero_le, Nat.le_add_right, cells_agg, cells_agg_size, cells_int, cells_int_size, okV_int, okV_bool, okV_str, okV_agg, okV_ptr, okV_slice, okV_func, okV_nilFunc, okV_iface, okV_nilIface, cells_bool, cells_bool_size, cells_ptr, cells_ptr_size, cells_slice, cells_slice_size, cells_str, cells_str_size, eq_self, wrapI64_small, Int.natCast_zero, Int.natCast_one, Int.cast_ofNat_Int, List.length_nil, List.length_cons, List.getElem?_cons_zero, List.getElem?_cons_succ, List.set_cons_zero, List.set_cons_succ, Nat.zero_add, Nat.add_zero, Nat.mul_one, Nat.zero_mul, Int.toNat_natCast, Int.toNat_zero, Int.lt_irrefl, Int.le_refl, Nat.le_refl, and_self, true_and, and_true, decide_true, decide_false, Int.reduceLE, Int.reduceLT, Int.reduceAdd, Int.reduceMul, Int.reduceSub, Int.reduceTDiv, Int.reduceTMod, Int.reduceNeg, Int.reduceToNat, Int.reduceGT, Int.reduceGE, Int.reducePow, Nat.reduceAdd, Nat.reduceMul, Nat.reduceSub, Nat.reduceDiv, Nat.reduceMod, Nat.reducePow, Nat.reduceLT, Nat.reduceLeDiff, Nat.min_self, ge_iff_le, gt_iff_lt, Option.isNone_none, Option.isSome_none, Option.isNone_some, Option.isSome_some, Bool.and_true, Bool.true_and, Bool.and_false, Bool.false_and, not_true_eq_false, not_false_eq_true, or_true, true_or, false_or, or_false, hget0, hgetK, hset0, hsetK, splice_single, splice_whole, take_whole, List.getElem?_nil, List.length_append, List.append_assoc, hwc, hb, w2, w3, w4, e1, e3, m1, m2, hbq, eV_cells, eV_size, eV_ok, eV_fold, ns_len, take_all, l0, l1, l2, l3, l4, rf_eV]
  · have hbq : ((B : Int) == 1) = false := by
      have : B = 0 := by omega
      rw [this]; rfl
    rw [if_neg hB1] at hstep
    refine ⟨r1, [], ?_, g1, by rw [hstep, g2]⟩
    simp only [rpI, rpH, a88_l1, envOf, evCode_skip, evCode_exit, evCode_seq, fs_blockS, fs_blockR, fs_blockC, fs_blockK, fs_blockB, evCode_ret, quiet, keep_nil, keep_cons, fs_cond, fs_region, fs_regionQ, quiet2_eq, lastOf_nil, lastOf_cons, List.take_succ_cons, List.take_zero, List.drop_succ_cons, List.drop_zero, Int.reduceBEq, Int.reduceBNe,  fs_nil, fs_guard, fs_move, fs_pick, fs_alloc, fs_box, fs_load, fs_store, fs_bin, fs_eqv, fs_isNil, fs_un, fs_conv, fs_convStr, fs_field, fs_index, fs_indexStr, fs_build, fs_buildSlice, fs_fieldAddr, fs_indexAddr, fs_indexSl, fs_sliceArr, fs_sliceSl, fs_sliceStr, fs_makeSlice, fs_extract, fs_mkIface, fs_mkFunc, fs_nilCheck, fs_s2ap, fs_len, fs_minmax, fs_s2b, fs_b2s, fs_append, fs_copy, fs_callW, fs_callR, fs_callv, opd_tmp, opd_const, opd_func, opds_nil, opds_cons, opdOpt_none, opdOpt_some, opdParts_nil, opdParts_cons, get_miss, vPick_t, vPick_f, vEq_agg, vEq_aggN, vEq_bool, vEq_boolN, vConv_int, vStr_s, vField_agg, vIndex_agg, vIndexStr_s, vFieldAddr_p, vIndexAddr_p, vIndexSl_s, vSliceArr_p, vSliceSl_s, vSliceSl_n, vSliceStr_s, vExtract_t, vNilCheck_p, vS2ap_s, vLen_s, vLen_str, vMin_i, vMax_i, vLoad_p, vStore_p, baseP_p, vB2s_s, vMake_i, vS2b_s, callee_f, liveAt_eq, storeAt_eq, partL_none, partL_some, natIn_none, natIn_int, bounds3_two, bin_add, bin_sub, bin_mul, bin_quo, bin_rem, bin_and, bin_or, bin_xor, bin_andNot, bin_eql, bin_neq, bin_lss, bin_leq, bin_gtr, bin_geq, bin_shl, bin_shr, bin_sadd, bin_seql, bin_sneq, un_not, un_neg, un_xor, after_some, put_some, put_none, res_nil, res_val, res_var, packed_one, packed_two, merge_nil, merge_ge, rf_tup2, rfIn_int, rfIn_bool, rfIn_u8s, rf_str, rfIn_str, ↓gate_true, gd_bool, gd_ut, gd_uf, ↓guardV_tt, ↓guardV_ff, ↓guardV_tf, ↓guardV_ft, ↓keepV_some, ↓qElse_some, ↓get_hit, ↓Option.bind_some, ↓if_true, ↓if_false, List.nil_append, List.cons_append, List.all_nil, List.all_cons, List.isEmpty_nil, reduceCtorEq, Bool.false_eq_true, Nat.reduceEqDiff, beq_self_eq_true, bne_self_eq_false, Bool.not_true, Bool.not_false, Int.natCast_nonneg, Nat.lt_irrefl, false_and, Int.reduceEq, rf_int, rf_bool, rf_tuple_ints, rf_u8s, arr_list, toList2, Bool.and_self, Nat.not_lt_zero, Nat.sub_zero, Nat.zero_le, Nat.le_add_right, cells_agg, cells_agg_size, cells_int, cells_int_size, okV_int, okV_bool, okV_str, okV_agg, okV_ptr, okV_slice, okV_func, okV_nilFunc, okV_iface, okV_nilIface, cells_bool, cells_bool_size, cells_ptr, cells_ptr_size, cells_slice, cells_slice_size, cells_str, cells_str_size, eq_self, wrapI64_small, Int.natCast_zero, Int.natCast_one, Int.cast_ofNat_Int, List.length_nil, List.length_cons, List.getElem?_cons_zero, List.getElem?_cons_succ, List.set_cons_zero, List.set_cons_succ, Nat.zero_add, Nat.add_zero, Nat.mul_one, Nat.zero_mul, Int.toNat_natCast, Int.toNat_zero, Int.lt_irrefl, Int.le_refl, Nat.le_refl, and_self, true_and, and_true, decide_true, decide_false, Int.reduceLE, Int.reduceLT, Int.reduceAdd, Int.reduceMul, Int.reduceSub, Int.reduceTDiv, Int.reduceTMod, Int.reduceNeg, Int.reduceToNat, Int.reduceGT, Int.reduceGE, Int.reducePow, Nat.reduceAdd, Nat.reduceMul, Nat.reduceSub, Nat.reduceDiv, Nat.reduceMod, Nat.reducePow, Nat.reduceLT, Nat.reduceLeDiff, Nat.min_self, ge_iff_le, gt_iff_lt, Option.isNone_none, Option.isSome_none, Option.isNone_some, Option.isSome_some, Bool.and_true, Bool.true_and, Bool.and_false, Bool.false_and, not_true_eq_false, not_false_eq_true, or_true, true_or, false_or, or_false, hget0, hgetK, hset0, hsetK, splice_single, splice_whole, take_whole, List.getElem?_nil, List.length_append, List.append_assoc, hwc, hb, w2, w3, w4, e1, e3, m1, m2, hbq, eV_cells, eV_size, eV_ok, eV_fold, ns_len, take_all, l0, l1, l2, l3, l4, rf_eV]
theorem rone_nf : nf (smallL 1) = 1 := by unfold nf; rw [smallL_num (by decide)]; rfl
theorem rpower_v {a n : List Nat} (ha : Nm a) (hn : Nm n) : ∃ r, evVal T 88 [eV a, eV n] = some (eV r) ∧ Nm r ∧ nf r = Go.Fp.pow (nf a) (num 65536 n) := by
  have hK := hn.num_lt
  obtain ⟨st, hb, r, rfl, hr1, hr2⟩ := block_inv (T := T) (base := 0) (id := 0) (body := a88_l1)
    (fun j st => ∃ (r : List Nat) (ex : Env), st = rpI a n r ((255 : Int) - j) ex ∧ Nm r ∧ nf r = Go.Fp.pow (nf a) (num 65536 n / 2 ^ (256 - j)))
    (Q := fun st => ∃ r : List Nat, st = rpI a n r (-1) [(11, .bool false)] ∧ Nm r ∧ nf r = Go.Fp.pow (nf a) (num 65536 n))
    256 (s := rpI a n (smallL 1) 255 []) ⟨_, [], rfl, smallL_nm 1, by rw [rone_nf, Nat.sub_zero, Nat.div_eq_of_lt hK]; rfl⟩
    (fun j st hj hs => by
      obtain ⟨r, ex, rfl, h1, h2⟩ := hs
      obtain ⟨i, hi⟩ : ∃ i, 256 - j = i + 1 := ⟨255 - j, by omega⟩
      rw [hi] at h2
      obtain ⟨r', ex', g1, g2, g3⟩ := rp_body (ex := ex) ha hn (i := i) (by omega) h1 h2
      rw [show (255 : Int) - j = (i : Int) by omega]
      refine ⟨_, g1, r', ex', ?_, g2, ?_⟩
      · rw [show (255 : Int) - ((j + 1 : Nat) : Int) = (i : Int) - 1 by omega]
      · rw [show 256 - (j + 1) = i by omega]; exact g3)
    (fun st hs => by
      obtain ⟨r, ex, rfl, h1, h2⟩ := hs
      rw [Nat.sub_self, Nat.pow_zero, Nat.div_one] at h2
      have e : ((0 : Int) ≤ -1) = False := by decide
      refine ⟨_, ?_, r, rfl, h1, h2⟩
      rw [show (255 : Int) - ((256 : Nat) : Int) = -1 by omega]
      simp only [rpI, rpH, a88_l1, envOf, evCode_skip, evCode_exit, evCode_seq, fs_blockS, fs_blockR, fs_blockC, fs_blockK, fs_blockB, evCode_ret, quiet, keep_nil, keep_cons, fs_cond, fs_region, fs_regionQ, quiet2_eq, lastOf_nil, lastOf_cons, List.take_succ_cons, List.take_zero, List.drop_succ_cons, List.drop_zero, Int.reduceBEq, Int.reduceBNe,  fs_nil, fs_guard, fs_move, fs_pick, fs_alloc, fs_box, fs_load, fs_store, fs_bin, fs_eqv, fs_isNil, fs_un, fs_conv, fs_convStr, fs_field, fs_index, fs_indexStr, fs_build, fs_buildSlice, fs_fieldAddr, fs_indexAddr, fs_indexSl, fs_sliceArr, fs_sliceSl, fs_sliceStr, fs_makeSlice, fs_extract, fs_mkIface, fs_mkFunc, fs_nilCheck, fs_s2ap, fs_len, fs_minmax, fs_s2b, fs_b2s, fs_append, fs_copy, fs_callW, fs_callR, fs_callv, opd_tmp, opd_const, opd_func, opds_nil, opds_cons, opdOpt_none, opdOpt_some, opdParts_nil, opdParts_cons, get_miss, vPick_t, vPick_f, vEq_agg, vEq_aggN, vEq_bool, vEq_boolN, vConv_int, vStr_s, vField_agg, vIndex_agg, vIndexStr_s, vFieldAddr_p, vIndexAddr_p, vIndexSl_s, vSliceArr_p, vSliceSl_s, vSliceSl_n, vSliceStr_s, vExtract_t, vNilCheck_p, vS2ap_s, vLen_s, vLen_str, vMin_i, vMax_i, vLoad_p, vStore_p, baseP_p, vB2s_s, vMake_i, vS2b_s, callee_f, liveAt_eq, storeAt_eq, partL_none, partL_some, natIn_none, natIn_int, bounds3_two, bin_add, bin_sub, bin_mul, bin_quo, bin_rem, bin_and, bin_or, bin_xor, bin_andNot, bin_eql, bin_neq, bin_lss, bin_leq, bin_gtr, bin_geq, bin_shl, bin_shr, bin_sadd, bin_seql, bin_sneq, un_not, un_neg, un_xor, after_some, put_some, put_none, res_nil, res_val, res_var, packed_one, packed_two, merge_nil, merge_ge, rf_tup2, rfIn_int, rfIn_bool, rfIn_u8s, rf_str, rfIn_str, ↓gate_true, gd_bool, gd_ut, gd_uf, ↓guardV_tt, ↓guardV_ff, ↓guardV_tf, ↓guardV_ft, ↓keepV_some, ↓qElse_some, ↓get_hit, ↓Option.bind_some, ↓if_true, ↓if_false, List.nil_append, List.cons_append, List.all_nil, List.all_cons, List.isEmpty_nil, reduceCtorEq, Bool.false_eq_true, Nat.reduceEqDiff, beq_self_eq_true, bne_self_eq_false, Bool.not_true, Bool.not_false, Int.natCast_nonneg, Nat.lt_irrefl, false_and, Int.reduceEq, rf_int, rf_bool, rf_tuple_ints, rf_u8s, arr_list, toList2, Bool.and_self, Nat.not_lt_zero, Nat.sub_zero, Nat.zero_le, Nat.le_add_right, cells_agg, cells_agg_size, cells_int, cells_int_size, okV_int, okV_bool, okV_str, okV_agg, okV_ptr, okV_slice, okV_func, okV_nilFunc, okV_iface, okV_nilIface, cells_bool, cells_bool_size, cells_ptr, cells_ptr_size, cells_slice, cells_slice_size, cells_str, cells_str_size, eq_self, wrapI64_small, Int.natCast_zero, Int.natCast_one, Int.cast_ofNat_Int, List.length_nil, List.length_cons, List.getElem?_cons_zero, List.getElem?_cons_succ, List.set_cons_zero, List.set_cons_succ, Nat.zero_add, Nat.add_zero, Nat.mul_one, Nat.zero_mul, Int.toNat_natCast, Int.toNat_zero, Int.lt_irrefl, Int.le_refl, Nat.le_refl, and_self, true_and, and_true, decide_true, decide_false, Int.reduceLE, Int.reduceLT, Int.reduceAdd, Int.reduceMul, Int.reduceSub, Int.reduceTDiv, Int.reduceTMod, Int.reduceNeg, Int.reduceToNat, Int.reduceGT, Int.reduceGE, Int.reducePow, Nat.reduceAdd, Nat.reduceMul, Nat.reduceSub, Nat.reduceDiv, Nat.reduceMod, Nat.reducePow, Nat.reduceLT, Nat.reduceLeDiff, Nat.min_self, ge_iff_le, gt_iff_lt, Option.isNone_none, Option.isSome_none, Option.isNone_some, Option.isSome_some, Bool.and_true, Bool.true_and, Bool.and_false, Bool.false_and, not_true_eq_false, not_false_eq_true, or_true, true_or, false_or, or_false, e])
  refine ⟨r, ?_, hr1, hr2⟩
  have hs := rsmall_v 1 (by decide)
  have ls := (smallL_nm 1).len
  have hz := z16_eq
  have lz := z16_len
  have la := ha.len
  have ln := hn.len
  have lr := hr1.len
  simp only [Int.natCast_one] at hs
  simp only [rpI, rpH, List.cons_append, List.nil_append] at hb
  generalize zero16 = Z at *
  generalize smallL 1 = S at *
  apply evVal_ex
  apply Exists.intro
  rw [evFun_fn (fn := a88) rfl]
  simp only [a88, ↓steps_chunk, envOf, evCode_skip, evCode_exit, evCode_seq, fs_blockS, fs_blockR, fs_blockC, fs_blockK, fs_blockB, evCode_ret, quiet, keep_nil, keep_cons, fs_cond, fs_region, fs_regionQ, quiet2_eq, lastOf_nil, lastOf_cons, List.take_succ_cons, List.take_zero, List.drop_succ_cons, List.drop_zero, Int.reduceBEq, Int.reduceBNe,  fs_nil, fs_guard, fs_move, fs_pick, fs_alloc, fs_box, fs_load, fs_store, fs_bin, fs_eqv, fs_isNil, fs_un, fs_conv, fs_convStr, fs_field, fs_index, fs_indexStr, fs_build, fs_buildSlice, fs_fieldAddr, fs_indexAddr, fs_indexSl, fs_sliceArr, fs_sliceSl, fs_sliceStr, fs_makeSlice, fs_extract, fs_mkIface, fs_mkFunc, fs_nilCheck, fs_s2ap, fs_len, fs_minmax, fs_s2b, fs_b2s, fs_append, fs_copy, fs_callW, fs_callR, fs_callv, opd_tmp, opd_const, opd_func, opds_nil, opds_cons, opdOpt_none, opdOpt_some, opdParts_nil, opdParts_cons, get_miss, vPick_t, vPick_f, vEq_agg, vEq_aggN, vEq_bool, vEq_boolN, vConv_int, vStr_s, vField_agg, vIndex_agg, vIndexStr_s, vFieldAddr_p, vIndexAddr_p, vIndexSl_s, vSliceArr_p, vSliceSl_s, vSliceSl_n, vSliceStr_s, vExtract_t, vNilCheck_p, vS2ap_s, vLen_s, vLen_str, vMin_i, vMax_i, vLoad_p, vStore_p, baseP_p, vB2s_s, vMake_i, vS2b_s, callee_f, liveAt_eq, storeAt_eq, partL_none, partL_some, natIn_none, natIn_int, bounds3_two, bin_add, bin_sub, bin_mul, bin_quo, bin_rem, bin_and, bin_or, bin_xor, bin_andNot, bin_eql, bin_neq, bin_lss, bin_leq, bin_gtr, bin_geq, bin_shl, bin_shr, bin_sadd, bin_seql, bin_sneq, un_not, un_neg, un_xor, after_some, put_some, put_none, res_nil, res_val, res_var, packed_one, packed_two, merge_nil, merge_ge, rf_tup2, rfIn_int, rfIn_bool, rfIn_u8s, rf_str, rfIn_str, ↓gate_true, gd_bool, gd_ut, gd_uf, ↓guardW_tt, ↓guardW_ff, ↓guardW_tf, ↓guardW_ft, ↓keepW_some, ↓qElseW_some, ↓get_hit, ↓Option.bind_some, ↓if_true, ↓if_false, List.nil_append, List.cons_append, List.all_nil, List.all_cons, List.isEmpty_nil, reduceCtorEq, Bool.false_eq_true, Nat.reduceEqDiff, beq_self_eq_true, bne_self_eq_false, Bool.not_true, Bool.not_false, Int.natCast_nonneg, Nat.lt_irrefl, false_and, Int.reduceEq, rf_int, rf_bool, rf_tuple_ints, rf_u8s, arr_list, toList2, Bool.and_self, Nat.not_lt_zero, Nat.sub_zero, Nat.zero_le, Nat.le_add_right, cells_agg, cells_agg_size, cells_int, cells_int_size, okV_int, okV_bool, okV_str, okV_agg, okV_ptr, okV_slice, okV_func, okV_nilFunc, okV_iface, okV_nilIface, cells_bool, cells_bool_size, cells_ptr, cells_ptr_size, cells_slice, cells_slice_size, cells_str, cells_str_size, eq_self, wrapI64_small, Int.natCast_zero, Int.natCast_one, Int.cast_ofNat_Int, List.length_nil, List.length_cons, List.getElem?_cons_zero, List.getElem?_cons_succ, List.set_cons_zero, List.set_cons_succ, Nat.zero_add, Nat.add_zero, Nat.mul_one, Nat.zero_mul, Int.toNat_natCast, Int.toNat_zero, Int.lt_irrefl, Int.le_refl, Nat.le_refl, and_self, true_and, and_true, decide_true, decide_false, Int.reduceLE, Int.reduceLT, Int.reduceAdd, Int.reduceMul, Int.reduceSub, Int.reduceTDiv, Int.reduceTMod, Int.reduceNeg, Int.reduceToNat, Int.reduceGT, Int.reduceGE, Int.reducePow, Nat.reduceAdd, Nat.reduceMul, Nat.reduceSub, Nat.reduceDiv, Nat.reduceMod, Nat.reducePow, Nat.reduceLT, Nat.reduceLeDiff, Nat.min_self, ge_iff_le, gt_iff_lt, Option.isNone_none, Option.isSome_none, Option.isNone_some, Option.isSome_some, Bool.and_true, Bool.true_and, Bool.and_false, Bool.false_and, not_true_eq_false, not_false_eq_true, or_true, true_or, false_or, or_false, hget0, hgetK, hset0, hsetK, splice_single, splice_whole, take_whole, List.getElem?_nil, List.length_append, List.append_assoc, hz, hs, hb, List.length_replicate, take_all, eV_cells, eV_size, eV_ok, eV_fold, ns_len, la, ln, lr, ls, lz, rf_eV]
  rfl
theorem rinvert_v {a : List Nat} (ha : Nm a) : ∃ r, evVal T 71 [eV a] = some (eV r) ∧ Nm r ∧ nf r = Go.Fp.iv (nf a) := by
  have hp := rprime_v
  have hs := rsmall_v 2 (by decide)
  have hm := rminus_v primeL_nm (smallL_nm 2) (by rw [primeL_num, smallL_num (by decide)]; decide)
  rw [primeL_num, smallL_num (by decide)] at hm
  have hN := Nm.dig (Go.Fp.P - 2)
  have hn := nm_dig (v := Go.Fp.P - 2) (by decide)
  obtain ⟨r, hr, h1, h2⟩ := rpower_v ha hN
  rw [hn] at h2
  refine ⟨r, ?_, h1, h2⟩
  have hz := z16_eq
  have lz := z16_len
  have la := ha.len
  have lp := primeL_nm.len
  have ls := (smallL_nm 2).len
  have lm := hN.len
  have lr := h1.len
  simp only [Int.cast_ofNat_Int] at hs
  generalize zero16 = Z at *
  generalize primeL = PL at *
  generalize smallL 2 = S at *
  generalize dig 65536 16 (Go.Fp.P - 2) = E at *
  apply evVal_ex
  apply Exists.intro
  rw [evFun_fn (fn := a71) rfl]
  simp only [a71, ↓steps_chunk, envOf, evCode_skip, evCode_exit, evCode_seq, fs_blockS, fs_blockR, fs_blockC, fs_blockK, fs_blockB, evCode_ret, quiet, keep_nil, keep_cons, fs_cond, fs_region, fs_regionQ, quiet2_eq, lastOf_nil, lastOf_cons, List.take_succ_cons, List.take_zero, List.drop_succ_cons, List.drop_zero, Int.reduceBEq, Int.reduceBNe,  fs_nil, fs_guard, fs_move, fs_pick, fs_alloc, fs_box, fs_load, fs_store, fs_bin, fs_eqv, fs_isNil, fs_un, fs_conv, fs_convStr, fs_field, fs_index, fs_indexStr, fs_build, fs_buildSlice, fs_fieldAddr, fs_indexAddr, fs_indexSl, fs_sliceArr, fs_sliceSl, fs_sliceStr, fs_makeSlice, fs_extract, fs_mkIface, fs_mkFunc, fs_nilCheck, fs_s2ap, fs_len, fs_minmax, fs_s2b, fs_b2s, fs_append, fs_copy, fs_callW, fs_callR, fs_callv, opd_tmp, opd_const, opd_func, opds_nil, opds_cons, opdOpt_none, opdOpt_some, opdParts_nil, opdParts_cons, get_miss, vPick_t, vPick_f, vEq_agg, vEq_aggN, vEq_bool, vEq_boolN, vConv_int, vStr_s, vField_agg, vIndex_agg, vIndexStr_s, vFieldAddr_p, vIndexAddr_p, vIndexSl_s, vSliceArr_p, vSliceSl_s, vSliceSl_n, vSliceStr_s, vExtract_t, vNilCheck_p, vS2ap_s, vLen_s, vLen_str, vMin_i, vMax_i, vLoad_p, vStore_p, baseP_p, vB2s_s, vMake_i, vS2b_s, callee_f, liveAt_eq, storeAt_eq, partL_none, partL_some, natIn_none, natIn_int, bounds3_two, bin_add, bin_sub, bin_mul, bin_quo, bin_rem, bin_and, bin_or, bin_xor, bin_andNot, bin_eql, bin_neq, bin_lss, bin_leq, bin_gtr, bin_geq, bin_shl, bin_shr, bin_sadd, bin_seql, bin_sneq, un_not, un_neg, un_xor, after_some, put_some, put_none, res_nil, res_val, res_var, packed_one, packed_two, merge_nil, merge_ge, rf_tup2, rfIn_int, rfIn_bool, rfIn_u8s, rf_str, rfIn_str, ↓gate_true, gd_bool, gd_ut, gd_uf, ↓guardW_tt, ↓guardW_ff, ↓guardW_tf, ↓guardW_ft, ↓keepW_some, ↓qElseW_some, ↓get_hit, ↓Option.bind_some, ↓if_true, ↓if_false, List.nil_append, List.cons_append, List.all_nil, List.all_cons, List.isEmpty_nil, reduceCtorEq, Bool.false_eq_true, Nat.reduceEqDiff, beq_self_eq_true, bne_self_eq_false, Bool.not_true, Bool.not_false, Int.natCast_nonneg, Nat.lt_irrefl, false_and, Int.reduceEq, rf_int, rf_bool, rf_tuple_ints, rf_u8s, arr_list, toList2, Bool.and_self, Nat.not_lt_zero, Nat.sub_zero, Nat.zero_le, Nat.le_add_right, cells_agg, cells_agg_size, cells_int, cells_int_size, okV_int, okV_bool, okV_str, okV_agg, okV_ptr, okV_slice, okV_func, okV_nilFunc, okV_iface, okV_nilIface, cells_bool, cells_bool_size, cells_ptr, cells_ptr_size, cells_slice, cells_slice_size, cells_str, cells_str_size, eq_self, wrapI64_small, Int.natCast_zero, Int.natCast_one, Int.cast_ofNat_Int, List.length_nil, List.length_cons, List.getElem?_cons_zero, List.getElem?_cons_succ, List.set_cons_zero, List.set_cons_succ, Nat.zero_add, Nat.add_zero, Nat.mul_one, Nat.zero_mul, Int.toNat_natCast, Int.toNat_zero, Int.lt_irrefl, Int.le_refl, Nat.le_refl, and_self, true_and, and_true, decide_true, decide_false, Int.reduceLE, Int.reduceLT, Int.reduceAdd, Int.reduceMul, Int.reduceSub, Int.reduceTDiv, Int.reduceTMod, Int.reduceNeg, Int.reduceToNat, Int.reduceGT, Int.reduceGE, Int.reducePow, Nat.reduceAdd, Nat.reduceMul, Nat.reduceSub, Nat.reduceDiv, Nat.reduceMod, Nat.reducePow, Nat.reduceLT, Nat.reduceLeDiff, Nat.min_self, ge_iff_le, gt_iff_lt, Option.isNone_none, Option.isSome_none, Option.isNone_some, Option.isSome_some, Bool.and_true, Bool.true_and, Bool.and_false, Bool.false_and, not_true_eq_false, not_false_eq_true, or_true, true_or, false_or, or_false, hget0, hgetK, hset0, hsetK, splice_single, splice_whole, take_whole, List.getElem?_nil, List.length_append, List.append_assoc, hz, hp, hs, hm, hr, List.length_replicate, take_all, eV_cells, eV_size, eV_ok, eV_fold, ns_len, la, lp, ls, lm, lr, lz, rf_eV]
  rfl
theorem d_eq : -(Go.Fp.fp 121665) * Go.Fp.iv (Go.Fp.fp 121666) = Go.Fp.d := by
  have h0 : Go.Fp.fp 121666 ≠ 0 := by decide +kernel
  have h1 := Go.Fp.iv_mul h0
  have h2 : Go.Fp.fp 121666 * Go.Fp.d = - Go.Fp.fp 121665 := by decide +kernel
  refine Go.Fp.fld.cancel h0 ?_
  rw [h2]
  generalize Go.Fp.iv (Go.Fp.fp 121666) = y at *
  generalize Go.Fp.fp 121666 = x at *
  generalize Go.Fp.fp 121665 = z at *
  clear h0 h2
  grobner
theorem rd_v : ∃ r, evVal T 36 [] = some (eV r) ∧ Nm r ∧ nf r = Go.Fp.d := by
  have s1 := rsmall_v 121665 (by decide)
  have s2 := rsmall_v 121666 (by decide)
  obtain ⟨n, hn, n1, n2⟩ := rneg_v (smallL_nm 121665)
  obtain ⟨v, hv, v1, v2⟩ := rinvert_v (smallL_nm 121666)
  obtain ⟨r, hr, r1, r2⟩ := rmul_v n1 v1
  refine ⟨r, ?_, r1, ?_⟩
  · have hz := z16_eq
    have lz := z16_len
    have lr := r1.len
    simp only [Int.cast_ofNat_Int] at s1 s2
    generalize zero16 = Z at *
    generalize smallL 121665 = S1 at *
    generalize smallL 121666 = S2 at *
    apply evVal_ex
    apply Exists.intro
    rw [evFun_fn (fn := a36) rfl]
    simp only [a36, ↓steps_chunk, envOf, evCode_skip, evCode_exit, evCode_seq, fs_blockS, fs_blockR, fs_blockC, fs_blockK, fs_blockB, evCode_ret, quiet, keep_nil, keep_cons, fs_cond, fs_region, fs_regionQ, quiet2_eq, lastOf_nil, lastOf_cons, List.take_succ_cons, List.take_zero, List.drop_succ_cons, List.drop_zero, Int.reduceBEq, Int.reduceBNe,  fs_nil, fs_guard, fs_move, fs_pick, fs_alloc, fs_box, fs_load, fs_store, fs_bin, fs_eqv, fs_isNil, fs_un, fs_conv, fs_convStr, fs_field, fs_index, fs_indexStr, fs_build, fs_buildSlice, fs_fieldAddr, fs_indexAddr, fs_indexSl, fs_sliceArr, fs_sliceSl, fs_sliceStr, fs_makeSlice, fs_extract, fs_mkIface, fs_mkFunc, fs_nilCheck, fs_s2ap, fs_len, fs_minmax, fs_s2b, fs_b2s, fs_append, fs_copy, fs_callW, fs_callR, fs_callv, opd_tmp, opd_const, opd_func, opds_nil, opds_cons, opdOpt_none, opdOpt_some, opdParts_nil, opdParts_cons, get_miss, vPick_t, vPick_f, vEq_agg, vEq_aggN, vEq_bool, vEq_boolN, vConv_int, vStr_s, vField_agg, vIndex_agg, vIndexStr_s, vFieldAddr_p, vIndexAddr_p, vIndexSl_s, vSliceArr_p, vSliceSl_s, vSliceSl_n, vSliceStr_s, vExtract_t, vNilCheck_p, vS2ap_s, vLen_s, vLen_str, vMin_i, vMax_i, vLoad_p, vStore_p, baseP_p, vB2s_s, vMake_i, vS2b_s, callee_f, liveAt_eq, storeAt_eq, partL_none, partL_some, natIn_none, natIn_int, bounds3_two, bin_add, bin_sub, bin_mul, bin_quo, bin_rem, bin_and, bin_or, bin_xor, bin_andNot, bin_eql, bin_neq, bin_lss, bin_leq, bin_gtr, bin_geq, bin_shl, bin_shr, bin_sadd, bin_seql, bin_sneq, un_not, un_neg, un_xor, after_some, put_some, put_none, res_nil, res_val, res_var, packed_one, packed_two, merge_nil, merge_ge, rf_tup2, rfIn_int, rfIn_bool, rfIn_u8s, rf_str, rfIn_str, ↓gate_true, gd_bool, gd_ut, gd_uf, ↓guardW_tt, ↓guardW_ff, ↓guardW_tf, ↓guardW_ft, ↓keepW_some, ↓qElseW_some, ↓get_hit, ↓Option.bind_some, ↓if_true, ↓if_false, List.nil_append, List.cons_append, List.all_nil, List.all_cons, List.isEmpty_nil, reduceCtorEq, Bool.false_eq_true, Nat.reduceEqDiff, beq_self_eq_true, bne_self_eq_false, Bool.not_true, Bool.not_false, Int.natCast_nonneg, Nat.lt_irrefl, false_and, Int.reduceEq, rf_int, rf_bool, rf_tuple_ints, rf_u8s, arr_list, toList2, Bool.and_self, Nat.not_lt_zero, Nat.sub_zero, Nat.zero_le, Nat.le_add_right, cells_agg, cells_agg_size, cells_int, cells_int_size, okV_int, okV_bool, okV_str, okV_agg, okV_ptr, okV_slice, okV_func, okV_nilFunc, okV_iface, okV_nilIface, cells_bool, cells_bool_size, cells_ptr, cells_ptr_size, cells_slice, cells_slice_size, cells_str, cells_str_size, eq_self, wrapI64_small, Int.natCast_zero, Int.natCast_one, Int.cast_ofNat_Int, List.length_nil, List.length_cons, List.getElem?_cons_zero, List.getElem?_cons_succ, List.set_cons_zero, List.set_cons_succ, Nat.zero_add, Nat.add_zero, Nat.mul_one, Nat.zero_mul, Int.toNat_natCast, Int.toNat_zero, Int.lt_irrefl, Int.le_refl, Nat.le_refl, and_self, true_and, and_true, decide_true, decide_false, Int.reduceLE, Int.reduceLT, Int.reduceAdd, Int.reduceMul, Int.reduceSub, Int.reduceTDiv, Int.reduceTMod, Int.reduceNeg, Int.reduceToNat, Int.reduceGT, Int.reduceGE, Int.reducePow, Nat.reduceAdd, Nat.reduceMul, Nat.reduceSub, Nat.reduceDiv, Nat.reduceMod, Nat.reducePow, Nat.reduceLT, Nat.reduceLeDiff, Nat.min_self, ge_iff_le, gt_iff_lt, Option.isNone_none, Option.isSome_none, Option.isNone_some, Option.isSome_some, Bool.and_true, Bool.true_and, Bool.and_false, Bool.false_and, not_true_eq_false, not_false_eq_true, or_true, true_or, false_or, or_false, hget0, hgetK, hset0, hsetK, splice_single, splice_whole, take_whole, List.getElem?_nil, List.length_append, List.append_assoc, hz, s1, s2, hn, hv, hr, List.length_replicate, take_all, eV_cells, eV_size, eV_ok, eV_fold, ns_len, lr, lz, rf_eV]
    rfl
  · have e1 : nf (smallL 121665) = Go.Fp.fp 121665 := by unfold nf; rw [smallL_num (by decide)]
    have e2 : nf (smallL 121666) = Go.Fp.fp 121666 := by unfold nf; rw [smallL_num (by decide)]
    rw [r2, n2, v2, e1, e2, d_eq]
end Go.Ev.Ytaceeoghjgggjaa
set_option linter.unusedSimpArgs false
set_option linter.unusedVariables false
namespace Go.Ev.Ytaceeoghjgggjaa
open Go Go.Ev
attribute [local congr] bind_congr2 ite_congr2 qElse_congr gate_congr guardV_congr
set_option maxRecDepth 100000
theorem six (l : List Nat) (h : l.length = 16) : ∃ a0 a1 a2 a3 a4 a5 a6 a7 a8 a9 a10 a11 a12 a13 a14 a15, l = [a0, a1, a2, a3, a4, a5, a6, a7, a8, a9, a10, a11, a12, a13, a14, a15] := by
  match l, h with
  | [a0, a1, a2, a3, a4, a5, a6, a7, a8, a9, a10, a11, a12, a13, a14, a15], _ => exact ⟨a0, a1, a2, a3, a4, a5, a6, a7, a8, a9, a10, a11, a12, a13, a14, a15, rfl⟩
def tL (x y z : List Nat) : List Nat := x ++ (y ++ z)
theorem tL_len {x y z : List Nat} (hx : x.length = 16) (hy : y.length = 16) (hz : z.length = 16) : (tL x y z).length = 48 := by simp [tL, hx, hy, hz]
theorem tri {x y z : List Nat} (hx : x.length = 16) (hy : y.length = 16) (hz : z.length = 16) :
    List.take 16 (ns .u64 (tL x y z)) = ns .u64 x ∧ List.take 16 (List.drop 16 (ns .u64 (tL x y z))) = ns .u64 y ∧ List.take 16 (List.drop 32 (ns .u64 (tL x y z))) = ns .u64 z := by
  obtain ⟨a0, a1, a2, a3, a4, a5, a6, a7, a8, a9, a10, a11, a12, a13, a14, a15, rfl⟩ := six _ hx
  obtain ⟨b0, b1, b2, b3, b4, b5, b6, b7, b8, b9, b10, b11, b12, b13, b14, b15, rfl⟩ := six _ hy
  obtain ⟨c0, c1, c2, c3, c4, c5, c6, c7, c8, c9, c10, c11, c12, c13, c14, c15, rfl⟩ := six _ hz
  exact ⟨rfl, rfl, rfl⟩
def zero48 : List Nat := List.replicate 48 0
theorem z48_eq : List.replicate 48 (Value.int .u64 0) = ns .u64 zero48 := rfl
theorem z48_len : zero48.length = 48 := rfl
theorem fillT {x y z : List Nat} (hx : x.length = 16) (hy : y.length = 16) (hz : z.length = 16) : fillL (ns .u64 zero48) [(0, 16, eV x), (16, 16, eV y), (32, 16, eV z)] = some (ns .u64 (tL x y z)) := by
  obtain ⟨a0, a1, a2, a3, a4, a5, a6, a7, a8, a9, a10, a11, a12, a13, a14, a15, rfl⟩ := six _ hx
  obtain ⟨b0, b1, b2, b3, b4, b5, b6, b7, b8, b9, b10, b11, b12, b13, b14, b15, rfl⟩ := six _ hy
  obtain ⟨c0, c1, c2, c3, c4, c5, c6, c7, c8, c9, c10, c11, c12, c13, c14, c15, rfl⟩ := six _ hz
  rfl
structure RRep (x y z : List Nat) (p : Go.Cv.Pt Go.Fp.P Go.Fp.d) : Prop where
  nx : Nm x
  ny : Nm y
  nz : Nm z
  ne : nf z ≠ 0
  x : nf x = p.x * nf z
  y : nf y = p.y * nf z
def RP (l : List Nat) (p : Go.Cv.Pt Go.Fp.P Go.Fp.d) : Prop := ∃ x y z, l = tL x y z ∧ RRep x y z p
theorem RP.len {l : List Nat} {p : Go.Cv.Pt Go.Fp.P Go.Fp.d} (h : RP l p) : l.length = 48 := by
  obtain ⟨x, y, z, rfl, h⟩ := h
  exact tL_len h.nx.len h.ny.len h.nz.len
end Go.Ev.Ytaceeoghjgggjaa
set_option linter.unusedSimpArgs false
set_option linter.unusedVariables false
namespace Go.Ev.Ytaceeoghjgggjaa
open Go Go.Ev
attribute [local congr] bind_congr2 ite_congr2 qElse_congr gate_congr guardV_congr
set_option maxRecDepth 100000
theorem key_eq {l : List Nat} (hl : l.length = 32) (h : ∀ x ∈ l, x < 256) : l = dig 256 32 (num 256 l) := by
  have := dig_num (B := 256) (by decide) h
  rw [hl] at this
  exact this.symm
theorem top_add {v : Nat} (hv : v < 2 ^ 255) : ∃ w, (dig 256 32 v)[31]? = some w ∧ w < 128 ∧ (dig 256 32 v).set 31 (w + 128) = dig 256 32 (v + 2 ^ 255) := by
  obtain ⟨w, hw⟩ : ∃ w, (dig 256 32 v)[31]? = some w := ⟨_, List.getElem?_eq_getElem (by rw [dig_len]; decide)⟩
  have hwv : w = v / 256 ^ 31 % 256 := by rw [dig_get (by decide)] at hw; exact (Option.some.inj hw).symm
  have e31 : (256 : Nat) ^ 31 = 452312848583266388373324160190187140051835877600158453279131187530910662656 := by decide
  have e32 : (256 : Nat) ^ 32 = 115792089237316195423570985008687907853269984665640564039457584007913129639936 := by decide
  have e255 : (2 : Nat) ^ 255 = 57896044618658097711785492504343953926634992332820282019728792003956564819968 := by decide
  have hw128 : w < 128 := by
    rw [e31] at hwv
    rw [e255] at hv
    omega
  refine ⟨w, hw, hw128, ?_⟩
  have hlt : ∀ x ∈ (dig 256 32 v).set 31 (w + 128), x < 256 := set_lt (fun x hx => dig_lt (by decide) hx) (by omega)
  refine (key_eq (by rw [List.length_set, dig_len]) hlt).trans (congrArg (dig 256 32) ?_)
  have hs := num_set (B := 256) (w + 128) hw
  have hn : num 256 (dig 256 32 v) = v := by
    rw [num_dig (by decide)]
    refine Nat.mod_eq_of_lt ?_
    rw [e32]
    rw [e255] at hv
    omega
  rw [hn, e31] at hs
  rw [e255]
  omega
theorem rencode_v {l : List Nat} {p : Go.Cv.Pt Go.Fp.P Go.Fp.d} (h : RP l p) : evVal T 33 [eV l] = some (.agg (u8s (enc p)).toArray) := by
  obtain ⟨x, y, z, rfl, h⟩ := h
  obtain ⟨i, vi, Ni, fi⟩ := rinvert_v h.nz
  obtain ⟨a, va, Na, fa⟩ := rmul_v h.ny Ni
  obtain ⟨b, vb, Nb, fb⟩ := rmul_v h.nx Ni
  have hinv := Go.Fp.iv_mul h.ne
  have fa' : nf a = p.y := by rw [fa, fi, h.y]; grobner
  have fb' : nf b = p.x := by rw [fb, fi, h.x]; grobner
  have k1 := rbytes_v Na
  have k2 := rbytes_v Nb
  rw [fa'] at k1
  rw [fb'] at k2
  obtain ⟨u0, u1, u2⟩ := tri h.nx.len h.ny.len h.nz.len
  have L1 := tL_len h.nx.len h.ny.len h.nz.len
  have li := Ni.len
  have lk : (dig 256 32 p.y.val).length = 32 := dig_len _ _ _
  have lj : (dig 256 32 p.x.val).length = 32 := dig_len _ _ _
  have lz := dig_len 256 32 0
  have hz := z32_eq
  have h0 : (dig 256 32 p.x.val)[0]? = some (p.x.val % 256) := by rw [dig_get (by decide), Nat.pow_zero, Nat.div_one]
  have h0c := u8s_get h0
  have e0 : ((p.x.val % 256 : Nat) : Int).tmod 2 = ((p.x.val % 2 : Nat) : Int) := by
    have : p.x.val % 256 % 2 = p.x.val % 2 := by omega
    rw [← this]; rfl
  obtain ⟨w, hw, hw', hset0⟩ := top_add (val_lt p.y)
  have hwc := u8s_get hw
  have hset := u8s_set (dig 256 32 p.y.val) 31 (w + 128)
  rw [hset0] at hset
  have wadd : IntKind.u8.wrap ((w : Int) + 128) = ((w + 128 : Nat) : Int) := w8n (n := w + 128) (by omega)
  have lE := dig_len 256 32 (p.y.val + 2 ^ 255)
  generalize tL x y z = P1 at *
  generalize dig 256 32 0 = Z at *
  by_cases ho : p.x.val % 2 = 1
  · have hbq : ((p.x.val % 2 : Nat) : Int) == 1 := by rw [ho]; rfl
    have hbq' : (((p.x.val % 2 : Nat) : Int) == 1) = true := hbq
    have he : enc p = dig 256 32 (p.y.val + 2 ^ 255) := by rw [enc, encN, ho, Nat.one_mul]
    rw [he]
    generalize dig 256 32 (p.y.val + 2 ^ 255) = E at *
    generalize dig 256 32 p.y.val = Y at *
    generalize dig 256 32 p.x.val = X at *
    generalize p.x.val % 2 = par at *
    generalize p.x.val % 256 = x0 at *
    apply evVal_ex
    apply Exists.intro
    rw [evFun_fn (fn := a33) rfl]
    simp only [a33, ↓steps_chunk, envOf, evCode_skip, evCode_exit, evCode_seq, fs_blockS, fs_blockR, fs_blockC, fs_blockK, fs_blockB, evCode_ret, quiet, keep_nil, keep_cons, fs_cond, fs_region, fs_regionQ, quiet2_eq, lastOf_nil, lastOf_cons, List.take_succ_cons, List.take_zero, List.drop_succ_cons, List.drop_zero, Int.reduceBEq, Int.reduceBNe,  fs_nil, fs_guard, fs_move, fs_pick, fs_alloc, fs_box, fs_load, fs_store, fs_bin, fs_eqv, fs_isNil, fs_un, fs_conv, fs_convStr, fs_field, fs_index, fs_indexStr, fs_build, fs_buildSlice, fs_fieldAddr, fs_indexAddr, fs_indexSl, fs_sliceArr, fs_sliceSl, fs_sliceStr, fs_makeSlice, fs_extract, fs_mkIface, fs_mkFunc, fs_nilCheck, fs_s2ap, fs_len, fs_minmax, fs_s2b, fs_b2s, fs_append, fs_copy, fs_callW, fs_callR, fs_callv, opd_tmp, opd_const, opd_func, opds_nil, opds_cons, opdOpt_none, opdOpt_some, opdParts_nil, opdParts_cons, get_miss, vPick_t, vPick_f, vEq_agg, vEq_aggN, vEq_bool, vEq_boolN, vConv_int, vStr_s, vField_agg, vIndex_agg, vIndexStr_s, vFieldAddr_p, vIndexAddr_p, vIndexSl_s, vSliceArr_p, vSliceSl_s, vSliceSl_n, vSliceStr_s, vExtract_t, vNilCheck_p, vS2ap_s, vLen_s, vLen_str, vMin_i, vMax_i, vLoad_p, vStore_p, baseP_p, vB2s_s, vMake_i, vS2b_s, callee_f, liveAt_eq, storeAt_eq, partL_none, partL_some, natIn_none, natIn_int, bounds3_two, bin_add, bin_sub, bin_mul, bin_quo, bin_rem, bin_and, bin_or, bin_xor, bin_andNot, bin_eql, bin_neq, bin_lss, bin_leq, bin_gtr, bin_geq, bin_shl, bin_shr, bin_sadd, bin_seql, bin_sneq, un_not, un_neg, un_xor, after_some, put_some, put_none, res_nil, res_val, res_var, packed_one, packed_two, merge_nil, merge_ge, rf_tup2, rfIn_int, rfIn_bool, rfIn_u8s, rf_str, rfIn_str, ↓gate_true, gd_bool, gd_ut, gd_uf, ↓guardW_tt, ↓guardW_ff, ↓guardW_tf, ↓guardW_ft, ↓keepW_some, ↓qElseW_some, ↓get_hit, ↓Option.bind_some, ↓if_true, ↓if_false, List.nil_append, List.cons_append, List.all_nil, List.all_cons, List.isEmpty_nil, reduceCtorEq, Bool.false_eq_true, Nat.reduceEqDiff, beq_self_eq_true, bne_self_eq_false, Bool.not_true, Bool.not_false, Int.natCast_nonneg, Nat.lt_irrefl, false_and, Int.reduceEq, rf_int, rf_bool, rf_tuple_ints, rf_u8s, arr_list, toList2, Bool.and_self, Nat.not_lt_zero, Nat.sub_zero, Nat.zero_le, Nat.le_add_right, cells_agg, cells_agg_size, cells_int, cells_int_size, okV_int, okV_bool, okV_str, okV_agg, okV_ptr, okV_slice, okV_func, okV_nilFunc, okV_iface, okV_nilIface, cells_bool, cells_bool_size, cells_ptr, cells_ptr_size, cells_slice, cells_slice_size, cells_str, cells_str_size, eq_self, wrapI64_small, Int.natCast_zero, Int.natCast_one, Int.cast_ofNat_Int, List.length_nil, List.length_cons, List.getElem?_cons_zero, List.getElem?_cons_succ, List.set_cons_zero, List.set_cons_succ, Nat.zero_add, Nat.add_zero, Nat.mul_one, Nat.zero_mul, Int.toNat_natCast, Int.toNat_zero, Int.lt_irrefl, Int.le_refl, Nat.le_refl, and_self, true_and, and_true, decide_true, decide_false, Int.reduceLE, Int.reduceLT, Int.reduceAdd, Int.reduceMul, Int.reduceSub, Int.reduceTDiv, Int.reduceTMod, Int.reduceNeg, Int.reduceToNat, Int.reduceGT, Int.reduceGE, Int.reducePow, Nat.reduceAdd, Nat.reduceMul, Nat.reduceSub, Nat.reduceDiv, Nat.reduceMod, Nat.reducePow, Nat.reduceLT, Nat.reduceLeDiff, Nat.min_self, ge_iff_le, gt_iff_lt, Option.isNone_none, Option.isSome_none, Option.isNone_some, Option.isSome_some, Bool.and_true, Bool.true_and, Bool.and_false, Bool.false_and, not_true_eq_false, not_false_eq_true, or_true, true_or, false_or, or_false, hget0, hgetK, hset0, hsetK, splice_single, splice_whole, take_whole, List.getElem?_nil, List.length_append, List.append_assoc, hz, u0, u1, u2, vi, va, vb, k1, k2, h0c, e0, hbq', hwc, wadd, hset, List.length_replicate, take_all, eV_cells, eV_size, eV_ok, eV_fold, ns_len, u8s_len, lk, lj, li, lz, lE, L1, rf_eV]
    rfl
  · have hbq' : (((p.x.val % 2 : Nat) : Int) == 1) = false := by
      rw [show p.x.val % 2 = 0 by omega]; rfl
    have he : enc p = dig 256 32 p.y.val := by rw [enc, encN, show p.x.val % 2 = 0 by omega, Nat.zero_mul, Nat.add_zero]
    rw [he]
    generalize dig 256 32 p.y.val = Y at *
    generalize dig 256 32 p.x.val = X at *
    generalize p.x.val % 2 = par at *
    generalize p.x.val % 256 = x0 at *
    apply evVal_ex
    apply Exists.intro
    rw [evFun_fn (fn := a33) rfl]
    simp only [a33, ↓steps_chunk, envOf, evCode_skip, evCode_exit, evCode_seq, fs_blockS, fs_blockR, fs_blockC, fs_blockK, fs_blockB, evCode_ret, quiet, keep_nil, keep_cons, fs_cond, fs_region, fs_regionQ, quiet2_eq, lastOf_nil, lastOf_cons, List.take_succ_cons, List.take_zero, List.drop_succ_cons, List.drop_zero, Int.reduceBEq, Int.reduceBNe,  fs_nil, fs_guard, fs_move, fs_pick, fs_alloc, fs_box, fs_load, fs_store, fs_bin, fs_eqv, fs_isNil, fs_un, fs_conv, fs_convStr, fs_field, fs_index, fs_indexStr, fs_build, fs_buildSlice, fs_fieldAddr, fs_indexAddr, fs_indexSl, fs_sliceArr, fs_sliceSl, fs_sliceStr, fs_makeSlice, fs_extract, fs_mkIface, fs_mkFunc, fs_nilCheck, fs_s2ap, fs_len, fs_minmax, fs_s2b, fs_b2s, fs_append, fs_copy, fs_callW, fs_callR, fs_callv, opd_tmp, opd_const, opd_func, opds_nil, opds_cons, opdOpt_none, opdOpt_some, opdParts_nil, opdParts_cons, get_miss, vPick_t, vPick_f, vEq_agg, vEq_aggN, vEq_bool, vEq_boolN, vConv_int, vStr_s, vField_agg, vIndex_agg, vIndexStr_s, vFieldAddr_p, vIndexAddr_p, vIndexSl_s, vSliceArr_p, vSliceSl_s, vSliceSl_n, vSliceStr_s, vExtract_t, vNilCheck_p, vS2ap_s, vLen_s, vLen_str, vMin_i, vMax_i, vLoad_p, vStore_p, baseP_p, vB2s_s, vMake_i, vS2b_s, callee_f, liveAt_eq, storeAt_eq, partL_none, partL_some, natIn_none, natIn_int, bounds3_two, bin_add, bin_sub, bin_mul, bin_quo, bin_rem, bin_and, bin_or, bin_xor, bin_andNot, bin_eql, bin_neq, bin_lss, bin_leq, bin_gtr, bin_geq, bin_shl, bin_shr, bin_sadd, bin_seql, bin_sneq, un_not, un_neg, un_xor, after_some, put_some, put_none, res_nil, res_val, res_var, packed_one, packed_two, merge_nil, merge_ge, rf_tup2, rfIn_int, rfIn_bool, rfIn_u8s, rf_str, rfIn_str, ↓gate_true, gd_bool, gd_ut, gd_uf, ↓guardW_tt, ↓guardW_ff, ↓guardW_tf, ↓guardW_ft, ↓keepW_some, ↓qElseW_some, ↓get_hit, ↓Option.bind_some, ↓if_true, ↓if_false, List.nil_append, List.cons_append, List.all_nil, List.all_cons, List.isEmpty_nil, reduceCtorEq, Bool.false_eq_true, Nat.reduceEqDiff, beq_self_eq_true, bne_self_eq_false, Bool.not_true, Bool.not_false, Int.natCast_nonneg, Nat.lt_irrefl, false_and, Int.reduceEq, rf_int, rf_bool, rf_tuple_ints, rf_u8s, arr_list, toList2, Bool.and_self, Nat.not_lt_zero, Nat.sub_zero, Nat.zero_le, Nat.le_add_right, cells_agg, cells_agg_size, cells_int, cells_int_size, okV_int, okV_bool, okV_str, okV_agg, okV_ptr, okV_slice, okV_func, okV_nilFunc, okV_iface, okV_nilIface, cells_bool, cells_bool_size, cells_ptr, cells_ptr_size, cells_slice, cells_slice_size, cells_str, cells_str_size, eq_self, wrapI64_small, Int.natCast_zero, Int.natCast_one, Int.cast_ofNat_Int, List.length_nil, List.length_cons, List.getElem?_cons_zero, List.getElem?_cons_succ, List.set_cons_zero, List.set_cons_succ, Nat.zero_add, Nat.add_zero, Nat.mul_one, Nat.zero_mul, Int.toNat_natCast, Int.toNat_zero, Int.lt_irrefl, Int.le_refl, Nat.le_refl, and_self, true_and, and_true, decide_true, decide_false, Int.reduceLE, Int.reduceLT, Int.reduceAdd, Int.reduceMul, Int.reduceSub, Int.reduceTDiv, Int.reduceTMod, Int.reduceNeg, Int.reduceToNat, Int.reduceGT, Int.reduceGE, Int.reducePow, Nat.reduceAdd, Nat.reduceMul, Nat.reduceSub, Nat.reduceDiv, Nat.reduceMod, Nat.reducePow, Nat.reduceLT, Nat.reduceLeDiff, Nat.min_self, ge_iff_le, gt_iff_lt, Option.isNone_none, Option.isSome_none, Option.isNone_some, Option.isSome_some, Bool.and_true, Bool.true_and, Bool.and_false, Bool.false_and, not_true_eq_false, not_false_eq_true, or_true, true_or, false_or, or_false, hget0, hgetK, hset0, hsetK, splice_single, splice_whole, take_whole, List.getElem?_nil, List.length_append, List.append_assoc, hz, u0, u1, u2, vi, va, vb, k1, k2, h0c, e0, hbq', List.length_replicate, take_all, eV_cells, eV_size, eV_ok, eV_fold, ns_len, u8s_len, lk, lj, li, lz, L1, rf_eV]
    rfl
end Go.Ev.Ytaceeoghjgggjaa
set_option linter.unusedSimpArgs false
set_option linter.unusedVariables false
namespace Go.Ev.Ytaceeoghjgggjaa
open Go Go.Ev
attribute [local congr] bind_congr2 ite_congr2 qElse_congr gate_congr guardV_congr
set_option maxRecDepth 100000
def hmI (n : List Nat) (i : Int) (c : Nat) (j : Int) (ex : Env) : St := ⟨[(0, .pointer (some ⟨0, 0, none⟩)), (1, .pointer (some ⟨1, 0, none⟩)), (2, .int .i64 i), (3, .int .u64 c), (4, .int .i64 j)] ++ ex, [⟨ns .u64 zero16, true, true, true, 1⟩, ⟨ns .u64 n, true, true, true, 1⟩], []⟩
theorem hm_block {n : List Nat} {i : Int} (hn : Nm n) :
    evCode T 0 (.block 2 (.loop a89_l0)) (hmI n i 0 15 []) = some (.normal, hmI (dig 65536 16 (num 65536 n / 2)) i (num 65536 n % 2) (-1) [(16, .bool false)]) := by
  have hD : Nm (dig 65536 16 (num 65536 n / 2)) := Nm.dig _
  obtain ⟨D, hDd⟩ : ∃ D, D = dig 65536 16 (num 65536 n / 2) := ⟨_, rfl⟩
  rw [← hDd] at hD ⊢
  have hlt := hn.num_lt
  obtain ⟨st, hb, rfl⟩ := block_inv (T := T) (base := 0) (id := 2) (body := a89_l0)
    (fun j st => st = hmI (n.take (16 - j) ++ D.drop (16 - j)) i (num 65536 n / 65536 ^ (16 - j) % 2) ((15 : Int) - j) [])
    (Q := fun st => st = hmI D i (num 65536 n % 2) (-1) [(16, .bool false)])
    16 (s := hmI n i 0 15 []) (by
      rw [Nat.sub_zero, List.take_of_length_le (by rw [hn.len]; omega), List.drop_of_length_le (by rw [hD.len]; omega), List.append_nil, Nat.div_eq_of_lt hlt]; rfl)
    (fun j st hj hs => by
      subst hs
      obtain ⟨m, hm⟩ : ∃ m, 16 - j = m + 1 := ⟨15 - j, by omega⟩
      rw [hm, show (15 : Int) - j = (m : Int) by omega, show 16 - (j + 1) = m by omega, show (15 : Int) - ((j + 1 : Nat) : Int) = (m : Int) - 1 by omega]
      refine ⟨_, ?_, rfl⟩
      obtain ⟨x, hx⟩ : ∃ x, n[m]? = some x := ⟨_, List.getElem?_eq_getElem (by rw [hn.len]; omega)⟩
      have hx' := hn.lt x (List.mem_of_getElem? hx)
      have hxv := num_get (B := 65536) (by decide) hn.lt hx
      obtain ⟨c, hc⟩ : ∃ c, c = num 65536 n / 65536 ^ (m + 1) % 2 := ⟨_, rfl⟩
      rw [← hc]
      have hc2 : num 65536 n / 65536 ^ m / 65536 % 2 = c := by rw [hc, Nat.pow_succ, Nat.div_div_eq_div_mul]
      have hxl : (n.take (m + 1) ++ D.drop (m + 1))[m]? = some x := by
        rw [List.getElem?_append_left (by rw [List.length_take, hn.len]; omega), List.getElem?_take, if_pos (by omega)]; exact hx
      have hdg : D[m]? = some ((x + c * 65536) / 2) := by
        rw [hDd, dig_get (by omega)]
        congr 1
        rw [Nat.div_div_eq_div_mul, Nat.mul_comm 2, ← Nat.div_div_eq_div_mul]
        generalize num 65536 n / 65536 ^ m = q at *
        omega
      have hcn : num 65536 n / 65536 ^ m % 2 = (x + c * 65536) % 2 := by
        generalize num 65536 n / 65536 ^ m = q at *
        omega
      rw [hcn]
      have hstep : (n.take (m + 1) ++ D.drop (m + 1)).set m ((x + c * 65536) / 2) = n.take m ++ D.drop m := by
        rw [List.set_append_left _ _ (by rw [List.length_take, hn.len]; omega), List.take_add_one, hx]
        rw [List.set_append_right _ _ (by rw [List.length_take]; omega)]
        have e : (n.take m).length = m := by rw [List.length_take, hn.len]; omega
        rw [e, Nat.sub_self, List.drop_eq_getElem?_toList_append (i := m), hdg]
        simp
      have hset := ns_set .u64 (n.take (m + 1) ++ D.drop (m + 1)) m ((x + c * 65536) / 2)
      rw [hstep] at hset
      have hlen : (n.take (m + 1) ++ D.drop (m + 1)).length = 16 := by rw [List.length_append, List.length_take, List.length_drop, hn.len, hD.len]; omega
      have hxc := ns_get (k := .u64) hxl
      have hcb : c < 2 := by rw [hc]; exact Nat.mod_lt _ (by decide)
      have w1 : IntKind.i64.wrap ((m : Int) - 1) = (m : Int) - 1 := wrapI64_small (by omega) (by omega)
      have w2 : IntKind.u64.wrap ((c : Int) * 65536) = ((c * 65536 : Nat) : Int) := w64_mul (b := 65536) (by omega)
      have w3 : IntKind.u64.wrap ((x : Int) + ((c * 65536 : Nat) : Int)) = ((x + c * 65536 : Nat) : Int) := w64_add (by omega)
      have w4 : IntKind.u64.wrap (((x + c * 65536 : Nat) : Int).tdiv 2) = (((x + c * 65536) / 2 : Nat) : Int) := w64n (n := (x + c * 65536) / 2) (by omega)
      have w5 : ((x + c * 65536 : Nat) : Int).tmod 2 = (((x + c * 65536) % 2 : Nat) : Int) := rfl
      have e1 : ((0 : Int) ≤ (m : Int)) = True := eq_true (by omega)
      have e2 : ((m : Int) < 16) = True := eq_true (by omega)
      have e4 : (m ≤ 15) = True := eq_true (by omega)
      clear hc hc2 hcn hdg hstep
      generalize n.take (m + 1) ++ D.drop (m + 1) = A1 at *
      generalize n.take m ++ D.drop m = A2 at *
      generalize (x + c * 65536) / 2 = u at *
      generalize (x + c * 65536) % 2 = u2 at *
      generalize x + c * 65536 = v at *
      generalize c * 65536 = v2 at *
      simp only [hmI, a89_l0, envOf, evCode_skip, evCode_exit, evCode_seq, fs_blockS, fs_blockR, fs_blockC, fs_blockK, fs_blockB, evCode_ret, quiet, keep_nil, keep_cons, fs_cond, fs_region, fs_regionQ, quiet2_eq, lastOf_nil, lastOf_cons, List.take_succ_cons, List.take_zero, List.drop_succ_cons, List.drop_zero, Int.reduceBEq, Int.reduceBNe,  fs_nil, fs_guard, fs_move, fs_pick, fs_alloc, fs_box, fs_load, fs_store, fs_bin, fs_eqv, fs_isNil, fs_un, fs_conv, fs_convStr, fs_field, fs_index, fs_indexStr, fs_build, fs_buildSlice, fs_fieldAddr, fs_indexAddr, fs_indexSl, fs_sliceArr, fs_sliceSl, fs_sliceStr, fs_makeSlice, fs_extract, fs_mkIface, fs_mkFunc, fs_nilCheck, fs_s2ap, fs_len, fs_minmax, fs_s2b, fs_b2s, fs_append, fs_copy, fs_callW, fs_callR, fs_callv, opd_tmp, opd_const, opd_func, opds_nil, opds_cons, opdOpt_none, opdOpt_some, opdParts_nil, opdParts_cons, get_miss, vPick_t, vPick_f, vEq_agg, vEq_aggN, vEq_bool, vEq_boolN, vConv_int, vStr_s, vField_agg, vIndex_agg, vIndexStr_s, vFieldAddr_p, vIndexAddr_p, vIndexSl_s, vSliceArr_p, vSliceSl_s, vSliceSl_n, vSliceStr_s, vExtract_t, vNilCheck_p, vS2ap_s, vLen_s, vLen_str, vMin_i, vMax_i, vLoad_p, vStore_p, baseP_p, vB2s_s, vMake_i, vS2b_s, callee_f, liveAt_eq, storeAt_eq, partL_none, partL_some, natIn_none, natIn_int, bounds3_two, bin_add, bin_sub, bin_mul, bin_quo, bin_rem, bin_and, bin_or, bin_xor, bin_andNot, bin_eql, bin_neq, bin_lss, bin_leq, bin_gtr, bin_geq, bin_shl, bin_shr, bin_sadd, bin_seql, bin_sneq, un_not, un_neg, un_xor, after_some, put_some, put_none, res_nil, res_val, res_var, packed_one, packed_two, merge_nil, merge_ge, rf_tup2, rfIn_int, rfIn_bool, rfIn_u8s, rf_str, rfIn_str, ↓gate_true, gd_bool, gd_ut, gd_uf, ↓guardV_tt, ↓guardV_ff, ↓guardV_tf, ↓guardV_ft, ↓keepV_some, ↓qElse_some, ↓get_hit, ↓Option.bind_some, ↓if_true, ↓if_false, List.nil_append, List.cons_append, List.all_nil, List.all_cons, List.isEmpty_nil, reduceCtorEq, Bool.false_eq_true, Nat.reduceEqDiff, beq_self_eq_true, bne_self_eq_false, Bool.not_true, Bool.not_false, Int.natCast_nonneg, Nat.lt_irrefl, false_and, Int.reduceEq, rf_int, rf_bool, rf_tuple_ints, rf_u8s, arr_list, toList2, Bool.and_self, Nat.not_lt_zero, Nat.sub_zero, Nat.zero_le, Nat.le_add_right, cells_agg, cells_agg_size, cells_int, cells_int_size, okV_int, okV_bool, okV_str, okV_agg, okV_ptr, okV_slice, okV_func, okV_nilFunc, okV_iface, okV_nilIface, cells_bool, cells_bool_size, cells_ptr, cells_ptr_size, cells_slice, cells_slice_size, cells_str, cells_str_size, eq_self, wrapI64_small, Int.natCast_zero, Int.natCast_one, Int.cast_ofNat_Int, List.length_nil, List.length_cons, List.getElem?_cons_zero, List.getElem?_cons_succ, List.set_cons_zero, List.set_cons_succ, Nat.zero_add, Nat.add_zero, Nat.mul_one, Nat.zero_mul, Int.toNat_natCast, Int.toNat_zero, Int.lt_irrefl, Int.le_refl, Nat.le_refl, and_self, true_and, and_true, decide_true, decide_false, Int.reduceLE, Int.reduceLT, Int.reduceAdd, Int.reduceMul, Int.reduceSub, Int.reduceTDiv, Int.reduceTMod, Int.reduceNeg, Int.reduceToNat, Int.reduceGT, Int.reduceGE, Int.reducePow, Nat.reduceAdd, Nat.reduceMul, Nat.reduceSub, Nat.reduceDiv, Nat.reduceMod, Nat.reducePow, Nat.reduceLT, Nat.reduceLeDiff, Nat.min_self, ge_iff_le, gt_iff_lt, Option.isNone_none, Option.isSome_none, Option.isNone_some, Option.isSome_some, Bool.and_true, Bool.true_and, Bool.and_false, Bool.false_and, not_true_eq_false, not_false_eq_true, or_true, true_or, false_or, or_false, hget0, hgetK, hset0, hsetK, splice_single, splice_whole, take_whole, List.getElem?_nil, List.length_append, List.append_assoc, hxc, w1, w2, w3, w4, w5, e1, e2, e4, hset, ns_len, hlen])
    (fun st hs => by
      subst hs
      have e : ((0 : Int) ≤ -1) = False := by decide
      refine ⟨_, ?_, rfl⟩
      rw [show (15 : Int) - ((16 : Nat) : Int) = -1 by omega, Nat.sub_self, List.take_zero, List.drop_zero, List.nil_append, Nat.pow_zero, Nat.div_one]
      simp only [hmI, a89_l0, envOf, evCode_skip, evCode_exit, evCode_seq, fs_blockS, fs_blockR, fs_blockC, fs_blockK, fs_blockB, evCode_ret, quiet, keep_nil, keep_cons, fs_cond, fs_region, fs_regionQ, quiet2_eq, lastOf_nil, lastOf_cons, List.take_succ_cons, List.take_zero, List.drop_succ_cons, List.drop_zero, Int.reduceBEq, Int.reduceBNe,  fs_nil, fs_guard, fs_move, fs_pick, fs_alloc, fs_box, fs_load, fs_store, fs_bin, fs_eqv, fs_isNil, fs_un, fs_conv, fs_convStr, fs_field, fs_index, fs_indexStr, fs_build, fs_buildSlice, fs_fieldAddr, fs_indexAddr, fs_indexSl, fs_sliceArr, fs_sliceSl, fs_sliceStr, fs_makeSlice, fs_extract, fs_mkIface, fs_mkFunc, fs_nilCheck, fs_s2ap, fs_len, fs_minmax, fs_s2b, fs_b2s, fs_append, fs_copy, fs_callW, fs_callR, fs_callv, opd_tmp, opd_const, opd_func, opds_nil, opds_cons, opdOpt_none, opdOpt_some, opdParts_nil, opdParts_cons, get_miss, vPick_t, vPick_f, vEq_agg, vEq_aggN, vEq_bool, vEq_boolN, vConv_int, vStr_s, vField_agg, vIndex_agg, vIndexStr_s, vFieldAddr_p, vIndexAddr_p, vIndexSl_s, vSliceArr_p, vSliceSl_s, vSliceSl_n, vSliceStr_s, vExtract_t, vNilCheck_p, vS2ap_s, vLen_s, vLen_str, vMin_i, vMax_i, vLoad_p, vStore_p, baseP_p, vB2s_s, vMake_i, vS2b_s, callee_f, liveAt_eq, storeAt_eq, partL_none, partL_some, natIn_none, natIn_int, bounds3_two, bin_add, bin_sub, bin_mul, bin_quo, bin_rem, bin_and, bin_or, bin_xor, bin_andNot, bin_eql, bin_neq, bin_lss, bin_leq, bin_gtr, bin_geq, bin_shl, bin_shr, bin_sadd, bin_seql, bin_sneq, un_not, un_neg, un_xor, after_some, put_some, put_none, res_nil, res_val, res_var, packed_one, packed_two, merge_nil, merge_ge, rf_tup2, rfIn_int, rfIn_bool, rfIn_u8s, rf_str, rfIn_str, ↓gate_true, gd_bool, gd_ut, gd_uf, ↓guardV_tt, ↓guardV_ff, ↓guardV_tf, ↓guardV_ft, ↓keepV_some, ↓qElse_some, ↓get_hit, ↓Option.bind_some, ↓if_true, ↓if_false, List.nil_append, List.cons_append, List.all_nil, List.all_cons, List.isEmpty_nil, reduceCtorEq, Bool.false_eq_true, Nat.reduceEqDiff, beq_self_eq_true, bne_self_eq_false, Bool.not_true, Bool.not_false, Int.natCast_nonneg, Nat.lt_irrefl, false_and, Int.reduceEq, rf_int, rf_bool, rf_tuple_ints, rf_u8s, arr_list, toList2, Bool.and_self, Nat.not_lt_zero, Nat.sub_zero, Nat.zero_le, Nat.le_add_right, cells_agg, cells_agg_size, cells_int, cells_int_size, okV_int, okV_bool, okV_str, okV_agg, okV_ptr, okV_slice, okV_func, okV_nilFunc, okV_iface, okV_nilIface, cells_bool, cells_bool_size, cells_ptr, cells_ptr_size, cells_slice, cells_slice_size, cells_str, cells_str_size, eq_self, wrapI64_small, Int.natCast_zero, Int.natCast_one, Int.cast_ofNat_Int, List.length_nil, List.length_cons, List.getElem?_cons_zero, List.getElem?_cons_succ, List.set_cons_zero, List.set_cons_succ, Nat.zero_add, Nat.add_zero, Nat.mul_one, Nat.zero_mul, Int.toNat_natCast, Int.toNat_zero, Int.lt_irrefl, Int.le_refl, Nat.le_refl, and_self, true_and, and_true, decide_true, decide_false, Int.reduceLE, Int.reduceLT, Int.reduceAdd, Int.reduceMul, Int.reduceSub, Int.reduceTDiv, Int.reduceTMod, Int.reduceNeg, Int.reduceToNat, Int.reduceGT, Int.reduceGE, Int.reducePow, Nat.reduceAdd, Nat.reduceMul, Nat.reduceSub, Nat.reduceDiv, Nat.reduceMod, Nat.reducePow, Nat.reduceLT, Nat.reduceLeDiff, Nat.min_self, ge_iff_le, gt_iff_lt, Option.isNone_none, Option.isSome_none, Option.isNone_some, Option.isSome_some, Bool.and_true, Bool.true_and, Bool.and_false, Bool.false_and, not_true_eq_false, not_false_eq_true, or_true, true_or, false_or, or_false, e])
  exact hb
def hmO (n : List Nat) (i : Int) (ex : Env) : St := ⟨[(0, .pointer (some ⟨0, 0, none⟩)), (1, .pointer (some ⟨1, 0, none⟩)), (2, .int .i64 i)] ++ ex, [⟨ns .u64 zero16, true, true, true, 1⟩, ⟨ns .u64 n, true, true, true, 1⟩], []⟩
theorem hm_outer {n : List Nat} (hn : Nm n) :
    evCode T 0 (.block 0 (.loop a89_l1)) (hmO n 0 []) = some (.normal, hmO (dig 65536 16 (num 65536 n / 2 ^ 2)) 2 [(12, .bool false)]) := by
  obtain ⟨st, hb, rfl⟩ := block_inv (T := T) (base := 0) (id := 0) (body := a89_l1)
    (fun i st => ∃ ex, st = hmO (dig 65536 16 (num 65536 n / 2 ^ i)) i ex)
    (Q := fun st => st = hmO (dig 65536 16 (num 65536 n / 2 ^ 2)) 2 [(12, .bool false)])
    2 (s := hmO n 0 []) ⟨[], by rw [Nat.pow_zero, Nat.div_one, ← hn.eq]; rfl⟩
    (fun i st hi hs => by
      obtain ⟨ex, rfl⟩ := hs
      have hN := Nm.dig (num 65536 n / 2 ^ i)
      have hlt : num 65536 n / 2 ^ i < 2 ^ 256 := Nat.lt_of_le_of_lt (Nat.div_le_self _ _) hn.num_lt
      have hb := hm_block (i := (i : Int)) hN
      rw [nm_dig hlt, Nat.div_div_eq_div_mul, ← Nat.pow_succ] at hb
      simp only [hmI, List.cons_append, List.nil_append, Int.natCast_zero] at hb
      have w1 : IntKind.i64.wrap ((i : Int) + 1) = ((i + 1 : Nat) : Int) := wi_add (b := 1) (by omega)
      have e1 : ((i : Int) < 2) = True := eq_true (by omega)
      refine ⟨_, ?_, [], rfl⟩
      generalize dig 65536 16 (num 65536 n / 2 ^ i) = A at *
      generalize dig 65536 16 (num 65536 n / 2 ^ (i + 1)) = A' at *
      simp only [hmO, a89_l1, envOf, evCode_skip, evCode_exit, evCode_seq, fs_blockS, fs_blockR, fs_blockC, fs_blockK, fs_blockB, evCode_ret, quiet, keep_nil, keep_cons, fs_cond, fs_region, fs_regionQ, quiet2_eq, lastOf_nil, lastOf_cons, List.take_succ_cons, List.take_zero, List.drop_succ_cons, List.drop_zero, Int.reduceBEq, Int.reduceBNe,  fs_nil, fs_guard, fs_move, fs_pick, fs_alloc, fs_box, fs_load, fs_store, fs_bin, fs_eqv, fs_isNil, fs_un, fs_conv, fs_convStr, fs_field, fs_index, fs_indexStr, fs_build, fs_buildSlice, fs_fieldAddr, fs_indexAddr, fs_indexSl, fs_sliceArr, fs_sliceSl, fs_sliceStr, fs_makeSlice, fs_extract, fs_mkIface, fs_mkFunc, fs_nilCheck, fs_s2ap, fs_len, fs_minmax, fs_s2b, fs_b2s, fs_append, fs_copy, fs_callW, fs_callR, fs_callv, opd_tmp, opd_const, opd_func, opds_nil, opds_cons, opdOpt_none, opdOpt_some, opdParts_nil, opdParts_cons, get_miss, vPick_t, vPick_f, vEq_agg, vEq_aggN, vEq_bool, vEq_boolN, vConv_int, vStr_s, vField_agg, vIndex_agg, vIndexStr_s, vFieldAddr_p, vIndexAddr_p, vIndexSl_s, vSliceArr_p, vSliceSl_s, vSliceSl_n, vSliceStr_s, vExtract_t, vNilCheck_p, vS2ap_s, vLen_s, vLen_str, vMin_i, vMax_i, vLoad_p, vStore_p, baseP_p, vB2s_s, vMake_i, vS2b_s, callee_f, liveAt_eq, storeAt_eq, partL_none, partL_some, natIn_none, natIn_int, bounds3_two, bin_add, bin_sub, bin_mul, bin_quo, bin_rem, bin_and, bin_or, bin_xor, bin_andNot, bin_eql, bin_neq, bin_lss, bin_leq, bin_gtr, bin_geq, bin_shl, bin_shr, bin_sadd, bin_seql, bin_sneq, un_not, un_neg, un_xor, after_some, put_some, put_none, res_nil, res_val, res_var, packed_one, packed_two, merge_nil, merge_ge, rf_tup2, rfIn_int, rfIn_bool, rfIn_u8s, rf_str, rfIn_str, ↓gate_true, gd_bool, gd_ut, gd_uf, ↓guardV_tt, ↓guardV_ff, ↓guardV_tf, ↓guardV_ft, ↓keepV_some, ↓qElse_some, ↓get_hit, ↓Option.bind_some, ↓if_true, ↓if_false, List.nil_append, List.cons_append, List.all_nil, List.all_cons, List.isEmpty_nil, reduceCtorEq, Bool.false_eq_true, Nat.reduceEqDiff, beq_self_eq_true, bne_self_eq_false, Bool.not_true, Bool.not_false, Int.natCast_nonneg, Nat.lt_irrefl, false_and, Int.reduceEq, rf_int, rf_bool, rf_tuple_ints, rf_u8s, arr_list, toList2, Bool.and_self, Nat.not_lt_zero, Nat.sub_zero, Nat.zero_le, Nat.le_add_right, cells_agg, cells_agg_size, cells_int, cells_int_size, okV_int, okV_bool, okV_str, okV_agg, okV_ptr, okV_slice, okV_func, okV_nilFunc, okV_iface, okV_nilIface, cells_bool, cells_bool_size, cells_ptr, cells_ptr_size, cells_slice, cells_slice_size, cells_str, cells_str_size, eq_self, wrapI64_small, Int.natCast_zero, Int.natCast_one, Int.cast_ofNat_Int, List.length_nil, List.length_cons, List.getElem?_cons_zero, List.getElem?_cons_succ, List.set_cons_zero, List.set_cons_succ, Nat.zero_add, Nat.add_zero, Nat.mul_one, Nat.zero_mul, Int.toNat_natCast, Int.toNat_zero, Int.lt_irrefl, Int.le_refl, Nat.le_refl, and_self, true_and, and_true, decide_true, decide_false, Int.reduceLE, Int.reduceLT, Int.reduceAdd, Int.reduceMul, Int.reduceSub, Int.reduceTDiv, Int.reduceTMod, Int.reduceNeg, Int.reduceToNat, Int.reduceGT, Int.reduceGE, Int.reducePow, Nat.reduceAdd, Nat.reduceMul, Nat.reduceSub, Nat.reduceDiv, Nat.reduceMod, Nat.reducePow, Nat.reduceLT, Nat.reduceLeDiff, Nat.min_self, ge_iff_le, gt_iff_lt, Option.isNone_none, Option.isSome_none, Option.isNone_some, Option.isSome_some, Bool.and_true, Bool.true_and, Bool.and_false, Bool.false_and, not_true_eq_false, not_false_eq_true, or_true, true_or, false_or, or_false, hget0, hgetK, hset0, hsetK, splice_single, splice_whole, take_whole, List.getElem?_nil, List.length_append, List.append_assoc, hb, w1, e1])
    (fun st hs => by
      obtain ⟨ex, rfl⟩ := hs
      refine ⟨_, ?_, rfl⟩
      generalize dig 65536 16 (num 65536 n / 2 ^ 2) = A at *
      simp only [hmO, a89_l1, envOf, evCode_skip, evCode_exit, evCode_seq, fs_blockS, fs_blockR, fs_blockC, fs_blockK, fs_blockB, evCode_ret, quiet, keep_nil, keep_cons, fs_cond, fs_region, fs_regionQ, quiet2_eq, lastOf_nil, lastOf_cons, List.take_succ_cons, List.take_zero, List.drop_succ_cons, List.drop_zero, Int.reduceBEq, Int.reduceBNe,  fs_nil, fs_guard, fs_move, fs_pick, fs_alloc, fs_box, fs_load, fs_store, fs_bin, fs_eqv, fs_isNil, fs_un, fs_conv, fs_convStr, fs_field, fs_index, fs_indexStr, fs_build, fs_buildSlice, fs_fieldAddr, fs_indexAddr, fs_indexSl, fs_sliceArr, fs_sliceSl, fs_sliceStr, fs_makeSlice, fs_extract, fs_mkIface, fs_mkFunc, fs_nilCheck, fs_s2ap, fs_len, fs_minmax, fs_s2b, fs_b2s, fs_append, fs_copy, fs_callW, fs_callR, fs_callv, opd_tmp, opd_const, opd_func, opds_nil, opds_cons, opdOpt_none, opdOpt_some, opdParts_nil, opdParts_cons, get_miss, vPick_t, vPick_f, vEq_agg, vEq_aggN, vEq_bool, vEq_boolN, vConv_int, vStr_s, vField_agg, vIndex_agg, vIndexStr_s, vFieldAddr_p, vIndexAddr_p, vIndexSl_s, vSliceArr_p, vSliceSl_s, vSliceSl_n, vSliceStr_s, vExtract_t, vNilCheck_p, vS2ap_s, vLen_s, vLen_str, vMin_i, vMax_i, vLoad_p, vStore_p, baseP_p, vB2s_s, vMake_i, vS2b_s, callee_f, liveAt_eq, storeAt_eq, partL_none, partL_some, natIn_none, natIn_int, bounds3_two, bin_add, bin_sub, bin_mul, bin_quo, bin_rem, bin_and, bin_or, bin_xor, bin_andNot, bin_eql, bin_neq, bin_lss, bin_leq, bin_gtr, bin_geq, bin_shl, bin_shr, bin_sadd, bin_seql, bin_sneq, un_not, un_neg, un_xor, after_some, put_some, put_none, res_nil, res_val, res_var, packed_one, packed_two, merge_nil, merge_ge, rf_tup2, rfIn_int, rfIn_bool, rfIn_u8s, rf_str, rfIn_str, ↓gate_true, gd_bool, gd_ut, gd_uf, ↓guardV_tt, ↓guardV_ff, ↓guardV_tf, ↓guardV_ft, ↓keepV_some, ↓qElse_some, ↓get_hit, ↓Option.bind_some, ↓if_true, ↓if_false, List.nil_append, List.cons_append, List.all_nil, List.all_cons, List.isEmpty_nil, reduceCtorEq, Bool.false_eq_true, Nat.reduceEqDiff, beq_self_eq_true, bne_self_eq_false, Bool.not_true, Bool.not_false, Int.natCast_nonneg, Nat.lt_irrefl, false_and, Int.reduceEq, rf_int, rf_bool, rf_tuple_ints, rf_u8s, arr_list, toList2, Bool.and_self, Nat.not_lt_zero, Nat.sub_zero, Nat.zero_le, Nat.le_add_right, cells_agg, cells_agg_size, cells_int, cells_int_size, okV_int, okV_bool, okV_str, okV_agg, okV_ptr, okV_slice, okV_func, okV_nilFunc, okV_iface, okV_nilIface, cells_bool, cells_bool_size, cells_ptr, cells_ptr_size, cells_slice, cells_slice_size, cells_str, cells_str_size, eq_self, wrapI64_small, Int.natCast_zero, Int.natCast_one, Int.cast_ofNat_Int, List.length_nil, List.length_cons, List.getElem?_cons_zero, List.getElem?_cons_succ, List.set_cons_zero, List.set_cons_succ, Nat.zero_add, Nat.add_zero, Nat.mul_one, Nat.zero_mul, Int.toNat_natCast, Int.toNat_zero, Int.lt_irrefl, Int.le_refl, Nat.le_refl, and_self, true_and, and_true, decide_true, decide_false, Int.reduceLE, Int.reduceLT, Int.reduceAdd, Int.reduceMul, Int.reduceSub, Int.reduceTDiv, Int.reduceTMod, Int.reduceNeg, Int.reduceToNat, Int.reduceGT, Int.reduceGE, Int.reducePow, Nat.reduceAdd, Nat.reduceMul, Nat.reduceSub, Nat.reduceDiv, Nat.reduceMod, Nat.reducePow, Nat.reduceLT, Nat.reduceLeDiff, Nat.min_self, ge_iff_le, gt_iff_lt, Option.isNone_none, Option.isSome_none, Option.isNone_some, Option.isSome_some, Bool.and_true, Bool.true_and, Bool.and_false, Bool.false_and, not_true_eq_false, not_false_eq_true, or_true, true_or, false_or, or_false, hget0, hgetK, hset0, hsetK, splice_single, splice_whole, take_whole, List.getElem?_nil, List.length_append, List.append_assoc])
  exact hb
def hrI (a n : List Nat) (i : Int) (c : Nat) (j : Int) (ex : Env) : St := ⟨[(1, .pointer (some ⟨0, 0, none⟩)), (2, .pointer (some ⟨1, 0, none⟩)), (4, .pointer (some ⟨2, 0, none⟩)), (5, .int .i64 i), (6, .int .u64 c), (7, .int .i64 j)] ++ ex, [⟨ns .u64 a, true, true, true, 1⟩, ⟨ns .u64 zero16, true, true, true, 1⟩, ⟨ns .u64 n, true, true, true, 1⟩], []⟩
theorem hr_block {a n : List Nat} {i : Int} (hn : Nm n) :
    evCode T 0 (.block 2 (.loop a68_l0)) (hrI a n i 0 15 []) = some (.normal, hrI a (dig 65536 16 (num 65536 n / 2)) i (num 65536 n % 2) (-1) [(20, .bool false)]) := by
  have hD : Nm (dig 65536 16 (num 65536 n / 2)) := Nm.dig _
  obtain ⟨D, hDd⟩ : ∃ D, D = dig 65536 16 (num 65536 n / 2) := ⟨_, rfl⟩
  rw [← hDd] at hD ⊢
  have hlt := hn.num_lt
  obtain ⟨st, hb, rfl⟩ := block_inv (T := T) (base := 0) (id := 2) (body := a68_l0)
    (fun j st => st = hrI a (n.take (16 - j) ++ D.drop (16 - j)) i (num 65536 n / 65536 ^ (16 - j) % 2) ((15 : Int) - j) [])
    (Q := fun st => st = hrI a D i (num 65536 n % 2) (-1) [(20, .bool false)])
    16 (s := hrI a n i 0 15 []) (by
      rw [Nat.sub_zero, List.take_of_length_le (by rw [hn.len]; omega), List.drop_of_length_le (by rw [hD.len]; omega), List.append_nil, Nat.div_eq_of_lt hlt]; rfl)
    (fun j st hj hs => by
      subst hs
      obtain ⟨m, hm⟩ : ∃ m, 16 - j = m + 1 := ⟨15 - j, by omega⟩
      rw [hm, show (15 : Int) - j = (m : Int) by omega, show 16 - (j + 1) = m by omega, show (15 : Int) - ((j + 1 : Nat) : Int) = (m : Int) - 1 by omega]
      refine ⟨_, ?_, rfl⟩
      obtain ⟨x, hx⟩ : ∃ x, n[m]? = some x := ⟨_, List.getElem?_eq_getElem (by rw [hn.len]; omega)⟩
      have hx' := hn.lt x (List.mem_of_getElem? hx)
      have hxv := num_get (B := 65536) (by decide) hn.lt hx
      obtain ⟨c, hc⟩ : ∃ c, c = num 65536 n / 65536 ^ (m + 1) % 2 := ⟨_, rfl⟩
      rw [← hc]
      have hc2 : num 65536 n / 65536 ^ m / 65536 % 2 = c := by rw [hc, Nat.pow_succ, Nat.div_div_eq_div_mul]
      have hxl : (n.take (m + 1) ++ D.drop (m + 1))[m]? = some x := by
        rw [List.getElem?_append_left (by rw [List.length_take, hn.len]; omega), List.getElem?_take, if_pos (by omega)]; exact hx
      have hdg : D[m]? = some ((x + c * 65536) / 2) := by
        rw [hDd, dig_get (by omega)]
        congr 1
        rw [Nat.div_div_eq_div_mul, Nat.mul_comm 2, ← Nat.div_div_eq_div_mul]
        generalize num 65536 n / 65536 ^ m = q at *
        omega
      have hcn : num 65536 n / 65536 ^ m % 2 = (x + c * 65536) % 2 := by
        generalize num 65536 n / 65536 ^ m = q at *
        omega
      rw [hcn]
      have hstep : (n.take (m + 1) ++ D.drop (m + 1)).set m ((x + c * 65536) / 2) = n.take m ++ D.drop m := by
        rw [List.set_append_left _ _ (by rw [List.length_take, hn.len]; omega), List.take_add_one, hx]
        rw [List.set_append_right _ _ (by rw [List.length_take]; omega)]
        have e : (n.take m).length = m := by rw [List.length_take, hn.len]; omega
        rw [e, Nat.sub_self, List.drop_eq_getElem?_toList_append (i := m), hdg]
        simp
      have hset := ns_set .u64 (n.take (m + 1) ++ D.drop (m + 1)) m ((x + c * 65536) / 2)
      rw [hstep] at hset
      have hlen : (n.take (m + 1) ++ D.drop (m + 1)).length = 16 := by rw [List.length_append, List.length_take, List.length_drop, hn.len, hD.len]; omega
      have hxc := ns_get (k := .u64) hxl
      have hcb : c < 2 := by rw [hc]; exact Nat.mod_lt _ (by decide)
      have w1 : IntKind.i64.wrap ((m : Int) - 1) = (m : Int) - 1 := wrapI64_small (by omega) (by omega)
      have w2 : IntKind.u64.wrap ((c : Int) * 65536) = ((c * 65536 : Nat) : Int) := w64_mul (b := 65536) (by omega)
      have w3 : IntKind.u64.wrap ((x : Int) + ((c * 65536 : Nat) : Int)) = ((x + c * 65536 : Nat) : Int) := w64_add (by omega)
      have w4 : IntKind.u64.wrap (((x + c * 65536 : Nat) : Int).tdiv 2) = (((x + c * 65536) / 2 : Nat) : Int) := w64n (n := (x + c * 65536) / 2) (by omega)
      have w5 : ((x + c * 65536 : Nat) : Int).tmod 2 = (((x + c * 65536) % 2 : Nat) : Int) := rfl
      have e1 : ((0 : Int) ≤ (m : Int)) = True := eq_true (by omega)
      have e2 : ((m : Int) < 16) = True := eq_true (by omega)
      have e4 : (m ≤ 15) = True := eq_true (by omega)
      clear hc hc2 hcn hdg hstep
      generalize n.take (m + 1) ++ D.drop (m + 1) = A1 at *
      generalize n.take m ++ D.drop m = A2 at *
      generalize (x + c * 65536) / 2 = u at *
      generalize (x + c * 65536) % 2 = u2 at *
      generalize x + c * 65536 = v at *
      generalize c * 65536 = v2 at *
      simp only [hrI, a68_l0, envOf, evCode_skip, evCode_exit, evCode_seq, fs_blockS, fs_blockR, fs_blockC, fs_blockK, fs_blockB, evCode_ret, quiet, keep_nil, keep_cons, fs_cond, fs_region, fs_regionQ, quiet2_eq, lastOf_nil, lastOf_cons, List.take_succ_cons, List.take_zero, List.drop_succ_cons, List.drop_zero, Int.reduceBEq, Int.reduceBNe,  fs_nil, fs_guard, fs_move, fs_pick, fs_alloc, fs_box, fs_load, fs_store, fs_bin, fs_eqv, fs_isNil, fs_un, fs_conv, fs_convStr, fs_field, fs_index, fs_indexStr, fs_build, fs_buildSlice, fs_fieldAddr, fs_indexAddr, fs_indexSl, fs_sliceArr, fs_sliceSl, fs_sliceStr, fs_makeSlice, fs_extract, fs_mkIface, fs_mkFunc, fs_nilCheck, fs_s2ap, fs_len, fs_minmax, fs_s2b, fs_b2s, fs_append, fs_copy, fs_callW, fs_callR, fs_callv, opd_tmp, opd_const, opd_func, opds_nil, opds_cons, opdOpt_none, opdOpt_some, opdParts_nil, opdParts_cons, get_miss, vPick_t, vPick_f, vEq_agg, vEq_aggN, vEq_bool, vEq_boolN, vConv_int, vStr_s, vField_agg, vIndex_agg, vIndexStr_s, vFieldAddr_p, vIndexAddr_p, vIndexSl_s, vSliceArr_p, vSliceSl_s, vSliceSl_n, vSliceStr_s, vExtract_t, vNilCheck_p, vS2ap_s, vLen_s, vLen_str, vMin_i, vMax_i, vLoad_p, vStore_p, baseP_p, vB2s_s, vMake_i, vS2b_s, callee_f, liveAt_eq, storeAt_eq, partL_none, partL_some, natIn_none, natIn_int, bounds3_two, bin_add, bin_sub, bin_mul, bin_quo, bin_rem, bin_and, bin_or, bin_xor, bin_andNot, bin_eql, bin_neq, bin_lss, bin_leq, bin_gtr, bin_geq, bin_shl, bin_shr, bin_sadd, bin_seql, bin_sneq, un_not, un_neg, un_xor, after_some, put_some, put_none, res_nil, res_val, res_var, packed_one, packed_two, merge_nil, merge_ge, rf_tup2, rfIn_int, rfIn_bool, rfIn_u8s, rf_str, rfIn_str, ↓gate_true, gd_bool, gd_ut, gd_uf, ↓guardV_tt, ↓guardV_ff, ↓guardV_tf, ↓guardV_ft, ↓keepV_some, ↓qElse_some, ↓get_hit, ↓Option.bind_some, ↓if_true, ↓if_false, List.nil_append, List.cons_append, List.all_nil, List.all_cons, List.isEmpty_nil, reduceCtorEq, Bool.false_eq_true, Nat.reduceEqDiff, beq_self_eq_true, bne_self_eq_false, Bool.not_true, Bool.not_false, Int.natCast_nonneg, Nat.lt_irrefl, false_and, Int.reduceEq, rf_int, rf_bool, rf_tuple_ints, rf_u8s, arr_list, toList2, Bool.and_self, Nat.not_lt_zero, Nat.sub_zero, Nat.zero_le, Nat.le_add_right, cells_agg, cells_agg_size, cells_int, cells_int_size, okV_int, okV_bool, okV_str, okV_agg, okV_ptr, okV_slice, okV_func, okV_nilFunc, okV_iface, okV_nilIface, cells_bool, cells_bool_size, cells_ptr, cells_ptr_size, cells_slice, cells_slice_size, cells_str, cells_str_size, eq_self, wrapI64_small, Int.natCast_zero, Int.natCast_one, Int.cast_ofNat_Int, List.length_nil, List.length_cons, List.getElem?_cons_zero, List.getElem?_cons_succ, List.set_cons_zero, List.set_cons_succ, Nat.zero_add, Nat.add_zero, Nat.mul_one, Nat.zero_mul, Int.toNat_natCast, Int.toNat_zero, Int.lt_irrefl, Int.le_refl, Nat.le_refl, and_self, true_and, and_true, decide_true, decide_false, Int.reduceLE, Int.reduceLT, Int.reduceAdd, Int.reduceMul, Int.reduceSub, Int.reduceTDiv, Int.reduceTMod, Int.reduceNeg, Int.reduceToNat, Int.reduceGT, Int.reduceGE, Int.reducePow, Nat.reduceAdd, Nat.reduceMul, Nat.reduceSub, Nat.reduceDiv, Nat.reduceMod, Nat.reducePow, Nat.reduceLT, Nat.reduceLeDiff, Nat.min_self, ge_iff_le, gt_iff_lt, Option.isNone_none, Option.isSome_none, Option.isNone_some, Option.isSome_some, Bool.and_true, Bool.true_and, Bool.and_false, Bool.false_and, not_true_eq_false, not_false_eq_true, or_true, true_or, false_or, or_false, hget0, hgetK, hset0, hsetK, splice_single, splice_whole, take_whole, List.getElem?_nil, List.length_append, List.append_assoc, hxc, w1, w2, w3, w4, w5, e1, e2, e4, hset, ns_len, hlen])
    (fun st hs => by
      subst hs
      have e : ((0 : Int) ≤ -1) = False := by decide
      refine ⟨_, ?_, rfl⟩
      rw [show (15 : Int) - ((16 : Nat) : Int) = -1 by omega, Nat.sub_self, List.take_zero, List.drop_zero, List.nil_append, Nat.pow_zero, Nat.div_one]
      simp only [hrI, a68_l0, envOf, evCode_skip, evCode_exit, evCode_seq, fs_blockS, fs_blockR, fs_blockC, fs_blockK, fs_blockB, evCode_ret, quiet, keep_nil, keep_cons, fs_cond, fs_region, fs_regionQ, quiet2_eq, lastOf_nil, lastOf_cons, List.take_succ_cons, List.take_zero, List.drop_succ_cons, List.drop_zero, Int.reduceBEq, Int.reduceBNe,  fs_nil, fs_guard, fs_move, fs_pick, fs_alloc, fs_box, fs_load, fs_store, fs_bin, fs_eqv, fs_isNil, fs_un, fs_conv, fs_convStr, fs_field, fs_index, fs_indexStr, fs_build, fs_buildSlice, fs_fieldAddr, fs_indexAddr, fs_indexSl, fs_sliceArr, fs_sliceSl, fs_sliceStr, fs_makeSlice, fs_extract, fs_mkIface, fs_mkFunc, fs_nilCheck, fs_s2ap, fs_len, fs_minmax, fs_s2b, fs_b2s, fs_append, fs_copy, fs_callW, fs_callR, fs_callv, opd_tmp, opd_const, opd_func, opds_nil, opds_cons, opdOpt_none, opdOpt_some, opdParts_nil, opdParts_cons, get_miss, vPick_t, vPick_f, vEq_agg, vEq_aggN, vEq_bool, vEq_boolN, vConv_int, vStr_s, vField_agg, vIndex_agg, vIndexStr_s, vFieldAddr_p, vIndexAddr_p, vIndexSl_s, vSliceArr_p, vSliceSl_s, vSliceSl_n, vSliceStr_s, vExtract_t, vNilCheck_p, vS2ap_s, vLen_s, vLen_str, vMin_i, vMax_i, vLoad_p, vStore_p, baseP_p, vB2s_s, vMake_i, vS2b_s, callee_f, liveAt_eq, storeAt_eq, partL_none, partL_some, natIn_none, natIn_int, bounds3_two, bin_add, bin_sub, bin_mul, bin_quo, bin_rem, bin_and, bin_or, bin_xor, bin_andNot, bin_eql, bin_neq, bin_lss, bin_leq, bin_gtr, bin_geq, bin_shl, bin_shr, bin_sadd, bin_seql, bin_sneq, un_not, un_neg, un_xor, after_some, put_some, put_none, res_nil, res_val, res_var, packed_one, packed_two, merge_nil, merge_ge, rf_tup2, rfIn_int, rfIn_bool, rfIn_u8s, rf_str, rfIn_str, ↓gate_true, gd_bool, gd_ut, gd_uf, ↓guardV_tt, ↓guardV_ff, ↓guardV_tf, ↓guardV_ft, ↓keepV_some, ↓qElse_some, ↓get_hit, ↓Option.bind_some, ↓if_true, ↓if_false, List.nil_append, List.cons_append, List.all_nil, List.all_cons, List.isEmpty_nil, reduceCtorEq, Bool.false_eq_true, Nat.reduceEqDiff, beq_self_eq_true, bne_self_eq_false, Bool.not_true, Bool.not_false, Int.natCast_nonneg, Nat.lt_irrefl, false_and, Int.reduceEq, rf_int, rf_bool, rf_tuple_ints, rf_u8s, arr_list, toList2, Bool.and_self, Nat.not_lt_zero, Nat.sub_zero, Nat.zero_le, Nat.le_add_right, cells_agg, cells_agg_size, cells_int, cells_int_size, okV_int, okV_bool, okV_str, okV_agg, okV_ptr, okV_slice, okV_func, okV_nilFunc, okV_iface, okV_nilIface, cells_bool, cells_bool_size, cells_ptr, cells_ptr_size, cells_slice, cells_slice_size, cells_str, cells_str_size, eq_self, wrapI64_small, Int.natCast_zero, Int.natCast_one, Int.cast_ofNat_Int, List.length_nil, List.length_cons, List.getElem?_cons_zero, List.getElem?_cons_succ, List.set_cons_zero, List.set_cons_succ, Nat.zero_add, Nat.add_zero, Nat.mul_one, Nat.zero_mul, Int.toNat_natCast, Int.toNat_zero, Int.lt_irrefl, Int.le_refl, Nat.le_refl, and_self, true_and, and_true, decide_true, decide_false, Int.reduceLE, Int.reduceLT, Int.reduceAdd, Int.reduceMul, Int.reduceSub, Int.reduceTDiv, Int.reduceTMod, Int.reduceNeg, Int.reduceToNat, Int.reduceGT, Int.reduceGE, Int.reducePow, Nat.reduceAdd, Nat.reduceMul, Nat.reduceSub, Nat.reduceDiv, Nat.reduceMod, Nat.reducePow, Nat.reduceLT, Nat.reduceLeDiff, Nat.min_self, ge_iff_le, gt_iff_lt, Option.isNone_none, Option.isSome_none, Option.isNone_some, Option.isSome_some, Bool.and_true, Bool.true_and, Bool.and_false, Bool.false_and, not_true_eq_false, not_false_eq_true, or_true, true_or, false_or, or_false, e])
  exact hb
def hrO (a n : List Nat) (i : Int) (ex : Env) : St := ⟨[(1, .pointer (some ⟨0, 0, none⟩)), (2, .pointer (some ⟨1, 0, none⟩)), (4, .pointer (some ⟨2, 0, none⟩)), (5, .int .i64 i)] ++ ex, [⟨ns .u64 a, true, true, true, 1⟩, ⟨ns .u64 zero16, true, true, true, 1⟩, ⟨ns .u64 n, true, true, true, 1⟩], []⟩
theorem hr_outer {a n : List Nat} (hn : Nm n) :
    evCode T 0 (.block 0 (.loop a68_l1)) (hrO a n 0 []) = some (.normal, hrO a (dig 65536 16 (num 65536 n / 2 ^ 3)) 3 [(16, .bool false)]) := by
  obtain ⟨st, hb, rfl⟩ := block_inv (T := T) (base := 0) (id := 0) (body := a68_l1)
    (fun i st => ∃ ex, st = hrO a (dig 65536 16 (num 65536 n / 2 ^ i)) i ex)
    (Q := fun st => st = hrO a (dig 65536 16 (num 65536 n / 2 ^ 3)) 3 [(16, .bool false)])
    3 (s := hrO a n 0 []) ⟨[], by rw [Nat.pow_zero, Nat.div_one, ← hn.eq]; rfl⟩
    (fun i st hi hs => by
      obtain ⟨ex, rfl⟩ := hs
      have hN := Nm.dig (num 65536 n / 2 ^ i)
      have hlt : num 65536 n / 2 ^ i < 2 ^ 256 := Nat.lt_of_le_of_lt (Nat.div_le_self _ _) hn.num_lt
      have hb := hr_block (a := a) (i := (i : Int)) hN
      rw [nm_dig hlt, Nat.div_div_eq_div_mul, ← Nat.pow_succ] at hb
      simp only [hrI, List.cons_append, List.nil_append, Int.natCast_zero] at hb
      have w1 : IntKind.i64.wrap ((i : Int) + 1) = ((i + 1 : Nat) : Int) := wi_add (b := 1) (by omega)
      have e1 : ((i : Int) < 3) = True := eq_true (by omega)
      refine ⟨_, ?_, [], rfl⟩
      generalize dig 65536 16 (num 65536 n / 2 ^ i) = A at *
      generalize dig 65536 16 (num 65536 n / 2 ^ (i + 1)) = A' at *
      simp only [hrO, a68_l1, envOf, evCode_skip, evCode_exit, evCode_seq, fs_blockS, fs_blockR, fs_blockC, fs_blockK, fs_blockB, evCode_ret, quiet, keep_nil, keep_cons, fs_cond, fs_region, fs_regionQ, quiet2_eq, lastOf_nil, lastOf_cons, List.take_succ_cons, List.take_zero, List.drop_succ_cons, List.drop_zero, Int.reduceBEq, Int.reduceBNe,  fs_nil, fs_guard, fs_move, fs_pick, fs_alloc, fs_box, fs_load, fs_store, fs_bin, fs_eqv, fs_isNil, fs_un, fs_conv, fs_convStr, fs_field, fs_index, fs_indexStr, fs_build, fs_buildSlice, fs_fieldAddr, fs_indexAddr, fs_indexSl, fs_sliceArr, fs_sliceSl, fs_sliceStr, fs_makeSlice, fs_extract, fs_mkIface, fs_mkFunc, fs_nilCheck, fs_s2ap, fs_len, fs_minmax, fs_s2b, fs_b2s, fs_append, fs_copy, fs_callW, fs_callR, fs_callv, opd_tmp, opd_const, opd_func, opds_nil, opds_cons, opdOpt_none, opdOpt_some, opdParts_nil, opdParts_cons, get_miss, vPick_t, vPick_f, vEq_agg, vEq_aggN, vEq_bool, vEq_boolN, vConv_int, vStr_s, vField_agg, vIndex_agg, vIndexStr_s, vFieldAddr_p, vIndexAddr_p, vIndexSl_s, vSliceArr_p, vSliceSl_s, vSliceSl_n, vSliceStr_s, vExtract_t, vNilCheck_p, vS2ap_s, vLen_s, vLen_str, vMin_i, vMax_i, vLoad_p, vStore_p, baseP_p, vB2s_s, vMake_i, vS2b_s, callee_f, liveAt_eq, storeAt_eq, partL_none, partL_some, natIn_none, natIn_int, bounds3_two, bin_add, bin_sub, bin_mul, bin_quo, bin_rem, bin_and, bin_or, bin_xor, bin_andNot, bin_eql, bin_neq, bin_lss, bin_leq, bin_gtr, bin_geq, bin_shl, bin_shr, bin_sadd, bin_seql, bin_sneq, un_not, un_neg, un_xor, after_some, put_some, put_none, res_nil, res_val, res_var, packed_one, packed_two, merge_nil, merge_ge, rf_tup2, rfIn_int, rfIn_bool, rfIn_u8s, rf_str, rfIn_str, ↓gate_true, gd_bool, gd_ut, gd_uf, ↓guardV_tt, ↓guardV_ff, ↓guardV_tf, ↓guardV_ft, ↓keepV_some, ↓qElse_some, ↓get_hit, ↓Option.bind_some, ↓if_true, ↓if_false, List.nil_append, List.cons_append, List.all_nil, List.all_cons, List.isEmpty_nil, reduceCtorEq, Bool.false_eq_true, Nat.reduceEqDiff, beq_self_eq_true, bne_self_eq_false, Bool.not_true, Bool.not_false, Int.natCast_nonneg, Nat.lt_irrefl, false_and, Int.reduceEq, rf_int, rf_bool, rf_tuple_ints, rf_u8s, arr_list, toList2, Bool.and_self, Nat.not_lt_zero, Nat.sub_zero, Nat.zero_le, Nat.le_add_right, cells_agg, cells_agg_size, cells_int, cells_int_size, okV_int, okV_bool, okV_str, okV_agg, okV_ptr, okV_slice, okV_func, okV_nilFunc, okV_iface, okV_nilIface, cells_bool, cells_bool_size, cells_ptr, cells_ptr_size, cells_slice, cells_slice_size, cells_str, cells_str_size, eq_self, wrapI64_small, Int.natCast_zero, Int.natCast_one, Int.cast_ofNat_Int, List.length_nil, List.length_cons, List.getElem?_cons_zero, List.getElem?_cons_succ, List.set_cons_zero, List.set_cons_succ, Nat.zero_add, Nat.add_zero, Nat.mul_one, Nat.zero_mul, Int.toNat_natCast, Int.toNat_zero, Int.lt_irrefl, Int.le_refl, Nat.le_refl, and_self, true_and, and_true, decide_true, decide_false, Int.reduceLE, Int.reduceLT, Int.reduceAdd, Int.reduceMul, Int.reduceSub, Int.reduceTDiv, Int.reduceTMod, Int.reduceNeg, Int.reduceToNat, Int.reduceGT, Int.reduceGE, Int.reducePow, Nat.reduceAdd, Nat.reduceMul, Nat.reduceSub, Nat.reduceDiv, Nat.reduceMod, Nat.reducePow, Nat.reduceLT, Nat.reduceLeDiff, Nat.min_self, ge_iff_le, gt_iff_lt, Option.isNone_none, Option.isSome_none, Option.isNone_some, Option.isSome_some, Bool.and_true, Bool.true_and, Bool.and_false, Bool.false_and, not_true_eq_false, not_false_eq_true, or_true, true_or, false_or, or_false, hget0, hgetK, hset0, hsetK, splice_single, splice_whole, take_whole, List.getElem?_nil, List.length_append, List.append_assoc, hb, w1, e1])
    (fun st hs => by
      obtain ⟨ex, rfl⟩ := hs
      refine ⟨_, ?_, rfl⟩
      generalize dig 65536 16 (num 65536 n / 2 ^ 3) = A at *
      simp only [hrO, a68_l1, envOf, evCode_skip, evCode_exit, evCode_seq, fs_blockS, fs_blockR, fs_blockC, fs_blockK, fs_blockB, evCode_ret, quiet, keep_nil, keep_cons, fs_cond, fs_region, fs_regionQ, quiet2_eq, lastOf_nil, lastOf_cons, List.take_succ_cons, List.take_zero, List.drop_succ_cons, List.drop_zero, Int.reduceBEq, Int.reduceBNe,  fs_nil, fs_guard, fs_move, fs_pick, fs_alloc, fs_box, fs_load, fs_store, fs_bin, fs_eqv, fs_isNil, fs_un, fs_conv, fs_convStr, fs_field, fs_index, fs_indexStr, fs_build, fs_buildSlice, fs_fieldAddr, fs_indexAddr, fs_indexSl, fs_sliceArr, fs_sliceSl, fs_sliceStr, fs_makeSlice, fs_extract, fs_mkIface, fs_mkFunc, fs_nilCheck, fs_s2ap, fs_len, fs_minmax, fs_s2b, fs_b2s, fs_append, fs_copy, fs_callW, fs_callR, fs_callv, opd_tmp, opd_const, opd_func, opds_nil, opds_cons, opdOpt_none, opdOpt_some, opdParts_nil, opdParts_cons, get_miss, vPick_t, vPick_f, vEq_agg, vEq_aggN, vEq_bool, vEq_boolN, vConv_int, vStr_s, vField_agg, vIndex_agg, vIndexStr_s, vFieldAddr_p, vIndexAddr_p, vIndexSl_s, vSliceArr_p, vSliceSl_s, vSliceSl_n, vSliceStr_s, vExtract_t, vNilCheck_p, vS2ap_s, vLen_s, vLen_str, vMin_i, vMax_i, vLoad_p, vStore_p, baseP_p, vB2s_s, vMake_i, vS2b_s, callee_f, liveAt_eq, storeAt_eq, partL_none, partL_some, natIn_none, natIn_int, bounds3_two, bin_add, bin_sub, bin_mul, bin_quo, bin_rem, bin_and, bin_or, bin_xor, bin_andNot, bin_eql, bin_neq, bin_lss, bin_leq, bin_gtr, bin_geq, bin_shl, bin_shr, bin_sadd, bin_seql, bin_sneq, un_not, un_neg, un_xor, after_some, put_some, put_none, res_nil, res_val, res_var, packed_one, packed_two, merge_nil, merge_ge, rf_tup2, rfIn_int, rfIn_bool, rfIn_u8s, rf_str, rfIn_str, ↓gate_true, gd_bool, gd_ut, gd_uf, ↓guardV_tt, ↓guardV_ff, ↓guardV_tf, ↓guardV_ft, ↓keepV_some, ↓qElse_some, ↓get_hit, ↓Option.bind_some, ↓if_true, ↓if_false, List.nil_append, List.cons_append, List.all_nil, List.all_cons, List.isEmpty_nil, reduceCtorEq, Bool.false_eq_true, Nat.reduceEqDiff, beq_self_eq_true, bne_self_eq_false, Bool.not_true, Bool.not_false, Int.natCast_nonneg, Nat.lt_irrefl, false_and, Int.reduceEq, rf_int, rf_bool, rf_tuple_ints, rf_u8s, arr_list, toList2, Bool.and_self, Nat.not_lt_zero, Nat.sub_zero, Nat.zero_le, Nat.le_add_right, cells_agg, cells_agg_size, cells_int, cells_int_size, okV_int, okV_bool, okV_str, okV_agg, okV_ptr, okV_slice, okV_func, okV_nilFunc, okV_iface, okV_nilIface, cells_bool, cells_bool_size, cells_ptr, cells_ptr_size, cells_slice, cells_slice_size, cells_str, cells_str_size, eq_self, wrapI64_small, Int.natCast_zero, Int.natCast_one, Int.cast_ofNat_Int, List.length_nil, List.length_cons, List.getElem?_cons_zero, List.getElem?_cons_succ, List.set_cons_zero, List.set_cons_succ, Nat.zero_add, Nat.add_zero, Nat.mul_one, Nat.zero_mul, Int.toNat_natCast, Int.toNat_zero, Int.lt_irrefl, Int.le_refl, Nat.le_refl, and_self, true_and, and_true, decide_true, decide_false, Int.reduceLE, Int.reduceLT, Int.reduceAdd, Int.reduceMul, Int.reduceSub, Int.reduceTDiv, Int.reduceTMod, Int.reduceNeg, Int.reduceToNat, Int.reduceGT, Int.reduceGE, Int.reducePow, Nat.reduceAdd, Nat.reduceMul, Nat.reduceSub, Nat.reduceDiv, Nat.reduceMod, Nat.reducePow, Nat.reduceLT, Nat.reduceLeDiff, Nat.min_self, ge_iff_le, gt_iff_lt, Option.isNone_none, Option.isSome_none, Option.isNone_some, Option.isSome_some, Bool.and_true, Bool.true_and, Bool.and_false, Bool.false_and, not_true_eq_false, not_false_eq_true, or_true, true_or, false_or, or_false, hget0, hgetK, hset0, hsetK, splice_single, splice_whole, take_whole, List.getElem?_nil, List.length_append, List.append_assoc])
  exact hb
end Go.Ev.Ytaceeoghjgggjaa
set_option linter.unusedSimpArgs false
set_option linter.unusedVariables false
namespace Go.Ev.Ytaceeoghjgggjaa
open Go Go.Ev
attribute [local congr] bind_congr2 ite_congr2 qElse_congr gate_congr guardV_congr
set_option maxRecDepth 100000
def primeM : List Nat := dig 65536 16 (Go.Fp.P - 1)
def primeT : List Nat := dig 65536 16 (Go.Fp.P + 3)
theorem primeM_nm : Nm primeM := Nm.dig _
theorem primeT_nm : Nm primeT := Nm.dig _
theorem prime_get : primeL[0]? = some 65517 := by decide +kernel
theorem prime_setM : (ns .u64 primeL).set 0 (.int .u64 65516) = ns .u64 primeM := by
  have h : primeL.set 0 65516 = primeM := by decide +kernel
  have := ns_set .u64 primeL 0 65516
  rw [h] at this; exact this
theorem prime_setT : (ns .u64 primeL).set 0 (.int .u64 65520) = ns .u64 primeT := by
  have h : primeL.set 0 65520 = primeT := by decide +kernel
  have := ns_set .u64 primeL 0 65520
  rw [h] at this; exact this
theorem two_nf : nf (smallL 2) = Go.Fp.fp 2 := by unfold nf; rw [smallL_num (by decide)]
theorem half_two : Go.Fp.pow (Go.Fp.fp 2) ((Go.Fp.P - 1) / 2) = Go.Fp.fp (Go.Fp.P - 1) := Go.Fp.pow_test (f := 256) (by decide +kernel) (by decide +kernel)
theorem fp_m1 : Go.Fp.fp (Go.Fp.P - 1) = -1 := by decide +kernel
theorem quarterR : (Go.Fp.P - 1) / 2 = (Go.Fp.P - 1) / 4 + (Go.Fp.P - 1) / 4 := by decide +kernel
theorem rminusOne_v : ∃ r, evVal T 89 [] = some (eV r) ∧ Nm r ∧ nf r * nf r = -1 := by
  have hp := rprime_v
  have h2 := rsmall_v 2 (by decide)
  have ho := hm_outer primeM_nm
  have hn : num 65536 primeM / 2 ^ 2 = (Go.Fp.P - 1) / 4 := by decide +kernel
  rw [hn] at ho
  have hE := Nm.dig ((Go.Fp.P - 1) / 4)
  have hEn := nm_dig (v := (Go.Fp.P - 1) / 4) (by decide +kernel)
  obtain ⟨r, hr, r1, r2⟩ := rpower_v (smallL_nm 2) hE
  rw [hEn, two_nf] at r2
  refine ⟨r, ?_, r1, by rw [r2, ← Go.Fp.pow_add, ← quarterR, half_two, fp_m1]⟩
  have g0 := ns_get (k := .u64) prime_get
  have s0 := prime_setM
  have lp := primeL_nm.len
  have lm := primeM_nm.len
  have ls := (smallL_nm 2).len
  have lE := hE.len
  have lr := r1.len
  have hz := z16_eq
  have lz := z16_len
  have w1 : IntKind.u64.wrap 65516 = 65516 := by decide
  simp only [Int.cast_ofNat_Int] at h2 g0
  simp only [hmO, List.cons_append, List.nil_append, Int.natCast_zero] at ho
  generalize primeL = PL at *
  generalize primeM = PM at *
  generalize smallL 2 = S at *
  generalize dig 65536 16 ((Go.Fp.P - 1) / 4) = E at *
  generalize zero16 = Z at *
  apply evVal_ex
  apply Exists.intro
  rw [evFun_fn (fn := a89) rfl]
  simp only [a89, ↓steps_chunk, envOf, evCode_skip, evCode_exit, evCode_seq, fs_blockS, fs_blockR, fs_blockC, fs_blockK, fs_blockB, evCode_ret, quiet, keep_nil, keep_cons, fs_cond, fs_region, fs_regionQ, quiet2_eq, lastOf_nil, lastOf_cons, List.take_succ_cons, List.take_zero, List.drop_succ_cons, List.drop_zero, Int.reduceBEq, Int.reduceBNe,  fs_nil, fs_guard, fs_move, fs_pick, fs_alloc, fs_box, fs_load, fs_store, fs_bin, fs_eqv, fs_isNil, fs_un, fs_conv, fs_convStr, fs_field, fs_index, fs_indexStr, fs_build, fs_buildSlice, fs_fieldAddr, fs_indexAddr, fs_indexSl, fs_sliceArr, fs_sliceSl, fs_sliceStr, fs_makeSlice, fs_extract, fs_mkIface, fs_mkFunc, fs_nilCheck, fs_s2ap, fs_len, fs_minmax, fs_s2b, fs_b2s, fs_append, fs_copy, fs_callW, fs_callR, fs_callv, opd_tmp, opd_const, opd_func, opds_nil, opds_cons, opdOpt_none, opdOpt_some, opdParts_nil, opdParts_cons, get_miss, vPick_t, vPick_f, vEq_agg, vEq_aggN, vEq_bool, vEq_boolN, vConv_int, vStr_s, vField_agg, vIndex_agg, vIndexStr_s, vFieldAddr_p, vIndexAddr_p, vIndexSl_s, vSliceArr_p, vSliceSl_s, vSliceSl_n, vSliceStr_s, vExtract_t, vNilCheck_p, vS2ap_s, vLen_s, vLen_str, vMin_i, vMax_i, vLoad_p, vStore_p, baseP_p, vB2s_s, vMake_i, vS2b_s, callee_f, liveAt_eq, storeAt_eq, partL_none, partL_some, natIn_none, natIn_int, bounds3_two, bin_add, bin_sub, bin_mul, bin_quo, bin_rem, bin_and, bin_or, bin_xor, bin_andNot, bin_eql, bin_neq, bin_lss, bin_leq, bin_gtr, bin_geq, bin_shl, bin_shr, bin_sadd, bin_seql, bin_sneq, un_not, un_neg, un_xor, after_some, put_some, put_none, res_nil, res_val, res_var, packed_one, packed_two, merge_nil, merge_ge, rf_tup2, rfIn_int, rfIn_bool, rfIn_u8s, rf_str, rfIn_str, ↓gate_true, gd_bool, gd_ut, gd_uf, ↓guardW_tt, ↓guardW_ff, ↓guardW_tf, ↓guardW_ft, ↓keepW_some, ↓qElseW_some, ↓get_hit, ↓Option.bind_some, ↓if_true, ↓if_false, List.nil_append, List.cons_append, List.all_nil, List.all_cons, List.isEmpty_nil, reduceCtorEq, Bool.false_eq_true, Nat.reduceEqDiff, beq_self_eq_true, bne_self_eq_false, Bool.not_true, Bool.not_false, Int.natCast_nonneg, Nat.lt_irrefl, false_and, Int.reduceEq, rf_int, rf_bool, rf_tuple_ints, rf_u8s, arr_list, toList2, Bool.and_self, Nat.not_lt_zero, Nat.sub_zero, Nat.zero_le, Nat.le_add_right, cells_agg, cells_agg_size, cells_int, cells_int_size, okV_int, okV_bool, okV_str, okV_agg, okV_ptr, okV_slice, okV_func, okV_nilFunc, okV_iface, okV_nilIface, cells_bool, cells_bool_size, cells_ptr, cells_ptr_size, cells_slice, cells_slice_size, cells_str, cells_str_size, eq_self, wrapI64_small, Int.natCast_zero, Int.natCast_one, Int.cast_ofNat_Int, List.length_nil, List.length_cons, List.getElem?_cons_zero, List.getElem?_cons_succ, List.set_cons_zero, List.set_cons_succ, Nat.zero_add, Nat.add_zero, Nat.mul_one, Nat.zero_mul, Int.toNat_natCast, Int.toNat_zero, Int.lt_irrefl, Int.le_refl, Nat.le_refl, and_self, true_and, and_true, decide_true, decide_false, Int.reduceLE, Int.reduceLT, Int.reduceAdd, Int.reduceMul, Int.reduceSub, Int.reduceTDiv, Int.reduceTMod, Int.reduceNeg, Int.reduceToNat, Int.reduceGT, Int.reduceGE, Int.reducePow, Nat.reduceAdd, Nat.reduceMul, Nat.reduceSub, Nat.reduceDiv, Nat.reduceMod, Nat.reducePow, Nat.reduceLT, Nat.reduceLeDiff, Nat.min_self, ge_iff_le, gt_iff_lt, Option.isNone_none, Option.isSome_none, Option.isNone_some, Option.isSome_some, Bool.and_true, Bool.true_and, Bool.and_false, Bool.false_and, not_true_eq_false, not_false_eq_true, or_true, true_or, false_or, or_false, hget0, hgetK, hset0, hsetK, splice_single, splice_whole, take_whole, List.getElem?_nil, List.length_append, List.append_assoc, hz, hp, h2, g0, w1, s0, ho, hr, List.length_replicate, take_all, eV_cells, eV_size, eV_ok, eV_fold, ns_len, lp, lm, ls, lE, lr, lz, rf_eV]
  rfl
theorem canon_beq (a b : List Nat) : (dig 65536 16 (num 65536 a % Go.Fp.P) == dig 65536 16 (num 65536 b % Go.Fp.P)) = decide (nf a = nf b) := by
  have h1 := Nat.mod_lt (num 65536 a) P_pos
  have h2 := Nat.mod_lt (num 65536 b) P_pos
  have h3 := P_lt2
  rw [dig16_eq (by omega) (by omega)]
  by_cases h : nf a = nf b
  · rw [decide_eq_true h, decide_eq_true (Go.Fp.fp_eq.1 h)]
  · rw [decide_eq_false h, decide_eq_false (fun e => h (Go.Fp.fp_eq.2 e))]
theorem canon_nf (a : List Nat) : nf (dig 65536 16 (num 65536 a % Go.Fp.P)) = nf a := by
  have h1 := Nat.mod_lt (num 65536 a) P_pos
  have h3 := P_lt2
  unfold nf
  rw [nm_dig (by omega), Go.Fp.fp_mod]
theorem p_eighth : (Go.Fp.P + 3) / 8 + (Go.Fp.P + 3) / 8 = (Go.Fp.P - 1) / 4 + 1 := by decide +kernel
theorem fe_neg_mul (a : Go.Fp.Fe) : -1 * a = -a := by grobner
theorem fe_one_mul (a : Go.Fp.Fe) : 1 * a = a := by grobner
theorem fe_four (x m : Go.Fp.Fe) : x * m * (x * m) = x * x * (m * m) := by grobner
theorem fe_negneg (a : Go.Fp.Fe) : -a * -1 = a := by grobner
theorem eighth_root {a s : Go.Fp.Fe} (h : s * s = a) : Go.Fp.pow a ((Go.Fp.P + 3) / 8) * Go.Fp.pow a ((Go.Fp.P + 3) / 8) = a ∨ Go.Fp.pow a ((Go.Fp.P + 3) / 8) * Go.Fp.pow a ((Go.Fp.P + 3) / 8) = -a := by
  have e : Go.Fp.pow a ((Go.Fp.P + 3) / 8) * Go.Fp.pow a ((Go.Fp.P + 3) / 8) = Go.Fp.pow a ((Go.Fp.P - 1) / 4) * a := by
    rw [← Go.Fp.pow_add, p_eighth, Go.Fp.pow]
  rcases Go.Fp.pow_half s with h1 | h1
  · rw [h, quarterR, Go.Fp.pow_add] at h1
    have h2 : Go.Fp.pow a ((Go.Fp.P - 1) / 4) * Go.Fp.pow a ((Go.Fp.P - 1) / 4) = 1 * 1 := by rw [h1]; exact (fe_one_mul 1).symm
    rw [e]
    rcases sq_eq h2 with h3 | h3
    · left; rw [h3, fe_one_mul]
    · right; rw [h3, fe_neg_mul]
  · have ha : a = 0 := by rw [← h, h1]; grobner
    left
    rw [e, ha]; grobner
theorem rroot_v {a : List Nat} (ha : Nm a) : ∃ r ok, evVal T 68 [eV a] = some (.tuple #[eV r, .bool ok]) ∧ Nm r ∧ num 65536 r < Go.Fp.P ∧ (ok = true → nf r * nf r = nf a) ∧ (ok = false → ∀ x : Go.Fp.Fe, x * x ≠ nf a) := by
  have hp := rprime_v
  have ho := hr_outer (a := a) primeT_nm
  have hn : num 65536 primeT / 2 ^ 3 = (Go.Fp.P + 3) / 8 := by decide +kernel
  rw [hn] at ho
  have hE := Nm.dig ((Go.Fp.P + 3) / 8)
  have hEn := nm_dig (v := (Go.Fp.P + 3) / 8) (by decide +kernel)
  obtain ⟨x, hx, x1, x2⟩ := rpower_v ha hE
  rw [hEn] at x2
  obtain ⟨q, hq, q1, q2⟩ := rmul_v x1 x1
  obtain ⟨m, hm, m1, m2⟩ := rminusOne_v
  obtain ⟨y, hy, y1, y2⟩ := rmul_v x1 m1
  obtain ⟨t, ht, t1, t2⟩ := rmul_v y1 y1
  have cq := rcanon_v q1
  have ca := rcanon_v ha
  have cx := rcanon_v x1
  have cy := rcanon_v y1
  have ct := rcanon_v t1
  have b1 := canon_beq q a
  have b2 := canon_beq t a
  have nq := Nm.dig (num 65536 q % Go.Fp.P)
  have na := Nm.dig (num 65536 a % Go.Fp.P)
  have nx := Nm.dig (num 65536 x % Go.Fp.P)
  have ny := Nm.dig (num 65536 y % Go.Fp.P)
  have nt := Nm.dig (num 65536 t % Go.Fp.P)
  have v1 := vEq_eVN nq.len na.len
  have v2 := vEq_eV nq.len na.len
  have v3 := vEq_eV nt.len na.len
  rw [b1] at v1 v2
  rw [b2] at v3
  have g0 := ns_get (k := .u64) prime_get
  have s0 := prime_setT
  have lp := primeL_nm.len
  have lm := primeT_nm.len
  have lE := hE.len
  have la := ha.len
  have lx := x1.len
  have ly := y1.len
  have lq := nx.len
  have ly2 := ny.len
  have hz := z16_eq
  have lz := z16_len
  have w1 : IntKind.u64.wrap 65520 = 65520 := by decide
  have rft : ∀ (r : List Nat) (c : Bool), rf (Value.tuple #[eV r, .bool c]) = true := fun r c => rf_tup2 (a := eV r) (b := .bool c) (rf_eV r) rfl
  simp only [Int.cast_ofNat_Int] at g0
  simp only [hrO, List.cons_append, List.nil_append, Int.natCast_zero] at ho
  have hPl := P_lt2
  have ltx : num 65536 (dig 65536 16 (num 65536 x % Go.Fp.P)) < Go.Fp.P := by
    have := Nat.mod_lt (num 65536 x) P_pos
    rw [nm_dig (by omega)]; exact this
  have lty : num 65536 (dig 65536 16 (num 65536 y % Go.Fp.P)) < Go.Fp.P := by
    have := Nat.mod_lt (num 65536 y) P_pos
    rw [nm_dig (by omega)]; exact this
  have fx := canon_nf x
  have fy := canon_nf y
  by_cases h : nf q = nf a
  · rw [decide_eq_true h] at v1 v2
    refine ⟨dig 65536 16 (num 65536 x % Go.Fp.P), true, ?_, nx, ltx, fun _ => by rw [fx, ← q2, h], fun h => absurd h (by decide)⟩
    generalize dig 65536 16 (num 65536 q % Go.Fp.P) = CQ at *
    generalize dig 65536 16 (num 65536 a % Go.Fp.P) = CA at *
    generalize dig 65536 16 (num 65536 x % Go.Fp.P) = CX at *
    generalize primeL = PL at *
    generalize primeT = PM at *
    generalize dig 65536 16 ((Go.Fp.P + 3) / 8) = E at *
    generalize zero16 = Z at *
    apply evVal_ex
    apply Exists.intro
    rw [evFun_fn (fn := a68) rfl]
    simp only [a68, ↓steps_chunk, envOf, evCode_skip, evCode_exit, evCode_seq, fs_blockS, fs_blockR, fs_blockC, fs_blockK, fs_blockB, evCode_ret, quiet, keep_nil, keep_cons, fs_cond, fs_region, fs_regionQ, quiet2_eq, lastOf_nil, lastOf_cons, List.take_succ_cons, List.take_zero, List.drop_succ_cons, List.drop_zero, Int.reduceBEq, Int.reduceBNe,  fs_nil, fs_guard, fs_move, fs_pick, fs_alloc, fs_box, fs_load, fs_store, fs_bin, fs_eqv, fs_isNil, fs_un, fs_conv, fs_convStr, fs_field, fs_index, fs_indexStr, fs_build, fs_buildSlice, fs_fieldAddr, fs_indexAddr, fs_indexSl, fs_sliceArr, fs_sliceSl, fs_sliceStr, fs_makeSlice, fs_extract, fs_mkIface, fs_mkFunc, fs_nilCheck, fs_s2ap, fs_len, fs_minmax, fs_s2b, fs_b2s, fs_append, fs_copy, fs_callW, fs_callR, fs_callv, opd_tmp, opd_const, opd_func, opds_nil, opds_cons, opdOpt_none, opdOpt_some, opdParts_nil, opdParts_cons, get_miss, vPick_t, vPick_f, vEq_agg, vEq_aggN, vEq_bool, vEq_boolN, vConv_int, vStr_s, vField_agg, vIndex_agg, vIndexStr_s, vFieldAddr_p, vIndexAddr_p, vIndexSl_s, vSliceArr_p, vSliceSl_s, vSliceSl_n, vSliceStr_s, vExtract_t, vNilCheck_p, vS2ap_s, vLen_s, vLen_str, vMin_i, vMax_i, vLoad_p, vStore_p, baseP_p, vB2s_s, vMake_i, vS2b_s, callee_f, liveAt_eq, storeAt_eq, partL_none, partL_some, natIn_none, natIn_int, bounds3_two, bin_add, bin_sub, bin_mul, bin_quo, bin_rem, bin_and, bin_or, bin_xor, bin_andNot, bin_eql, bin_neq, bin_lss, bin_leq, bin_gtr, bin_geq, bin_shl, bin_shr, bin_sadd, bin_seql, bin_sneq, un_not, un_neg, un_xor, after_some, put_some, put_none, res_nil, res_val, res_var, packed_one, packed_two, merge_nil, merge_ge, rf_tup2, rfIn_int, rfIn_bool, rfIn_u8s, rf_str, rfIn_str, ↓gate_true, gd_bool, gd_ut, gd_uf, ↓guardW_tt, ↓guardW_ff, ↓guardW_tf, ↓guardW_ft, ↓keepW_some, ↓qElseW_some, ↓get_hit, ↓Option.bind_some, ↓if_true, ↓if_false, List.nil_append, List.cons_append, List.all_nil, List.all_cons, List.isEmpty_nil, reduceCtorEq, Bool.false_eq_true, Nat.reduceEqDiff, beq_self_eq_true, bne_self_eq_false, Bool.not_true, Bool.not_false, Int.natCast_nonneg, Nat.lt_irrefl, false_and, Int.reduceEq, rf_int, rf_bool, rf_tuple_ints, rf_u8s, arr_list, toList2, Bool.and_self, Nat.not_lt_zero, Nat.sub_zero, Nat.zero_le, Nat.le_add_right, cells_agg, cells_agg_size, cells_int, cells_int_size, okV_int, okV_bool, okV_str, okV_agg, okV_ptr, okV_slice, okV_func, okV_nilFunc, okV_iface, okV_nilIface, cells_bool, cells_bool_size, cells_ptr, cells_ptr_size, cells_slice, cells_slice_size, cells_str, cells_str_size, eq_self, wrapI64_small, Int.natCast_zero, Int.natCast_one, Int.cast_ofNat_Int, List.length_nil, List.length_cons, List.getElem?_cons_zero, List.getElem?_cons_succ, List.set_cons_zero, List.set_cons_succ, Nat.zero_add, Nat.add_zero, Nat.mul_one, Nat.zero_mul, Int.toNat_natCast, Int.toNat_zero, Int.lt_irrefl, Int.le_refl, Nat.le_refl, and_self, true_and, and_true, decide_true, decide_false, Int.reduceLE, Int.reduceLT, Int.reduceAdd, Int.reduceMul, Int.reduceSub, Int.reduceTDiv, Int.reduceTMod, Int.reduceNeg, Int.reduceToNat, Int.reduceGT, Int.reduceGE, Int.reducePow, Nat.reduceAdd, Nat.reduceMul, Nat.reduceSub, Nat.reduceDiv, Nat.reduceMod, Nat.reducePow, Nat.reduceLT, Nat.reduceLeDiff, Nat.min_self, ge_iff_le, gt_iff_lt, Option.isNone_none, Option.isSome_none, Option.isNone_some, Option.isSome_some, Bool.and_true, Bool.true_and, Bool.and_false, Bool.false_and, not_true_eq_false, not_false_eq_true, or_true, true_or, false_or, or_false, hget0, hgetK, hset0, hsetK, splice_single, splice_whole, take_whole, List.getElem?_nil, List.length_append, List.append_assoc, hz, hp, g0, w1, s0, ho, hx, hq, cq, ca, cx, v1, v2, List.length_replicate, take_all, eV_cells, eV_size, eV_ok, eV_fold, ns_len, lp, lm, lE, la, lx, lq, lz, rft, rf_eV]
    rfl
  · rw [decide_eq_false h] at v1 v2
    refine ⟨dig 65536 16 (num 65536 y % Go.Fp.P), decide (nf t = nf a), ?_, ny, lty, ?_, ?_⟩
    · generalize decide (nf t = nf a) = ok at *
      generalize dig 65536 16 (num 65536 q % Go.Fp.P) = CQ at *
      generalize dig 65536 16 (num 65536 a % Go.Fp.P) = CA at *
      generalize dig 65536 16 (num 65536 y % Go.Fp.P) = CY at *
      generalize dig 65536 16 (num 65536 t % Go.Fp.P) = CT at *
      generalize primeL = PL at *
      generalize primeT = PM at *
      generalize dig 65536 16 ((Go.Fp.P + 3) / 8) = E at *
      generalize zero16 = Z at *
      apply evVal_ex
      apply Exists.intro
      rw [evFun_fn (fn := a68) rfl]
      simp only [a68, ↓steps_chunk, envOf, evCode_skip, evCode_exit, evCode_seq, fs_blockS, fs_blockR, fs_blockC, fs_blockK, fs_blockB, evCode_ret, quiet, keep_nil, keep_cons, fs_cond, fs_region, fs_regionQ, quiet2_eq, lastOf_nil, lastOf_cons, List.take_succ_cons, List.take_zero, List.drop_succ_cons, List.drop_zero, Int.reduceBEq, Int.reduceBNe,  fs_nil, fs_guard, fs_move, fs_pick, fs_alloc, fs_box, fs_load, fs_store, fs_bin, fs_eqv, fs_isNil, fs_un, fs_conv, fs_convStr, fs_field, fs_index, fs_indexStr, fs_build, fs_buildSlice, fs_fieldAddr, fs_indexAddr, fs_indexSl, fs_sliceArr, fs_sliceSl, fs_sliceStr, fs_makeSlice, fs_extract, fs_mkIface, fs_mkFunc, fs_nilCheck, fs_s2ap, fs_len, fs_minmax, fs_s2b, fs_b2s, fs_append, fs_copy, fs_callW, fs_callR, fs_callv, opd_tmp, opd_const, opd_func, opds_nil, opds_cons, opdOpt_none, opdOpt_some, opdParts_nil, opdParts_cons, get_miss, vPick_t, vPick_f, vEq_agg, vEq_aggN, vEq_bool, vEq_boolN, vConv_int, vStr_s, vField_agg, vIndex_agg, vIndexStr_s, vFieldAddr_p, vIndexAddr_p, vIndexSl_s, vSliceArr_p, vSliceSl_s, vSliceSl_n, vSliceStr_s, vExtract_t, vNilCheck_p, vS2ap_s, vLen_s, vLen_str, vMin_i, vMax_i, vLoad_p, vStore_p, baseP_p, vB2s_s, vMake_i, vS2b_s, callee_f, liveAt_eq, storeAt_eq, partL_none, partL_some, natIn_none, natIn_int, bounds3_two, bin_add, bin_sub, bin_mul, bin_quo, bin_rem, bin_and, bin_or, bin_xor, bin_andNot, bin_eql, bin_neq, bin_lss, bin_leq, bin_gtr, bin_geq, bin_shl, bin_shr, bin_sadd, bin_seql, bin_sneq, un_not, un_neg, un_xor, after_some, put_some, put_none, res_nil, res_val, res_var, packed_one, packed_two, merge_nil, merge_ge, rf_tup2, rfIn_int, rfIn_bool, rfIn_u8s, rf_str, rfIn_str, ↓gate_true, gd_bool, gd_ut, gd_uf, ↓guardW_tt, ↓guardW_ff, ↓guardW_tf, ↓guardW_ft, ↓keepW_some, ↓qElseW_some, ↓get_hit, ↓Option.bind_some, ↓if_true, ↓if_false, List.nil_append, List.cons_append, List.all_nil, List.all_cons, List.isEmpty_nil, reduceCtorEq, Bool.false_eq_true, Nat.reduceEqDiff, beq_self_eq_true, bne_self_eq_false, Bool.not_true, Bool.not_false, Int.natCast_nonneg, Nat.lt_irrefl, false_and, Int.reduceEq, rf_int, rf_bool, rf_tuple_ints, rf_u8s, arr_list, toList2, Bool.and_self, Nat.not_lt_zero, Nat.sub_zero, Nat.zero_le, Nat.le_add_right, cells_agg, cells_agg_size, cells_int, cells_int_size, okV_int, okV_bool, okV_str, okV_agg, okV_ptr, okV_slice, okV_func, okV_nilFunc, okV_iface, okV_nilIface, cells_bool, cells_bool_size, cells_ptr, cells_ptr_size, cells_slice, cells_slice_size, cells_str, cells_str_size, eq_self, wrapI64_small, Int.natCast_zero, Int.natCast_one, Int.cast_ofNat_Int, List.length_nil, List.length_cons, List.getElem?_cons_zero, List.getElem?_cons_succ, List.set_cons_zero, List.set_cons_succ, Nat.zero_add, Nat.add_zero, Nat.mul_one, Nat.zero_mul, Int.toNat_natCast, Int.toNat_zero, Int.lt_irrefl, Int.le_refl, Nat.le_refl, and_self, true_and, and_true, decide_true, decide_false, Int.reduceLE, Int.reduceLT, Int.reduceAdd, Int.reduceMul, Int.reduceSub, Int.reduceTDiv, Int.reduceTMod, Int.reduceNeg, Int.reduceToNat, Int.reduceGT, Int.reduceGE, Int.reducePow, Nat.reduceAdd, Nat.reduceMul, Nat.reduceSub, Nat.reduceDiv, Nat.reduceMod, Nat.reducePow, Nat.reduceLT, Nat.reduceLeDiff, Nat.min_self, ge_iff_le, gt_iff_lt, Option.isNone_none, Option.isSome_none, Option.isNone_some, Option.isSome_some, Bool.and_true, Bool.true_and, Bool.and_false, Bool.false_and, not_true_eq_false, not_false_eq_true, or_true, true_or, false_or, or_false, hget0, hgetK, hset0, hsetK, splice_single, splice_whole, take_whole, List.getElem?_nil, List.length_append, List.append_assoc, hz, hp, g0, w1, s0, ho, hx, hq, hm, hy, ht, cq, ca, cy, ct, v1, v3, List.length_replicate, take_all, eV_cells, eV_size, eV_ok, eV_fold, ns_len, lp, lm, lE, la, lx, ly, ly2, lz, rft, rf_eV]
      rfl
    · intro ht'
      rw [fy, ← t2]
      exact of_decide_eq_true ht'
    · intro ht' s hs
      have ht'' := of_decide_eq_false ht'
      rcases eighth_root hs with h1 | h1
      · exact h (by rw [q2, x2, h1])
      · apply ht''
        rw [t2, y2, fe_four, m2, x2, h1, fe_negneg]
end Go.Ev.Ytaceeoghjgggjaa
set_option linter.unusedSimpArgs false
set_option linter.unusedVariables false
namespace Go.Ev.Ytaceeoghjgggjaa
open Go Go.Ev
attribute [local congr] bind_congr2 ite_congr2 qElse_congr gate_congr guardV_congr
set_option maxRecDepth 100000
theorem vEq_key {k l : List Nat} (lk : k.length = 32) (ll : l.length = 32) : vEq (some (List.replicate 32 true)) true (.agg (u8s k).toArray) (.agg (u8s l).toArray) = some (.bool (!(k == l))) := by
  rw [vEq_aggN, cellsEq_u8 lk ll]
  rfl
theorem z48_fill : fillL (ns .u64 zero48) [] = some (ns .u64 zero48) := rfl
theorem nf_val {r : List Nat} (h : num 65536 r < Go.Fp.P) : (nf r).val = num 65536 r := Nat.mod_eq_of_lt h
theorem fe_mul_one (a : Go.Fp.Fe) : a * 1 = a := by grobner
theorem fe_negsq (a : Go.Fp.Fe) : -a * -a = a * a := by grobner
theorem iv_cancel {u v : Go.Fp.Fe} (hv : v ≠ 0) {x : Go.Fp.Fe} (h : x * x = u * Go.Fp.iv v) : v * (x * x) = u := by
  have := Go.Fp.iv_mul hv
  rw [h]
  generalize Go.Fp.iv v = w at *
  clear h hv
  grobner
theorem iv_back {u v : Go.Fp.Fe} (hv : v ≠ 0) {x : Go.Fp.Fe} (h : v * (x * x) = u) : x * x = u * Go.Fp.iv v := by
  have := Go.Fp.iv_mul hv
  rw [← h]
  generalize Go.Fp.iv v = w at *
  clear h hv
  grobner
theorem rdecode_v {k : List Nat} (lk : k.length = 32) (xk : ∀ x ∈ k, x < 256) :
    (∃ l p, evVal T 32 [.agg (u8s k).toArray] = some (decV l 0) ∧ RP l p ∧ enc p = k) ∨ (∃ l, evVal T 32 [.agg (u8s k).toArray] = some (decV l 60) ∧ l.length = 48 ∧ ∀ p, enc p ≠ k) := by
  obtain ⟨w, hw, hw', ht, hm, xm, lm⟩ := key_top lk xk
  have ha : w &&& 127 = w % 128 := Nat.and_two_pow_sub_one_eq_mod w 7
  rw [ha] at hm xm lm
  have hwc := u8s_get hw
  have hset := u8s_set k 31 (w % 128)
  have hrem : (w : Int).tmod 128 = ((w % 128 : Nat) : Int) := rfl
  have hof := rof_v lm xm
  rw [hm] at hof
  rw [Nat.mod_mod] at hof
  have hkey : ∀ p : Go.Cv.Pt Go.Fp.P Go.Fp.d, enc p = k ↔ p.y.val = num 256 k % 2 ^ 255 ∧ p.x.val % 2 = num 256 k / 2 ^ 255 := fun p => by rw [enc_key lk xk, enc_parts]
  rw [← ht] at hkey
  have hVlt : num 256 k % 2 ^ 255 < 2 ^ 255 := Nat.mod_lt _ (by decide)
  have hkm := key_eq lm xm
  rw [hm] at hkm
  generalize k.set 31 (w % 128) = km at *
  generalize num 256 k % 2 ^ 255 = V at *
  have NY := Nm.dig V
  have hYn := nm_dig (v := V) (Nat.lt_trans hVlt (by decide))
  have fy : nf (dig 65536 16 V) = Go.Fp.fp V := by unfold nf; rw [hYn]
  have hby := rbytes_v NY
  rw [fy] at hby
  have lB := dig_len 256 32 (Go.Fp.fp V).val
  have heq := vEq_key lB lm
  have hbk : (dig 256 32 (Go.Fp.fp V).val == km) = decide (V < Go.Fp.P) := by
    rw [hkm, key_inj (Nat.lt_trans (Go.Fp.fp V).isLt (by decide)) (Nat.lt_trans hVlt (by decide))]
    by_cases h : V < Go.Fp.P
    · rw [decide_eq_true h, decide_eq_true (show (Go.Fp.fp V).val = V from Nat.mod_eq_of_lt h)]
    · have : ¬ (Go.Fp.fp V).val = V := fun e => h (by rw [← e]; exact (Go.Fp.fp V).isLt)
      rw [decide_eq_false h, decide_eq_false this]
  rw [hbk] at heq
  have hz := z16_eq
  have lz := z16_len
  have hf := z16_fill
  have hz2 := z48_eq
  have lz2 := z48_len
  have hf2 := z48_fill
  have lY := NY.len
  have hge : decide ((128 : Int) ≤ (w : Int)) = decide (w / 128 = 1) := by
    by_cases h : w / 128 = 1
    · rw [decide_eq_true h, decide_eq_true (by omega)]
    · rw [decide_eq_false h, decide_eq_false (by omega)]
  generalize dig 65536 16 V = Y at *
  generalize dig 256 32 (Go.Fp.fp V).val = BY at *
  clear hbk hkm
  by_cases hV : V < Go.Fp.P
  · rw [decide_eq_true hV] at heq
    have hYv : (Go.Fp.fp V).val = V := Nat.mod_eq_of_lt hV
    have s1 := rsmall_v 1 (by decide)
    have N1 := smallL_nm 1
    have f1 := rone_nf
    have l1 := N1.len
    simp only [Int.natCast_one] at s1
    obtain ⟨yy, hyy, Nyy, fyy⟩ := rmul_v NY NY
    obtain ⟨D, hD, ND, fD⟩ := rd_v
    obtain ⟨uu, huu, Nuu, fuu⟩ := rsub_v Nyy N1
    obtain ⟨dy, hdy, Ndy, fdy⟩ := rmul_v ND Nyy
    obtain ⟨vv, hvv, Nvv, fvv⟩ := radd_v Ndy N1
    obtain ⟨iw, hiw, Niw, fiw⟩ := rinvert_v Nvv
    obtain ⟨aa, haa, Naa, faa⟩ := rmul_v Nuu Niw
    obtain ⟨r, ok, hr, Nr, ltr, hok, hno⟩ := rroot_v Naa
    obtain ⟨nr, hnr, Nnr, fnr⟩ := rneg_v Nr
    have hu : nf uu = Go.Fp.fp V * Go.Fp.fp V - 1 := by rw [fuu, fyy, fy, f1]
    have hv : nf vv = Go.Fp.d * (Go.Fp.fp V * Go.Fp.fp V) + 1 := by rw [fvv, fdy, fD, fyy, fy, f1]
    have hvn : nf vv ≠ 0 := by rw [hv]; exact den_ne _
    have hyp : ∀ p : Go.Cv.Pt Go.Fp.P Go.Fp.d, enc p = k → p.y = Go.Fp.fp V := fun p hp => Fin.ext (by rw [hYv]; exact ((hkey p).1 hp).1)
    have hxx : ∀ p : Go.Cv.Pt Go.Fp.P Go.Fp.d, enc p = k → p.x * p.x = nf aa := fun p hp => by
      have := x_sq p
      rw [hyp p hp] at this
      rw [faa, fiw]
      exact iv_back hvn (by rw [hu, hv]; exact this)
    have rft : ∀ b : Bool, rf (Value.tuple #[eV r, .bool b]) = true := fun b => rf_tup2 (a := eV r) (b := .bool b) (rf_eV r) rfl
    have lyy := Nyy.len
    have lr := Nr.len
    have lnr := Nnr.len
    have hq0 := vEq_eV lr lz
    have hq0' : (r == zero16) = decide (nf r = 0) := by
      by_cases h : nf r = 0
      · have h2 := nf_zero_iff.1 h
        rw [Nat.mod_eq_of_lt ltr] at h2
        have : r = zero16 := Nr.inj zero16_nm (by rw [h2, zero16_num])
        rw [decide_eq_true h, this]; simp
      · have : ¬ r = zero16 := fun e => h (by rw [e]; unfold nf; rw [zero16_num]; rfl)
        rw [decide_eq_false h, beq_eq_false_iff_ne.2 this]
    rw [hq0'] at hq0
    obtain ⟨r0, hr0⟩ : ∃ r0, r[0]? = some r0 := ⟨_, List.getElem?_eq_getElem (by rw [lr]; decide)⟩
    have hr0c := ns_get (k := .u64) hr0
    have hr0v := num_get (B := 65536) (by decide) Nr.lt hr0
    rw [Nat.pow_zero, Nat.div_one] at hr0v
    have hpar : r0 % 2 = (nf r).val % 2 := by rw [nf_val ltr, ← hr0v]; omega
    have hr2 : (r0 : Int).tmod 2 = (((nf r).val % 2 : Nat) : Int) := by rw [← hpar]; rfl
    generalize zero16 = Z at *
    obtain ⟨Z48, hz48⟩ : ∃ Z, zero48 = Z := ⟨_, rfl⟩
    rw [hz48] at hz2 lz2 hf2
    cases ok with
    | false =>
      refine .inr ⟨Z48, ?_, lz2, fun p hp => hno rfl p.x (hxx p hp)⟩
      generalize smallL 1 = S1 at *
      apply evVal_ex
      apply Exists.intro
      rw [evFun_fn (fn := a32) rfl]
      simp only [a32, ↓steps_chunk, envOf, evCode_skip, evCode_exit, evCode_seq, fs_blockS, fs_blockR, fs_blockC, fs_blockK, fs_blockB, evCode_ret, quiet, keep_nil, keep_cons, fs_cond, fs_region, fs_regionQ, quiet2_eq, lastOf_nil, lastOf_cons, List.take_succ_cons, List.take_zero, List.drop_succ_cons, List.drop_zero, Int.reduceBEq, Int.reduceBNe,  fs_nil, fs_guard, fs_move, fs_pick, fs_alloc, fs_box, fs_load, fs_store, fs_bin, fs_eqv, fs_isNil, fs_un, fs_conv, fs_convStr, fs_field, fs_index, fs_indexStr, fs_build, fs_buildSlice, fs_fieldAddr, fs_indexAddr, fs_indexSl, fs_sliceArr, fs_sliceSl, fs_sliceStr, fs_makeSlice, fs_extract, fs_mkIface, fs_mkFunc, fs_nilCheck, fs_s2ap, fs_len, fs_minmax, fs_s2b, fs_b2s, fs_append, fs_copy, fs_callW, fs_callR, fs_callv, opd_tmp, opd_const, opd_func, opds_nil, opds_cons, opdOpt_none, opdOpt_some, opdParts_nil, opdParts_cons, get_miss, vPick_t, vPick_f, vEq_agg, vEq_aggN, vEq_bool, vEq_boolN, vConv_int, vStr_s, vField_agg, vIndex_agg, vIndexStr_s, vFieldAddr_p, vIndexAddr_p, vIndexSl_s, vSliceArr_p, vSliceSl_s, vSliceSl_n, vSliceStr_s, vExtract_t, vNilCheck_p, vS2ap_s, vLen_s, vLen_str, vMin_i, vMax_i, vLoad_p, vStore_p, baseP_p, vB2s_s, vMake_i, vS2b_s, callee_f, liveAt_eq, storeAt_eq, partL_none, partL_some, natIn_none, natIn_int, bounds3_two, bin_add, bin_sub, bin_mul, bin_quo, bin_rem, bin_and, bin_or, bin_xor, bin_andNot, bin_eql, bin_neq, bin_lss, bin_leq, bin_gtr, bin_geq, bin_shl, bin_shr, bin_sadd, bin_seql, bin_sneq, un_not, un_neg, un_xor, after_some, put_some, put_none, res_nil, res_val, res_var, packed_one, packed_two, merge_nil, merge_ge, rf_tup2, rfIn_int, rfIn_bool, rfIn_u8s, rf_str, rfIn_str, ↓gate_true, gd_bool, gd_ut, gd_uf, ↓guardW_tt, ↓guardW_ff, ↓guardW_tf, ↓guardW_ft, ↓keepW_some, ↓qElseW_some, ↓get_hit, ↓Option.bind_some, ↓if_true, ↓if_false, List.nil_append, List.cons_append, List.all_nil, List.all_cons, List.isEmpty_nil, reduceCtorEq, Bool.false_eq_true, Nat.reduceEqDiff, beq_self_eq_true, bne_self_eq_false, Bool.not_true, Bool.not_false, Int.natCast_nonneg, Nat.lt_irrefl, false_and, Int.reduceEq, rf_int, rf_bool, rf_tuple_ints, rf_u8s, arr_list, toList2, Bool.and_self, Nat.not_lt_zero, Nat.sub_zero, Nat.zero_le, Nat.le_add_right, cells_agg, cells_agg_size, cells_int, cells_int_size, okV_int, okV_bool, okV_str, okV_agg, okV_ptr, okV_slice, okV_func, okV_nilFunc, okV_iface, okV_nilIface, cells_bool, cells_bool_size, cells_ptr, cells_ptr_size, cells_slice, cells_slice_size, cells_str, cells_str_size, eq_self, wrapI64_small, Int.natCast_zero, Int.natCast_one, Int.cast_ofNat_Int, List.length_nil, List.length_cons, List.getElem?_cons_zero, List.getElem?_cons_succ, List.set_cons_zero, List.set_cons_succ, Nat.zero_add, Nat.add_zero, Nat.mul_one, Nat.zero_mul, Int.toNat_natCast, Int.toNat_zero, Int.lt_irrefl, Int.le_refl, Nat.le_refl, and_self, true_and, and_true, decide_true, decide_false, Int.reduceLE, Int.reduceLT, Int.reduceAdd, Int.reduceMul, Int.reduceSub, Int.reduceTDiv, Int.reduceTMod, Int.reduceNeg, Int.reduceToNat, Int.reduceGT, Int.reduceGE, Int.reducePow, Nat.reduceAdd, Nat.reduceMul, Nat.reduceSub, Nat.reduceDiv, Nat.reduceMod, Nat.reducePow, Nat.reduceLT, Nat.reduceLeDiff, Nat.min_self, ge_iff_le, gt_iff_lt, Option.isNone_none, Option.isSome_none, Option.isNone_some, Option.isSome_some, Bool.and_true, Bool.true_and, Bool.and_false, Bool.false_and, not_true_eq_false, not_false_eq_true, or_true, true_or, false_or, or_false, hget0, hgetK, hset0, hsetK, splice_single, splice_whole, take_whole, List.getElem?_nil, List.length_append, List.append_assoc, decV, hz, hf, hz2, hf2, hwc, hset, hrem, hge, hof, hby, heq, s1, hyy, hD, huu, hdy, hvv, hiw, haa, hr, List.length_replicate, take_all, eV_cells, eV_size, eV_ok, eV_fold, ns_len, u8s_len, lk, lm, lz, lz2, lY, l1, lyy, lr, lB, rft, rf_eV]
      rfl
    | true =>
      have hroot := hok rfl
      rw [faa, fiw] at hroot
      have hroot1 := iv_cancel hvn hroot
      have h255 : (nf r).val % 2 < 2 := Nat.mod_lt _ (by decide)
      have hbq : ((((nf r).val % 2 : Nat) : Int) == 1) = decide ((nf r).val % 2 = 1) := by
        by_cases h : (nf r).val % 2 = 1
        · rw [h]; rfl
        · rw [show (nf r).val % 2 = 0 by omega]; rfl
      have bft : (false == true) = false := rfl
      have btf : (true == false) = false := rfl
      have fin : ∀ X : List Nat, Nm X → nf X * nf X = nf r * nf r → (nf X).val % 2 = w / 128 → ∃ p, RP (tL X Y (smallL 1)) p ∧ enc p = k := fun X NX hX hp =>
        ⟨⟨nf X, Go.Fp.fp V, on_of hu hv (by rw [hX]; exact hroot1)⟩, ⟨X, Y, _, rfl, NX, NY, N1, by rw [f1]; exact Go.Fp.one_ne, by rw [f1]; exact (fe_mul_one _).symm, by rw [f1, fy]; exact (fe_mul_one _).symm⟩, (hkey _).2 ⟨hYv, hp⟩⟩
      have hfr := fillT lr lY l1
      have hfn := fillT lnr lY l1
      have lTr := tL_len lr lY l1
      have lTn := tL_len lnr lY l1
      rw [hz48] at hfr hfn
      have hneg : nf nr * nf nr = nf r * nf r := by rw [fnr]; exact fe_negsq _
      have hnpar : nf r ≠ 0 → (nf nr).val % 2 ≠ (nf r).val % 2 := fun h => by rw [fnr]; exact par_neg h
      have hnl := Nat.mod_lt (nf nr).val (by decide : 0 < 2)
      have hw2 : w / 128 < 2 := by omega
      by_cases hb : w / 128 = 1
      · rw [decide_eq_true hb] at hge
        by_cases h0 : nf r = 0
        · rw [decide_eq_true h0] at hq0
          refine .inr ⟨Z48, ?_, lz2, fun p hp => ?_⟩
          · generalize smallL 1 = S1 at *
            apply evVal_ex
            apply Exists.intro
            rw [evFun_fn (fn := a32) rfl]
            simp only [a32, ↓steps_chunk, envOf, evCode_skip, evCode_exit, evCode_seq, fs_blockS, fs_blockR, fs_blockC, fs_blockK, fs_blockB, evCode_ret, quiet, keep_nil, keep_cons, fs_cond, fs_region, fs_regionQ, quiet2_eq, lastOf_nil, lastOf_cons, List.take_succ_cons, List.take_zero, List.drop_succ_cons, List.drop_zero, Int.reduceBEq, Int.reduceBNe,  fs_nil, fs_guard, fs_move, fs_pick, fs_alloc, fs_box, fs_load, fs_store, fs_bin, fs_eqv, fs_isNil, fs_un, fs_conv, fs_convStr, fs_field, fs_index, fs_indexStr, fs_build, fs_buildSlice, fs_fieldAddr, fs_indexAddr, fs_indexSl, fs_sliceArr, fs_sliceSl, fs_sliceStr, fs_makeSlice, fs_extract, fs_mkIface, fs_mkFunc, fs_nilCheck, fs_s2ap, fs_len, fs_minmax, fs_s2b, fs_b2s, fs_append, fs_copy, fs_callW, fs_callR, fs_callv, opd_tmp, opd_const, opd_func, opds_nil, opds_cons, opdOpt_none, opdOpt_some, opdParts_nil, opdParts_cons, get_miss, vPick_t, vPick_f, vEq_agg, vEq_aggN, vEq_bool, vEq_boolN, vConv_int, vStr_s, vField_agg, vIndex_agg, vIndexStr_s, vFieldAddr_p, vIndexAddr_p, vIndexSl_s, vSliceArr_p, vSliceSl_s, vSliceSl_n, vSliceStr_s, vExtract_t, vNilCheck_p, vS2ap_s, vLen_s, vLen_str, vMin_i, vMax_i, vLoad_p, vStore_p, baseP_p, vB2s_s, vMake_i, vS2b_s, callee_f, liveAt_eq, storeAt_eq, partL_none, partL_some, natIn_none, natIn_int, bounds3_two, bin_add, bin_sub, bin_mul, bin_quo, bin_rem, bin_and, bin_or, bin_xor, bin_andNot, bin_eql, bin_neq, bin_lss, bin_leq, bin_gtr, bin_geq, bin_shl, bin_shr, bin_sadd, bin_seql, bin_sneq, un_not, un_neg, un_xor, after_some, put_some, put_none, res_nil, res_val, res_var, packed_one, packed_two, merge_nil, merge_ge, rf_tup2, rfIn_int, rfIn_bool, rfIn_u8s, rf_str, rfIn_str, ↓gate_true, gd_bool, gd_ut, gd_uf, ↓guardW_tt, ↓guardW_ff, ↓guardW_tf, ↓guardW_ft, ↓keepW_some, ↓qElseW_some, ↓get_hit, ↓Option.bind_some, ↓if_true, ↓if_false, List.nil_append, List.cons_append, List.all_nil, List.all_cons, List.isEmpty_nil, reduceCtorEq, Bool.false_eq_true, Nat.reduceEqDiff, beq_self_eq_true, bne_self_eq_false, Bool.not_true, Bool.not_false, Int.natCast_nonneg, Nat.lt_irrefl, false_and, Int.reduceEq, rf_int, rf_bool, rf_tuple_ints, rf_u8s, arr_list, toList2, Bool.and_self, Nat.not_lt_zero, Nat.sub_zero, Nat.zero_le, Nat.le_add_right, cells_agg, cells_agg_size, cells_int, cells_int_size, okV_int, okV_bool, okV_str, okV_agg, okV_ptr, okV_slice, okV_func, okV_nilFunc, okV_iface, okV_nilIface, cells_bool, cells_bool_size, cells_ptr, cells_ptr_size, cells_slice, cells_slice_size, cells_str, cells_str_size, eq_self, wrapI64_small, Int.natCast_zero, Int.natCast_one, Int.cast_ofNat_Int, List.length_nil, List.length_cons, List.getElem?_cons_zero, List.getElem?_cons_succ, List.set_cons_zero, List.set_cons_succ, Nat.zero_add, Nat.add_zero, Nat.mul_one, Nat.zero_mul, Int.toNat_natCast, Int.toNat_zero, Int.lt_irrefl, Int.le_refl, Nat.le_refl, and_self, true_and, and_true, decide_true, decide_false, Int.reduceLE, Int.reduceLT, Int.reduceAdd, Int.reduceMul, Int.reduceSub, Int.reduceTDiv, Int.reduceTMod, Int.reduceNeg, Int.reduceToNat, Int.reduceGT, Int.reduceGE, Int.reducePow, Nat.reduceAdd, Nat.reduceMul, Nat.reduceSub, Nat.reduceDiv, Nat.reduceMod, Nat.reducePow, Nat.reduceLT, Nat.reduceLeDiff, Nat.min_self, ge_iff_le, gt_iff_lt, Option.isNone_none, Option.isSome_none, Option.isNone_some, Option.isSome_some, Bool.and_true, Bool.true_and, Bool.and_false, Bool.false_and, not_true_eq_false, not_false_eq_true, or_true, true_or, false_or, or_false, hget0, hgetK, hset0, hsetK, splice_single, splice_whole, take_whole, List.getElem?_nil, List.length_append, List.append_assoc, decV, hz, hf, hz2, hf2, hwc, hset, hrem, hge, hof, hby, heq, s1, hyy, hD, huu, hdy, hvv, hiw, haa, hr, hq0,  List.length_replicate, take_all, eV_cells, eV_size, eV_ok, eV_fold, ns_len, u8s_len, lk, lm, lz, lz2, lY, l1, lyy, lr, lnr, lB,  rft, rf_eV]
            rfl
          · have h2 := ((hkey p).1 hp).2
            have h3 := hxx p hp
            rw [faa, fiw, ← hroot, h0] at h3
            rcases sq_eq h3 with h5 | h5
            · rw [h5, hb] at h2; exact absurd h2 (by decide)
            · rw [h5, hb] at h2; exact absurd h2 (by decide)
        · rw [decide_eq_false h0] at hq0
          by_cases hp1 : (nf r).val % 2 = 1
          · rw [decide_eq_true hp1] at hbq
            obtain ⟨p, rp, he⟩ := fin r Nr rfl (by rw [hb]; exact hp1)
            refine .inl ⟨_, p, ?_, rp, he⟩
            generalize tL r Y (smallL 1) = R at *
            generalize smallL 1 = S1 at *
            apply evVal_ex
            apply Exists.intro
            rw [evFun_fn (fn := a32) rfl]
            simp only [a32, ↓steps_chunk, envOf, evCode_skip, evCode_exit, evCode_seq, fs_blockS, fs_blockR, fs_blockC, fs_blockK, fs_blockB, evCode_ret, quiet, keep_nil, keep_cons, fs_cond, fs_region, fs_regionQ, quiet2_eq, lastOf_nil, lastOf_cons, List.take_succ_cons, List.take_zero, List.drop_succ_cons, List.drop_zero, Int.reduceBEq, Int.reduceBNe,  fs_nil, fs_guard, fs_move, fs_pick, fs_alloc, fs_box, fs_load, fs_store, fs_bin, fs_eqv, fs_isNil, fs_un, fs_conv, fs_convStr, fs_field, fs_index, fs_indexStr, fs_build, fs_buildSlice, fs_fieldAddr, fs_indexAddr, fs_indexSl, fs_sliceArr, fs_sliceSl, fs_sliceStr, fs_makeSlice, fs_extract, fs_mkIface, fs_mkFunc, fs_nilCheck, fs_s2ap, fs_len, fs_minmax, fs_s2b, fs_b2s, fs_append, fs_copy, fs_callW, fs_callR, fs_callv, opd_tmp, opd_const, opd_func, opds_nil, opds_cons, opdOpt_none, opdOpt_some, opdParts_nil, opdParts_cons, get_miss, vPick_t, vPick_f, vEq_agg, vEq_aggN, vEq_bool, vEq_boolN, vConv_int, vStr_s, vField_agg, vIndex_agg, vIndexStr_s, vFieldAddr_p, vIndexAddr_p, vIndexSl_s, vSliceArr_p, vSliceSl_s, vSliceSl_n, vSliceStr_s, vExtract_t, vNilCheck_p, vS2ap_s, vLen_s, vLen_str, vMin_i, vMax_i, vLoad_p, vStore_p, baseP_p, vB2s_s, vMake_i, vS2b_s, callee_f, liveAt_eq, storeAt_eq, partL_none, partL_some, natIn_none, natIn_int, bounds3_two, bin_add, bin_sub, bin_mul, bin_quo, bin_rem, bin_and, bin_or, bin_xor, bin_andNot, bin_eql, bin_neq, bin_lss, bin_leq, bin_gtr, bin_geq, bin_shl, bin_shr, bin_sadd, bin_seql, bin_sneq, un_not, un_neg, un_xor, after_some, put_some, put_none, res_nil, res_val, res_var, packed_one, packed_two, merge_nil, merge_ge, rf_tup2, rfIn_int, rfIn_bool, rfIn_u8s, rf_str, rfIn_str, ↓gate_true, gd_bool, gd_ut, gd_uf, ↓guardW_tt, ↓guardW_ff, ↓guardW_tf, ↓guardW_ft, ↓keepW_some, ↓qElseW_some, ↓get_hit, ↓Option.bind_some, ↓if_true, ↓if_false, List.nil_append, List.cons_append, List.all_nil, List.all_cons, List.isEmpty_nil, reduceCtorEq, Bool.false_eq_true, Nat.reduceEqDiff, beq_self_eq_true, bne_self_eq_false, Bool.not_true, Bool.not_false, Int.natCast_nonneg, Nat.lt_irrefl, false_and, Int.reduceEq, rf_int, rf_bool, rf_tuple_ints, rf_u8s, arr_list, toList2, Bool.and_self, Nat.not_lt_zero, Nat.sub_zero, Nat.zero_le, Nat.le_add_right, cells_agg, cells_agg_size, cells_int, cells_int_size, okV_int, okV_bool, okV_str, okV_agg, okV_ptr, okV_slice, okV_func, okV_nilFunc, okV_iface, okV_nilIface, cells_bool, cells_bool_size, cells_ptr, cells_ptr_size, cells_slice, cells_slice_size, cells_str, cells_str_size, eq_self, wrapI64_small, Int.natCast_zero, Int.natCast_one, Int.cast_ofNat_Int, List.length_nil, List.length_cons, List.getElem?_cons_zero, List.getElem?_cons_succ, List.set_cons_zero, List.set_cons_succ, Nat.zero_add, Nat.add_zero, Nat.mul_one, Nat.zero_mul, Int.toNat_natCast, Int.toNat_zero, Int.lt_irrefl, Int.le_refl, Nat.le_refl, and_self, true_and, and_true, decide_true, decide_false, Int.reduceLE, Int.reduceLT, Int.reduceAdd, Int.reduceMul, Int.reduceSub, Int.reduceTDiv, Int.reduceTMod, Int.reduceNeg, Int.reduceToNat, Int.reduceGT, Int.reduceGE, Int.reducePow, Nat.reduceAdd, Nat.reduceMul, Nat.reduceSub, Nat.reduceDiv, Nat.reduceMod, Nat.reducePow, Nat.reduceLT, Nat.reduceLeDiff, Nat.min_self, ge_iff_le, gt_iff_lt, Option.isNone_none, Option.isSome_none, Option.isNone_some, Option.isSome_some, Bool.and_true, Bool.true_and, Bool.and_false, Bool.false_and, not_true_eq_false, not_false_eq_true, or_true, true_or, false_or, or_false, hget0, hgetK, hset0, hsetK, splice_single, splice_whole, take_whole, List.getElem?_nil, List.length_append, List.append_assoc, decV, hz, hf, hz2, hf2, hwc, hset, hrem, hge, hof, hby, heq, s1, hyy, hD, huu, hdy, hvv, hiw, haa, hr, hq0, bft, btf, hr0c, hr2, hbq, hfr, List.length_replicate, take_all, eV_cells, eV_size, eV_ok, eV_fold, ns_len, u8s_len, lk, lm, lz, lz2, lY, l1, lyy, lr, lnr, lB, lTr, rft, rf_eV]
            rfl
          · rw [decide_eq_false hp1] at hbq
            obtain ⟨p, rp, he⟩ := fin nr Nnr hneg (by have := hnpar h0; omega)
            refine .inl ⟨_, p, ?_, rp, he⟩
            generalize tL nr Y (smallL 1) = R at *
            generalize smallL 1 = S1 at *
            apply evVal_ex
            apply Exists.intro
            rw [evFun_fn (fn := a32) rfl]
            simp only [a32, ↓steps_chunk, envOf, evCode_skip, evCode_exit, evCode_seq, fs_blockS, fs_blockR, fs_blockC, fs_blockK, fs_blockB, evCode_ret, quiet, keep_nil, keep_cons, fs_cond, fs_region, fs_regionQ, quiet2_eq, lastOf_nil, lastOf_cons, List.take_succ_cons, List.take_zero, List.drop_succ_cons, List.drop_zero, Int.reduceBEq, Int.reduceBNe,  fs_nil, fs_guard, fs_move, fs_pick, fs_alloc, fs_box, fs_load, fs_store, fs_bin, fs_eqv, fs_isNil, fs_un, fs_conv, fs_convStr, fs_field, fs_index, fs_indexStr, fs_build, fs_buildSlice, fs_fieldAddr, fs_indexAddr, fs_indexSl, fs_sliceArr, fs_sliceSl, fs_sliceStr, fs_makeSlice, fs_extract, fs_mkIface, fs_mkFunc, fs_nilCheck, fs_s2ap, fs_len, fs_minmax, fs_s2b, fs_b2s, fs_append, fs_copy, fs_callW, fs_callR, fs_callv, opd_tmp, opd_const, opd_func, opds_nil, opds_cons, opdOpt_none, opdOpt_some, opdParts_nil, opdParts_cons, get_miss, vPick_t, vPick_f, vEq_agg, vEq_aggN, vEq_bool, vEq_boolN, vConv_int, vStr_s, vField_agg, vIndex_agg, vIndexStr_s, vFieldAddr_p, vIndexAddr_p, vIndexSl_s, vSliceArr_p, vSliceSl_s, vSliceSl_n, vSliceStr_s, vExtract_t, vNilCheck_p, vS2ap_s, vLen_s, vLen_str, vMin_i, vMax_i, vLoad_p, vStore_p, baseP_p, vB2s_s, vMake_i, vS2b_s, callee_f, liveAt_eq, storeAt_eq, partL_none, partL_some, natIn_none, natIn_int, bounds3_two, bin_add, bin_sub, bin_mul, bin_quo, bin_rem, bin_and, bin_or, bin_xor, bin_andNot, bin_eql, bin_neq, bin_lss, bin_leq, bin_gtr, bin_geq, bin_shl, bin_shr, bin_sadd, bin_seql, bin_sneq, un_not, un_neg, un_xor, after_some, put_some, put_none, res_nil, res_val, res_var, packed_one, packed_two, merge_nil, merge_ge, rf_tup2, rfIn_int, rfIn_bool, rfIn_u8s, rf_str, rfIn_str, ↓gate_true, gd_bool, gd_ut, gd_uf, ↓guardW_tt, ↓guardW_ff, ↓guardW_tf, ↓guardW_ft, ↓keepW_some, ↓qElseW_some, ↓get_hit, ↓Option.bind_some, ↓if_true, ↓if_false, List.nil_append, List.cons_append, List.all_nil, List.all_cons, List.isEmpty_nil, reduceCtorEq, Bool.false_eq_true, Nat.reduceEqDiff, beq_self_eq_true, bne_self_eq_false, Bool.not_true, Bool.not_false, Int.natCast_nonneg, Nat.lt_irrefl, false_and, Int.reduceEq, rf_int, rf_bool, rf_tuple_ints, rf_u8s, arr_list, toList2, Bool.and_self, Nat.not_lt_zero, Nat.sub_zero, Nat.zero_le, Nat.le_add_right, cells_agg, cells_agg_size, cells_int, cells_int_size, okV_int, okV_bool, okV_str, okV_agg, okV_ptr, okV_slice, okV_func, okV_nilFunc, okV_iface, okV_nilIface, cells_bool, cells_bool_size, cells_ptr, cells_ptr_size, cells_slice, cells_slice_size, cells_str, cells_str_size, eq_self, wrapI64_small, Int.natCast_zero, Int.natCast_one, Int.cast_ofNat_Int, List.length_nil, List.length_cons, List.getElem?_cons_zero, List.getElem?_cons_succ, List.set_cons_zero, List.set_cons_succ, Nat.zero_add, Nat.add_zero, Nat.mul_one, Nat.zero_mul, Int.toNat_natCast, Int.toNat_zero, Int.lt_irrefl, Int.le_refl, Nat.le_refl, and_self, true_and, and_true, decide_true, decide_false, Int.reduceLE, Int.reduceLT, Int.reduceAdd, Int.reduceMul, Int.reduceSub, Int.reduceTDiv, Int.reduceTMod, Int.reduceNeg, Int.reduceToNat, Int.reduceGT, Int.reduceGE, Int.reducePow, Nat.reduceAdd, Nat.reduceMul, Nat.reduceSub, Nat.reduceDiv, Nat.reduceMod, Nat.reducePow, Nat.reduceLT, Nat.reduceLeDiff, Nat.min_self, ge_iff_le, gt_iff_lt, Option.isNone_none, Option.isSome_none, Option.isNone_some, Option.isSome_some, Bool.and_true, Bool.true_and, Bool.and_false, Bool.false_and, not_true_eq_false, not_false_eq_true, or_true, true_or, false_or, or_false, hget0, hgetK, hset0, hsetK, splice_single, splice_whole, take_whole, List.getElem?_nil, List.length_append, List.append_assoc, decV, hz, hf, hz2, hf2, hwc, hset, hrem, hge, hof, hby, heq, s1, hyy, hD, huu, hdy, hvv, hiw, haa, hr, hq0, bft, btf, hr0c, hr2, hbq, hnr, hfn, List.length_replicate, take_all, eV_cells, eV_size, eV_ok, eV_fold, ns_len, u8s_len, lk, lm, lz, lz2, lY, l1, lyy, lr, lnr, lB, lTn, rft, rf_eV]
            rfl
      · rw [decide_eq_false hb] at hge
        by_cases hp1 : (nf r).val % 2 = 1
        · rw [decide_eq_true hp1] at hbq
          have h0 : nf r ≠ 0 := fun h => by rw [h] at hp1; exact absurd hp1 (by decide)
          rw [decide_eq_false h0] at hq0
          obtain ⟨p, rp, he⟩ := fin nr Nnr hneg (by have := hnpar h0; omega)
          refine .inl ⟨_, p, ?_, rp, he⟩
          generalize tL nr Y (smallL 1) = R at *
          generalize smallL 1 = S1 at *
          apply evVal_ex
          apply Exists.intro
          rw [evFun_fn (fn := a32) rfl]
          simp only [a32, ↓steps_chunk, envOf, evCode_skip, evCode_exit, evCode_seq, fs_blockS, fs_blockR, fs_blockC, fs_blockK, fs_blockB, evCode_ret, quiet, keep_nil, keep_cons, fs_cond, fs_region, fs_regionQ, quiet2_eq, lastOf_nil, lastOf_cons, List.take_succ_cons, List.take_zero, List.drop_succ_cons, List.drop_zero, Int.reduceBEq, Int.reduceBNe,  fs_nil, fs_guard, fs_move, fs_pick, fs_alloc, fs_box, fs_load, fs_store, fs_bin, fs_eqv, fs_isNil, fs_un, fs_conv, fs_convStr, fs_field, fs_index, fs_indexStr, fs_build, fs_buildSlice, fs_fieldAddr, fs_indexAddr, fs_indexSl, fs_sliceArr, fs_sliceSl, fs_sliceStr, fs_makeSlice, fs_extract, fs_mkIface, fs_mkFunc, fs_nilCheck, fs_s2ap, fs_len, fs_minmax, fs_s2b, fs_b2s, fs_append, fs_copy, fs_callW, fs_callR, fs_callv, opd_tmp, opd_const, opd_func, opds_nil, opds_cons, opdOpt_none, opdOpt_some, opdParts_nil, opdParts_cons, get_miss, vPick_t, vPick_f, vEq_agg, vEq_aggN, vEq_bool, vEq_boolN, vConv_int, vStr_s, vField_agg, vIndex_agg, vIndexStr_s, vFieldAddr_p, vIndexAddr_p, vIndexSl_s, vSliceArr_p, vSliceSl_s, vSliceSl_n, vSliceStr_s, vExtract_t, vNilCheck_p, vS2ap_s, vLen_s, vLen_str, vMin_i, vMax_i, vLoad_p, vStore_p, baseP_p, vB2s_s, vMake_i, vS2b_s, callee_f, liveAt_eq, storeAt_eq, partL_none, partL_some, natIn_none, natIn_int, bounds3_two, bin_add, bin_sub, bin_mul, bin_quo, bin_rem, bin_and, bin_or, bin_xor, bin_andNot, bin_eql, bin_neq, bin_lss, bin_leq, bin_gtr, bin_geq, bin_shl, bin_shr, bin_sadd, bin_seql, bin_sneq, un_not, un_neg, un_xor, after_some, put_some, put_none, res_nil, res_val, res_var, packed_one, packed_two, merge_nil, merge_ge, rf_tup2, rfIn_int, rfIn_bool, rfIn_u8s, rf_str, rfIn_str, ↓gate_true, gd_bool, gd_ut, gd_uf, ↓guardW_tt, ↓guardW_ff, ↓guardW_tf, ↓guardW_ft, ↓keepW_some, ↓qElseW_some, ↓get_hit, ↓Option.bind_some, ↓if_true, ↓if_false, List.nil_append, List.cons_append, List.all_nil, List.all_cons, List.isEmpty_nil, reduceCtorEq, Bool.false_eq_true, Nat.reduceEqDiff, beq_self_eq_true, bne_self_eq_false, Bool.not_true, Bool.not_false, Int.natCast_nonneg, Nat.lt_irrefl, false_and, Int.reduceEq, rf_int, rf_bool, rf_tuple_ints, rf_u8s, arr_list, toList2, Bool.and_self, Nat.not_lt_zero, Nat.sub_zero, Nat.zero_le, Nat.le_add_right, cells_agg, cells_agg_size, cells_int, cells_int_size, okV_int, okV_bool, okV_str, okV_agg, okV_ptr, okV_slice, okV_func, okV_nilFunc, okV_iface, okV_nilIface, cells_bool, cells_bool_size, cells_ptr, cells_ptr_size, cells_slice, cells_slice_size, cells_str, cells_str_size, eq_self, wrapI64_small, Int.natCast_zero, Int.natCast_one, Int.cast_ofNat_Int, List.length_nil, List.length_cons, List.getElem?_cons_zero, List.getElem?_cons_succ, List.set_cons_zero, List.set_cons_succ, Nat.zero_add, Nat.add_zero, Nat.mul_one, Nat.zero_mul, Int.toNat_natCast, Int.toNat_zero, Int.lt_irrefl, Int.le_refl, Nat.le_refl, and_self, true_and, and_true, decide_true, decide_false, Int.reduceLE, Int.reduceLT, Int.reduceAdd, Int.reduceMul, Int.reduceSub, Int.reduceTDiv, Int.reduceTMod, Int.reduceNeg, Int.reduceToNat, Int.reduceGT, Int.reduceGE, Int.reducePow, Nat.reduceAdd, Nat.reduceMul, Nat.reduceSub, Nat.reduceDiv, Nat.reduceMod, Nat.reducePow, Nat.reduceLT, Nat.reduceLeDiff, Nat.min_self, ge_iff_le, gt_iff_lt, Option.isNone_none, Option.isSome_none, Option.isNone_some, Option.isSome_some, Bool.and_true, Bool.true_and, Bool.and_false, Bool.false_and, not_true_eq_false, not_false_eq_true, or_true, true_or, false_or, or_false, hget0, hgetK, hset0, hsetK, splice_single, splice_whole, take_whole, List.getElem?_nil, List.length_append, List.append_assoc, decV, hz, hf, hz2, hf2, hwc, hset, hrem, hge, hof, hby, heq, s1, hyy, hD, huu, hdy, hvv, hiw, haa, hr, hq0, bft, btf, hr0c, hr2, hbq, hnr, hfn, List.length_replicate, take_all, eV_cells, eV_size, eV_ok, eV_fold, ns_len, u8s_len, lk, lm, lz, lz2, lY, l1, lyy, lr, lnr, lB, lTn, rft, rf_eV]
          rfl
        · rw [decide_eq_false hp1] at hbq
          obtain ⟨p, rp, he⟩ := fin r Nr rfl (by omega)
          refine .inl ⟨_, p, ?_, rp, he⟩
          generalize tL r Y (smallL 1) = R at *
          generalize decide (nf r = 0) = zq at *
          cases zq with
          | false =>
            generalize smallL 1 = S1 at *
            apply evVal_ex
            apply Exists.intro
            rw [evFun_fn (fn := a32) rfl]
            simp only [a32, ↓steps_chunk, envOf, evCode_skip, evCode_exit, evCode_seq, fs_blockS, fs_blockR, fs_blockC, fs_blockK, fs_blockB, evCode_ret, quiet, keep_nil, keep_cons, fs_cond, fs_region, fs_regionQ, quiet2_eq, lastOf_nil, lastOf_cons, List.take_succ_cons, List.take_zero, List.drop_succ_cons, List.drop_zero, Int.reduceBEq, Int.reduceBNe,  fs_nil, fs_guard, fs_move, fs_pick, fs_alloc, fs_box, fs_load, fs_store, fs_bin, fs_eqv, fs_isNil, fs_un, fs_conv, fs_convStr, fs_field, fs_index, fs_indexStr, fs_build, fs_buildSlice, fs_fieldAddr, fs_indexAddr, fs_indexSl, fs_sliceArr, fs_sliceSl, fs_sliceStr, fs_makeSlice, fs_extract, fs_mkIface, fs_mkFunc, fs_nilCheck, fs_s2ap, fs_len, fs_minmax, fs_s2b, fs_b2s, fs_append, fs_copy, fs_callW, fs_callR, fs_callv, opd_tmp, opd_const, opd_func, opds_nil, opds_cons, opdOpt_none, opdOpt_some, opdParts_nil, opdParts_cons, get_miss, vPick_t, vPick_f, vEq_agg, vEq_aggN, vEq_bool, vEq_boolN, vConv_int, vStr_s, vField_agg, vIndex_agg, vIndexStr_s, vFieldAddr_p, vIndexAddr_p, vIndexSl_s, vSliceArr_p, vSliceSl_s, vSliceSl_n, vSliceStr_s, vExtract_t, vNilCheck_p, vS2ap_s, vLen_s, vLen_str, vMin_i, vMax_i, vLoad_p, vStore_p, baseP_p, vB2s_s, vMake_i, vS2b_s, callee_f, liveAt_eq, storeAt_eq, partL_none, partL_some, natIn_none, natIn_int, bounds3_two, bin_add, bin_sub, bin_mul, bin_quo, bin_rem, bin_and, bin_or, bin_xor, bin_andNot, bin_eql, bin_neq, bin_lss, bin_leq, bin_gtr, bin_geq, bin_shl, bin_shr, bin_sadd, bin_seql, bin_sneq, un_not, un_neg, un_xor, after_some, put_some, put_none, res_nil, res_val, res_var, packed_one, packed_two, merge_nil, merge_ge, rf_tup2, rfIn_int, rfIn_bool, rfIn_u8s, rf_str, rfIn_str, ↓gate_true, gd_bool, gd_ut, gd_uf, ↓guardW_tt, ↓guardW_ff, ↓guardW_tf, ↓guardW_ft, ↓keepW_some, ↓qElseW_some, ↓get_hit, ↓Option.bind_some, ↓if_true, ↓if_false, List.nil_append, List.cons_append, List.all_nil, List.all_cons, List.isEmpty_nil, reduceCtorEq, Bool.false_eq_true, Nat.reduceEqDiff, beq_self_eq_true, bne_self_eq_false, Bool.not_true, Bool.not_false, Int.natCast_nonneg, Nat.lt_irrefl, false_and, Int.reduceEq, rf_int, rf_bool, rf_tuple_ints, rf_u8s, arr_list, toList2, Bool.and_self, Nat.not_lt_zero, Nat.sub_zero, Nat.zero_le, Nat.le_add_right, cells_agg, cells_agg_size, cells_int, cells_int_size, okV_int, okV_bool, okV_str, okV_agg, okV_ptr, okV_slice, okV_func, okV_nilFunc, okV_iface, okV_nilIface, cells_bool, cells_bool_size, cells_ptr, cells_ptr_size, cells_slice, cells_slice_size, cells_str, cells_str_size, eq_self, wrapI64_small, Int.natCast_zero, Int.natCast_one, Int.cast_ofNat_Int, List.length_nil, List.length_cons, List.getElem?_cons_zero, List.getElem?_cons_succ, List.set_cons_zero, List.set_cons_succ, Nat.zero_add, Nat.add_zero, Nat.mul_one, Nat.zero_mul, Int.toNat_natCast, Int.toNat_zero, Int.lt_irrefl, Int.le_refl, Nat.le_refl, and_self, true_and, and_true, decide_true, decide_false, Int.reduceLE, Int.reduceLT, Int.reduceAdd, Int.reduceMul, Int.reduceSub, Int.reduceTDiv, Int.reduceTMod, Int.reduceNeg, Int.reduceToNat, Int.reduceGT, Int.reduceGE, Int.reducePow, Nat.reduceAdd, Nat.reduceMul, Nat.reduceSub, Nat.reduceDiv, Nat.reduceMod, Nat.reducePow, Nat.reduceLT, Nat.reduceLeDiff, Nat.min_self, ge_iff_le, gt_iff_lt, Option.isNone_none, Option.isSome_none, Option.isNone_some, Option.isSome_some, Bool.and_true, Bool.true_and, Bool.and_false, Bool.false_and, not_true_eq_false, not_false_eq_true, or_true, true_or, false_or, or_false, hget0, hgetK, hset0, hsetK, splice_single, splice_whole, take_whole, List.getElem?_nil, List.length_append, List.append_assoc, decV, hz, hf, hz2, hf2, hwc, hset, hrem, hge, hof, hby, heq, s1, hyy, hD, huu, hdy, hvv, hiw, haa, hr, hq0, bft, btf, hr0c, hr2, hbq, hfr, List.length_replicate, take_all, eV_cells, eV_size, eV_ok, eV_fold, ns_len, u8s_len, lk, lm, lz, lz2, lY, l1, lyy, lr, lnr, lB, lTr, rft, rf_eV]
            rfl
          | true =>
            generalize smallL 1 = S1 at *
            apply evVal_ex
            apply Exists.intro
            rw [evFun_fn (fn := a32) rfl]
            simp only [a32, ↓steps_chunk, envOf, evCode_skip, evCode_exit, evCode_seq, fs_blockS, fs_blockR, fs_blockC, fs_blockK, fs_blockB, evCode_ret, quiet, keep_nil, keep_cons, fs_cond, fs_region, fs_regionQ, quiet2_eq, lastOf_nil, lastOf_cons, List.take_succ_cons, List.take_zero, List.drop_succ_cons, List.drop_zero, Int.reduceBEq, Int.reduceBNe,  fs_nil, fs_guard, fs_move, fs_pick, fs_alloc, fs_box, fs_load, fs_store, fs_bin, fs_eqv, fs_isNil, fs_un, fs_conv, fs_convStr, fs_field, fs_index, fs_indexStr, fs_build, fs_buildSlice, fs_fieldAddr, fs_indexAddr, fs_indexSl, fs_sliceArr, fs_sliceSl, fs_sliceStr, fs_makeSlice, fs_extract, fs_mkIface, fs_mkFunc, fs_nilCheck, fs_s2ap, fs_len, fs_minmax, fs_s2b, fs_b2s, fs_append, fs_copy, fs_callW, fs_callR, fs_callv, opd_tmp, opd_const, opd_func, opds_nil, opds_cons, opdOpt_none, opdOpt_some, opdParts_nil, opdParts_cons, get_miss, vPick_t, vPick_f, vEq_agg, vEq_aggN, vEq_bool, vEq_boolN, vConv_int, vStr_s, vField_agg, vIndex_agg, vIndexStr_s, vFieldAddr_p, vIndexAddr_p, vIndexSl_s, vSliceArr_p, vSliceSl_s, vSliceSl_n, vSliceStr_s, vExtract_t, vNilCheck_p, vS2ap_s, vLen_s, vLen_str, vMin_i, vMax_i, vLoad_p, vStore_p, baseP_p, vB2s_s, vMake_i, vS2b_s, callee_f, liveAt_eq, storeAt_eq, partL_none, partL_some, natIn_none, natIn_int, bounds3_two, bin_add, bin_sub, bin_mul, bin_quo, bin_rem, bin_and, bin_or, bin_xor, bin_andNot, bin_eql, bin_neq, bin_lss, bin_leq, bin_gtr, bin_geq, bin_shl, bin_shr, bin_sadd, bin_seql, bin_sneq, un_not, un_neg, un_xor, after_some, put_some, put_none, res_nil, res_val, res_var, packed_one, packed_two, merge_nil, merge_ge, rf_tup2, rfIn_int, rfIn_bool, rfIn_u8s, rf_str, rfIn_str, ↓gate_true, gd_bool, gd_ut, gd_uf, ↓guardW_tt, ↓guardW_ff, ↓guardW_tf, ↓guardW_ft, ↓keepW_some, ↓qElseW_some, ↓get_hit, ↓Option.bind_some, ↓if_true, ↓if_false, List.nil_append, List.cons_append, List.all_nil, List.all_cons, List.isEmpty_nil, reduceCtorEq, Bool.false_eq_true, Nat.reduceEqDiff, beq_self_eq_true, bne_self_eq_false, Bool.not_true, Bool.not_false, Int.natCast_nonneg, Nat.lt_irrefl, false_and, Int.reduceEq, rf_int, rf_bool, rf_tuple_ints, rf_u8s, arr_list, toList2, Bool.and_self, Nat.not_lt_zero, Nat.sub_zero, Nat.zero_le, Nat.le_add_right, cells_agg, cells_agg_size, cells_int, cells_int_size, okV_int, okV_bool, okV_str, okV_agg, okV_ptr, okV_slice, okV_func, okV_nilFunc, okV_iface, okV_nilIface, cells_bool, cells_bool_size, cells_ptr, cells_ptr_size, cells_slice, cells_slice_size, cells_str, cells_str_size, eq_self, wrapI64_small, Int.natCast_zero, Int.natCast_one, Int.cast_ofNat_Int, List.length_nil, List.length_cons, List.getElem?_cons_zero, List.getElem?_cons_succ, List.set_cons_zero, List.set_cons_succ, Nat.zero_add, Nat.add_zero, Nat.mul_one, Nat.zero_mul, Int.toNat_natCast, Int.toNat_zero, Int.lt_irrefl, Int.le_refl, Nat.le_refl, and_self, true_and, and_true, decide_true, decide_false, Int.reduceLE, Int.reduceLT, Int.reduceAdd, Int.reduceMul, Int.reduceSub, Int.reduceTDiv, Int.reduceTMod, Int.reduceNeg, Int.reduceToNat, Int.reduceGT, Int.reduceGE, Int.reducePow, Nat.reduceAdd, Nat.reduceMul, Nat.reduceSub, Nat.reduceDiv, Nat.reduceMod, Nat.reducePow, Nat.reduceLT, Nat.reduceLeDiff, Nat.min_self, ge_iff_le, gt_iff_lt, Option.isNone_none, Option.isSome_none, Option.isNone_some, Option.isSome_some, Bool.and_true, Bool.true_and, Bool.and_false, Bool.false_and, not_true_eq_false, not_false_eq_true, or_true, true_or, false_or, or_false, hget0, hgetK, hset0, hsetK, splice_single, splice_whole, take_whole, List.getElem?_nil, List.length_append, List.append_assoc, decV, hz, hf, hz2, hf2, hwc, hset, hrem, hge, hof, hby, heq, s1, hyy, hD, huu, hdy, hvv, hiw, haa, hr, hq0, bft, btf, hr0c, hr2, hbq, hfr, List.length_replicate, take_all, eV_cells, eV_size, eV_ok, eV_fold, ns_len, u8s_len, lk, lm, lz, lz2, lY, l1, lyy, lr, lnr, lB, lTr, rft, rf_eV]
            rfl
  · rw [decide_eq_false hV] at heq
    generalize zero16 = Z at *
    generalize zero48 = Z48 at *
    refine .inr ⟨Z48, ?_, lz2, fun p hp => hV ?_⟩
    · apply evVal_ex
      apply Exists.intro
      rw [evFun_fn (fn := a32) rfl]
      simp only [a32, ↓steps_chunk, envOf, evCode_skip, evCode_exit, evCode_seq, fs_blockS, fs_blockR, fs_blockC, fs_blockK, fs_blockB, evCode_ret, quiet, keep_nil, keep_cons, fs_cond, fs_region, fs_regionQ, quiet2_eq, lastOf_nil, lastOf_cons, List.take_succ_cons, List.take_zero, List.drop_succ_cons, List.drop_zero, Int.reduceBEq, Int.reduceBNe,  fs_nil, fs_guard, fs_move, fs_pick, fs_alloc, fs_box, fs_load, fs_store, fs_bin, fs_eqv, fs_isNil, fs_un, fs_conv, fs_convStr, fs_field, fs_index, fs_indexStr, fs_build, fs_buildSlice, fs_fieldAddr, fs_indexAddr, fs_indexSl, fs_sliceArr, fs_sliceSl, fs_sliceStr, fs_makeSlice, fs_extract, fs_mkIface, fs_mkFunc, fs_nilCheck, fs_s2ap, fs_len, fs_minmax, fs_s2b, fs_b2s, fs_append, fs_copy, fs_callW, fs_callR, fs_callv, opd_tmp, opd_const, opd_func, opds_nil, opds_cons, opdOpt_none, opdOpt_some, opdParts_nil, opdParts_cons, get_miss, vPick_t, vPick_f, vEq_agg, vEq_aggN, vEq_bool, vEq_boolN, vConv_int, vStr_s, vField_agg, vIndex_agg, vIndexStr_s, vFieldAddr_p, vIndexAddr_p, vIndexSl_s, vSliceArr_p, vSliceSl_s, vSliceSl_n, vSliceStr_s, vExtract_t, vNilCheck_p, vS2ap_s, vLen_s, vLen_str, vMin_i, vMax_i, vLoad_p, vStore_p, baseP_p, vB2s_s, vMake_i, vS2b_s, callee_f, liveAt_eq, storeAt_eq, partL_none, partL_some, natIn_none, natIn_int, bounds3_two, bin_add, bin_sub, bin_mul, bin_quo, bin_rem, bin_and, bin_or, bin_xor, bin_andNot, bin_eql, bin_neq, bin_lss, bin_leq, bin_gtr, bin_geq, bin_shl, bin_shr, bin_sadd, bin_seql, bin_sneq, un_not, un_neg, un_xor, after_some, put_some, put_none, res_nil, res_val, res_var, packed_one, packed_two, merge_nil, merge_ge, rf_tup2, rfIn_int, rfIn_bool, rfIn_u8s, rf_str, rfIn_str, ↓gate_true, gd_bool, gd_ut, gd_uf, ↓guardW_tt, ↓guardW_ff, ↓guardW_tf, ↓guardW_ft, ↓keepW_some, ↓qElseW_some, ↓get_hit, ↓Option.bind_some, ↓if_true, ↓if_false, List.nil_append, List.cons_append, List.all_nil, List.all_cons, List.isEmpty_nil, reduceCtorEq, Bool.false_eq_true, Nat.reduceEqDiff, beq_self_eq_true, bne_self_eq_false, Bool.not_true, Bool.not_false, Int.natCast_nonneg, Nat.lt_irrefl, false_and, Int.reduceEq, rf_int, rf_bool, rf_tuple_ints, rf_u8s, arr_list, toList2, Bool.and_self, Nat.not_lt_zero, Nat.sub_zero, Nat.zero_le, Nat.le_add_right, cells_agg, cells_agg_size, cells_int, cells_int_size, okV_int, okV_bool, okV_str, okV_agg, okV_ptr, okV_slice, okV_func, okV_nilFunc, okV_iface, okV_nilIface, cells_bool, cells_bool_size, cells_ptr, cells_ptr_size, cells_slice, cells_slice_size, cells_str, cells_str_size, eq_self, wrapI64_small, Int.natCast_zero, Int.natCast_one, Int.cast_ofNat_Int, List.length_nil, List.length_cons, List.getElem?_cons_zero, List.getElem?_cons_succ, List.set_cons_zero, List.set_cons_succ, Nat.zero_add, Nat.add_zero, Nat.mul_one, Nat.zero_mul, Int.toNat_natCast, Int.toNat_zero, Int.lt_irrefl, Int.le_refl, Nat.le_refl, and_self, true_and, and_true, decide_true, decide_false, Int.reduceLE, Int.reduceLT, Int.reduceAdd, Int.reduceMul, Int.reduceSub, Int.reduceTDiv, Int.reduceTMod, Int.reduceNeg, Int.reduceToNat, Int.reduceGT, Int.reduceGE, Int.reducePow, Nat.reduceAdd, Nat.reduceMul, Nat.reduceSub, Nat.reduceDiv, Nat.reduceMod, Nat.reducePow, Nat.reduceLT, Nat.reduceLeDiff, Nat.min_self, ge_iff_le, gt_iff_lt, Option.isNone_none, Option.isSome_none, Option.isNone_some, Option.isSome_some, Bool.and_true, Bool.true_and, Bool.and_false, Bool.false_and, not_true_eq_false, not_false_eq_true, or_true, true_or, false_or, or_false, hget0, hgetK, hset0, hsetK, splice_single, splice_whole, take_whole, List.getElem?_nil, List.length_append, List.append_assoc, decV, hz, hf, hz2, hf2, hwc, hset, hrem, hge, hof, hby, heq, List.length_replicate, take_all, eV_cells, eV_size, eV_ok, eV_fold, ns_len, u8s_len, lk, lm, lz, lz2, lY, lB, rf_eV]
      rfl
    · rw [← ((hkey p).1 hp).1]; exact p.y.isLt
end Go.Ev.Ytaceeoghjgggjaa

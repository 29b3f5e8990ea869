/- What the law leans on, part 5. -/
import Derived.Test.YtaceeoghjgggjaaPOr4
set_option linter.unusedSimpArgs false
set_option linter.unusedVariables false
set_option linter.unusedSimpArgs false
set_option linter.unusedVariables false
namespace Go.Ev.Ytaceeoghjgggjaa
open Go Go.Ev
attribute [local congr] bind_congr2 ite_congr2 qElse_congr gate_congr guardV_congr
set_option maxRecDepth 100000
def poI (s : Value) (k1 k2 : List Nat) (p : List Nat) (l : List Ob) (i : Nat) (ex : Env) : St := ⟨[(2, .pointer (some ⟨0, 0, none⟩)), (3, .pointer (some ⟨1, 0, none⟩)), (5, .pointer (some ⟨2, 0, none⟩)), (15, s), (16, .int .i64 32), (17, .int .i64 i)] ++ ex, ⟨u8s k1, true, true, true, 1⟩ :: ⟨u8s k2, true, true, true, 1⟩ :: ⟨u8s p, true, true, true, 1⟩ :: l, []⟩
theorem po_body {s : Value} {k1 k2 : List Nat} {l H : List Ob} {b i x : Nat} (hg : Grown .i64 b H s ordL) (hH : H = ⟨u8s k1, true, true, true, 1⟩ :: ⟨u8s k2, true, true, true, 1⟩ :: ⟨u8s (dig 256 32 0), true, true, true, 1⟩ :: l) (hb : 3 ≤ b) (hi : i < 32) (hx : ordL[i]? = some x) :
    evCode T 0 a14_l0 (poI s k1 k2 (ordP i) l i []) = some (.normal, poI s k1 k2 (ordP (i + 1)) l (i + 1) []) := by
  have hstep := ordP_step i hi
  have hgd : ordL.getD i 0 = x := by rw [List.getD_eq_getElem?_getD, hx]; rfl
  rw [hgd] at hstep
  have hx' : x < 256 := ordL_lt x (List.mem_of_getElem? hx)
  have h1 : ((i : Int) < 32) := by omega
  have h32 : ((i : Int) < ((32 : Nat) : Int)) := by omega
  have e1 : IntKind.i64.wrap ((i : Int) + 1) = ((i + 1 : Nat) : Int) := wrap_nat (n := i + 1) (by omega)
  have e2 := u8_small hx'
  have hlen : i + 1 ≤ (u8s (ordP i)).length := by rw [u8s_len, ordP_len (by omega)]; omega
  obtain ⟨id, off, c, hs, hrow⟩ := hg.sl.row (by rw [ordL_len]; decide)
  obtain ⟨o, ho, hc⟩ := hrow
  have hid : b ≤ id := by
    cases hg with
    | own h _ _ => cases hs; exact h
    | new h _ _ => cases hs; exact h
  subst hs
  rw [ordL_len]
  obtain ⟨j, rfl⟩ : ∃ j, id = j + 3 := ⟨id - 3, by omega⟩
  have ho' : (⟨u8s k1, true, true, true, 1⟩ :: ⟨u8s k2, true, true, true, 1⟩ :: ⟨u8s (ordP i), true, true, true, 1⟩ :: l : List Ob)[j + 3]? = some o ∧ o.live = true := by
    rw [hH] at ho
    simp only [liveAt, Option.bind_eq_some_iff] at ho
    obtain ⟨o', g1, g2⟩ := ho
    split at g2
    · cases g2
      rename_i hlv
      exact ⟨by simpa using g1, hlv⟩
    · cases g2
  have hl2 := ho'.1
  simp only [List.getElem?_cons_succ] at hl2
  have hcx := hc i x hx
  simp only [poI, a14_l0, envOf, evCode_skip, evCode_exit, evCode_seq, fs_blockS, fs_blockR, fs_blockC, fs_blockK, fs_blockB, evCode_ret, quiet, keep_nil, keep_cons, fs_cond, fs_region, fs_regionP, fs_nil, fs_guard, fs_move, fs_pick, fs_alloc, fs_box, fs_load, fs_store, fs_bin, fs_eqv, fs_isNil, fs_un, fs_conv, fs_convStr, fs_field, fs_index, fs_indexStr, fs_build, fs_buildSlice, fs_fieldAddr, fs_indexAddr, fs_indexSl, fs_sliceArr, fs_sliceSl, fs_sliceStr, fs_makeSlice, fs_extract, fs_mkIface, fs_mkFunc, fs_nilCheck, fs_s2ap, fs_len, fs_minmax, fs_s2b, fs_b2s, fs_append, fs_copy, fs_callV, fs_callR, fs_callv, opd_tmp, opd_const, opd_func, opds_nil, opds_cons, opdOpt_none, opdOpt_some, opdParts_nil, opdParts_cons, get_miss, vPick_t, vPick_f, vEq_agg, vEq_aggN, vEq_bool, vEq_boolN, vConv_int, vStr_s, vField_agg, vIndex_agg, vIndexStr_s, vFieldAddr_p, vIndexAddr_p, vIndexSl_s, vSliceArr_p, vSliceSl_s, vSliceSl_n, vSliceStr_s, vExtract_t, vNilCheck_p, vS2ap_s, vLen_s, vLen_str, vMin_i, vMax_i, vLoad_p, vStore_p, baseP_p, vB2s_s, vMake_i, vS2b_s, callee_f, liveAt_eq, storeAt_eq, partL_none, partL_some, natIn_none, natIn_int, bounds3_two, bin_add, bin_sub, bin_mul, bin_quo, bin_rem, bin_and, bin_or, bin_xor, bin_andNot, bin_eql, bin_neq, bin_lss, bin_leq, bin_gtr, bin_geq, bin_shl, bin_shr, bin_sadd, bin_seql, bin_sneq, un_not, un_neg, un_xor, after_some, put_some, put_none, res_nil, res_val, res_var, packed_one, packed_two, merge_nil, merge_ge, rf_tup2, rfIn_int, rfIn_bool, rfIn_u8s, rf_str, rfIn_str, ↓gate_true, gd_bool, gd_ut, gd_uf, ↓guardV_tt, ↓guardV_ff, ↓guardV_tf, ↓guardV_ft, ↓keepV_some, ↓qElse_some, ↓get_hit, ↓Option.bind_some, ↓if_true, ↓if_false, List.nil_append, List.cons_append, List.all_nil, List.all_cons, List.isEmpty_nil, reduceCtorEq, Bool.false_eq_true, Nat.reduceEqDiff, beq_self_eq_true, bne_self_eq_false, Bool.not_true, Bool.not_false, Int.natCast_nonneg, Nat.lt_irrefl, false_and, Int.reduceEq, rf_int, rf_bool, rf_tuple_ints, rf_u8s, arr_list, toList2, Bool.and_self, Nat.not_lt_zero, Nat.sub_zero, Nat.zero_le, Nat.le_add_right, cells_agg, cells_agg_size, cells_int, cells_int_size, okV_int, okV_bool, okV_str, okV_agg, okV_ptr, okV_slice, okV_func, okV_nilFunc, okV_iface, okV_nilIface, cells_bool, cells_bool_size, cells_ptr, cells_ptr_size, cells_slice, cells_slice_size, cells_str, cells_str_size, eq_self, wrapI64_small, Int.natCast_zero, Int.natCast_one, Int.cast_ofNat_Int, List.length_nil, List.length_cons, List.getElem?_cons_zero, List.getElem?_cons_succ, List.set_cons_zero, List.set_cons_succ, Nat.zero_add, Nat.add_zero, Nat.mul_one, Nat.zero_mul, Int.toNat_natCast, Int.toNat_zero, Int.lt_irrefl, Int.le_refl, Nat.le_refl, and_self, true_and, and_true, decide_true, decide_false, Int.reduceLE, Int.reduceLT, Int.reduceAdd, Int.reduceMul, Int.reduceSub, Int.reduceTDiv, Int.reduceTMod, Int.reduceNeg, Int.reduceToNat, Int.reduceGT, Int.reduceGE, Int.reducePow, Nat.reduceAdd, Nat.reduceMul, Nat.reduceSub, Nat.reduceDiv, Nat.reduceMod, Nat.reducePow, Nat.reduceLT, Nat.reduceLeDiff, Nat.min_self, ge_iff_le, gt_iff_lt, Option.isNone_none, Option.isSome_none, Option.isNone_some, Option.isSome_some, Bool.and_true, Bool.true_and, Bool.and_false, Bool.false_and, not_true_eq_false, not_false_eq_true, or_true, true_or, false_or, or_false, hget0, hgetK, hset0, hsetK, splice_single, splice_whole, take_whole, List.getElem?_nil, List.length_append, List.append_assoc, Nat.add_assoc, h1, h32, hl2, ho'.2, hcx, e1, e2, hlen, u8s_set, hstep]
theorem porder_ev {ka kb : List Nat} (la : ka.length = 32) (xa : ∀ x ∈ ka, x < 256) (lb : kb.length = 32) (xb : ∀ x ∈ kb, x < 256) : ∃ l, evFun T 14 [.agg (u8s ka).toArray, .agg (u8s kb).toArray] [] = some (.bool true, l, []) := by
  have hbased := based_v
  have hz20 : ∃ O, List.replicate 20 (Value.int .u64 0) = ns .u64 O ∧ O.length = 20 := ⟨List.replicate 20 0, rfl, rfl⟩
  obtain ⟨O, hz20, lO⟩ := hz20
  have hz : List.replicate 32 (Value.int .u8 0) = u8s (dig 256 32 0) := rfl
  have f1 : fillL (u8s (dig 256 32 0)) [(0, 1, .int .u8 1)] = some (u8s (keyOf 1)) := rfl
  have f0 : fillL (u8s (dig 256 32 0)) [] = some (u8s (dig 256 32 0)) := rfl
  have l0 : (dig 256 32 0).length = 32 := rfl
  have x0 : ∀ x ∈ dig 256 32 0, x < 256 := by decide
  have n0 : num 256 (dig 256 32 0) = 0 := by decide
  obtain ⟨s, l, ho, hg⟩ := order23_ev [⟨u8s ka, true, true, true, 1⟩, ⟨u8s kb, true, true, true, 1⟩, ⟨u8s (dig 256 32 0), true, true, true, 1⟩]
  have hlen := hg.len
  rw [ordL_len] at hlen
  have hb := block_loop (T := T) (base := 0) (id := 0) (body := a14_l0) (fun i => poI s ka kb (ordP i) l i []) (s' := poI s ka kb ordL l 32 [(18, .bool false)]) 32
    (fun i hi => po_body hg rfl (Nat.le_refl 3) hi (List.getElem?_eq_getElem (by rw [ordL_len]; exact hi))) (by
      have e : ordP 32 = ordL := by decide +kernel
      rw [e]
      simp only [poI, a14_l0, envOf, evCode_skip, evCode_exit, evCode_seq, fs_blockS, fs_blockR, fs_blockC, fs_blockK, fs_blockB, evCode_ret, quiet, keep_nil, keep_cons, fs_cond, fs_region, fs_regionP, fs_nil, fs_guard, fs_move, fs_pick, fs_alloc, fs_box, fs_load, fs_store, fs_bin, fs_eqv, fs_isNil, fs_un, fs_conv, fs_convStr, fs_field, fs_index, fs_indexStr, fs_build, fs_buildSlice, fs_fieldAddr, fs_indexAddr, fs_indexSl, fs_sliceArr, fs_sliceSl, fs_sliceStr, fs_makeSlice, fs_extract, fs_mkIface, fs_mkFunc, fs_nilCheck, fs_s2ap, fs_len, fs_minmax, fs_s2b, fs_b2s, fs_append, fs_copy, fs_callV, fs_callR, fs_callv, opd_tmp, opd_const, opd_func, opds_nil, opds_cons, opdOpt_none, opdOpt_some, opdParts_nil, opdParts_cons, get_miss, vPick_t, vPick_f, vEq_agg, vEq_aggN, vEq_bool, vEq_boolN, vConv_int, vStr_s, vField_agg, vIndex_agg, vIndexStr_s, vFieldAddr_p, vIndexAddr_p, vIndexSl_s, vSliceArr_p, vSliceSl_s, vSliceSl_n, vSliceStr_s, vExtract_t, vNilCheck_p, vS2ap_s, vLen_s, vLen_str, vMin_i, vMax_i, vLoad_p, vStore_p, baseP_p, vB2s_s, vMake_i, vS2b_s, callee_f, liveAt_eq, storeAt_eq, partL_none, partL_some, natIn_none, natIn_int, bounds3_two, bin_add, bin_sub, bin_mul, bin_quo, bin_rem, bin_and, bin_or, bin_xor, bin_andNot, bin_eql, bin_neq, bin_lss, bin_leq, bin_gtr, bin_geq, bin_shl, bin_shr, bin_sadd, bin_seql, bin_sneq, un_not, un_neg, un_xor, after_some, put_some, put_none, res_nil, res_val, res_var, packed_one, packed_two, merge_nil, merge_ge, rf_tup2, rfIn_int, rfIn_bool, rfIn_u8s, rf_str, rfIn_str, ↓gate_true, gd_bool, gd_ut, gd_uf, ↓guardV_tt, ↓guardV_ff, ↓guardV_tf, ↓guardV_ft, ↓keepV_some, ↓qElse_some, ↓get_hit, ↓Option.bind_some, ↓if_true, ↓if_false, List.nil_append, List.cons_append, List.all_nil, List.all_cons, List.isEmpty_nil, reduceCtorEq, Bool.false_eq_true, Nat.reduceEqDiff, beq_self_eq_true, bne_self_eq_false, Bool.not_true, Bool.not_false, Int.natCast_nonneg, Nat.lt_irrefl, false_and, Int.reduceEq, rf_int, rf_bool, rf_tuple_ints, rf_u8s, arr_list, toList2, Bool.and_self, Nat.not_lt_zero, Nat.sub_zero, Nat.zero_le, Nat.le_add_right, cells_agg, cells_agg_size, cells_int, cells_int_size, okV_int, okV_bool, okV_str, okV_agg, okV_ptr, okV_slice, okV_func, okV_nilFunc, okV_iface, okV_nilIface, cells_bool, cells_bool_size, cells_ptr, cells_ptr_size, cells_slice, cells_slice_size, cells_str, cells_str_size, eq_self, wrapI64_small, Int.natCast_zero, Int.natCast_one, Int.cast_ofNat_Int, List.length_nil, List.length_cons, List.getElem?_cons_zero, List.getElem?_cons_succ, List.set_cons_zero, List.set_cons_succ, Nat.zero_add, Nat.add_zero, Nat.mul_one, Nat.zero_mul, Int.toNat_natCast, Int.toNat_zero, Int.lt_irrefl, Int.le_refl, Nat.le_refl, and_self, true_and, and_true, decide_true, decide_false, Int.reduceLE, Int.reduceLT, Int.reduceAdd, Int.reduceMul, Int.reduceSub, Int.reduceTDiv, Int.reduceTMod, Int.reduceNeg, Int.reduceToNat, Int.reduceGT, Int.reduceGE, Int.reducePow, Nat.reduceAdd, Nat.reduceMul, Nat.reduceSub, Nat.reduceDiv, Nat.reduceMod, Nat.reducePow, Nat.reduceLT, Nat.reduceLeDiff, Nat.min_self, ge_iff_le, gt_iff_lt, Option.isNone_none, Option.isSome_none, Option.isNone_some, Option.isSome_some, Bool.and_true, Bool.true_and, Bool.and_false, Bool.false_and, not_true_eq_false, not_false_eq_true, or_true, true_or, false_or, or_false])
  have e0 : ordP 0 = dig 256 32 0 := by decide +kernel
  simp only [poI, List.cons_append, List.nil_append, e0, Int.natCast_zero] at hb ho
  have hell := ell_base
  obtain ⟨B, hB, rB⟩ := base_v
  obtain ⟨Z, hZ, rZ⟩ := zero_v
  generalize pbase = bp at *
  obtain ⟨P, hP, rp⟩ := multiply_v rB la xa
  obtain ⟨Q, hQ, rq⟩ := multiply_v rB lb xb
  obtain ⟨R, hR, rr⟩ := multiply_v rp ordL_len ordL_lt
  rw [ordL_num] at rr
  have t1 := equal_yes rr rZ (by rw [pmul_swap, hell, pmul_zero])
  obtain ⟨m1, hm1⟩ := mulAdd_mA la (keyOf_len 1) lb xa (keyOf_lt (by decide)) xb
  obtain ⟨m2, hm2⟩ := mulAdd_mA la lb l0 xa xb x0
  have v1 := evVal_ex ⟨_, hm1⟩
  have v2 := evVal_ex ⟨_, hm2⟩
  have s1 := mA_len (x := ka) (y := keyOf 1) (z := kb)
  have s2 := mA_len (x := ka) (y := kb) (z := dig 256 32 0)
  obtain ⟨U, hU, ru⟩ := multiply_v rB s1 mA_lt
  obtain ⟨V, hV, rv⟩ := multiply_v rB s2 mA_lt
  obtain ⟨W, hW, rw'⟩ := multiply_v rp lb xb
  rw [num_mA, keyOf_num, Nat.mul_one, pmul_mod hell, pmul_add] at ru
  rw [num_mA, n0, Nat.add_zero, pmul_mod hell, Nat.mul_comm, pmul_mul] at rv
  have t3 := equal_yes rv rw' rfl
  have h0 : ∀ g, (⟨u8s ka, true, true, true, 1⟩ :: ⟨u8s kb, true, true, true, 1⟩ :: ⟨u8s ordL, true, true, true, 1⟩ :: l ++ g : List Ob)[0]? = some ⟨u8s ka, true, true, true, 1⟩ := fun _ => rfl
  have h1 : ∀ g, (⟨u8s ka, true, true, true, 1⟩ :: ⟨u8s kb, true, true, true, 1⟩ :: ⟨u8s ordL, true, true, true, 1⟩ :: l ++ g : List Ob)[1]? = some ⟨u8s kb, true, true, true, 1⟩ := fun _ => rfl
  have h2 : (⟨u8s ka, true, true, true, 1⟩ :: ⟨u8s kb, true, true, true, 1⟩ :: ⟨u8s ordL, true, true, true, 1⟩ :: l : List Ob)[2]? = some ⟨u8s ordL, true, true, true, 1⟩ := rfl
  have h2' : ∀ g, (⟨u8s ka, true, true, true, 1⟩ :: ⟨u8s kb, true, true, true, 1⟩ :: ⟨u8s ordL, true, true, true, 1⟩ :: l ++ g : List Ob)[2]? = some ⟨u8s ordL, true, true, true, 1⟩ := fun _ => rfl
  have h0' : (⟨u8s ka, true, true, true, 1⟩ :: ⟨u8s kb, true, true, true, 1⟩ :: ⟨u8s ordL, true, true, true, 1⟩ :: l : List Ob)[0]? = some ⟨u8s ka, true, true, true, 1⟩ := rfl
  generalize (⟨u8s ka, true, true, true, 1⟩ :: ⟨u8s kb, true, true, true, 1⟩ :: ⟨u8s ordL, true, true, true, 1⟩ :: l : List Ob) = H0 at *
  generalize mA ka (keyOf 1) kb = M1 at *
  generalize mA ka kb (dig 256 32 0) = M2 at *
  obtain ⟨S, dS, hS, ES⟩ := adds_ev (H := H0 ++ [⟨ns .u64 P, true, true, true, 1⟩, ⟨u8s (keyOf 1), true, true, true, 1⟩, ⟨u8s M1, true, true, true, 1⟩, ⟨u8s M2, true, true, true, 1⟩, ⟨ns .u64 Q, true, true, true, 1⟩, ⟨ns .u64 [P, Q].flatten, true, true, true, 1⟩]) (id := H0.length + 5) (n := 2) (xs := [P, Q]) rfl (by decide) (.cons rp (.cons rq .nil)) (by rw [List.getElem?_append_right (by omega), Nat.add_sub_cancel_left]; rfl)
  simp only [List.map_cons, List.map_nil, List.cons_append, List.append_assoc, List.nil_append] at hS
  rw [fold2] at ES
  have t2 := equal_yes ru ES rfl
  have g1 := fill40 rp rq
  have lk := keyOf_len 1
  have p1 := rp.len
  have p2 := rq.len
  have p3 := ES.len
  have lo := ordL_len
  generalize keyOf 1 = K1 at *
  generalize dig 256 32 0 = D0 at *
  generalize ordL = OL at *
  apply Exists.intro
  rw [evFun_fn (fn := a14) rfl]
  simp only [a14, ↓steps_chunk, envOf, evCode_skip, evCode_exit, evCode_seq, fs_blockS, fs_blockR, fs_blockC, fs_blockK, fs_blockB, evCode_ret, quiet, keep_nil, keep_cons, fs_cond, fs_region, fs_regionQ, quiet2_eq, lastOf_nil, lastOf_cons, List.take_succ_cons, List.take_zero, List.drop_succ_cons, List.drop_zero, Int.reduceBEq, Int.reduceBNe,  fs_nil, fs_guard, fs_move, fs_pick, fs_alloc, fs_box, fs_load, fs_store, fs_bin, fs_eqv, fs_isNil, fs_un, fs_conv, fs_convStr, fs_field, fs_index, fs_indexStr, fs_build, fs_buildSlice, fs_fieldAddr, fs_indexAddr, fs_indexSl, fs_sliceArr, fs_sliceSl, fs_sliceStr, fs_makeSlice, fs_extract, fs_mkIface, fs_mkFunc, fs_nilCheck, fs_s2ap, fs_len, fs_minmax, fs_s2b, fs_b2s, fs_append, fs_copy, fs_callW, fs_callR, fs_callv, opd_tmp, opd_const, opd_func, opds_nil, opds_cons, opdOpt_none, opdOpt_some, opdParts_nil, opdParts_cons, get_miss, vPick_t, vPick_f, vEq_agg, vEq_aggN, vEq_bool, vEq_boolN, vConv_int, vStr_s, vField_agg, vIndex_agg, vIndexStr_s, vFieldAddr_p, vIndexAddr_p, vIndexSl_s, vSliceArr_p, vSliceSl_s, vSliceSl_n, vSliceStr_s, vExtract_t, vNilCheck_p, vS2ap_s, vLen_s, vLen_str, vMin_i, vMax_i, vLoad_p, vStore_p, baseP_p, vB2s_s, vMake_i, vS2b_s, callee_f, liveAt_eq, storeAt_eq, partL_none, partL_some, natIn_none, natIn_int, bounds3_two, bin_add, bin_sub, bin_mul, bin_quo, bin_rem, bin_and, bin_or, bin_xor, bin_andNot, bin_eql, bin_neq, bin_lss, bin_leq, bin_gtr, bin_geq, bin_shl, bin_shr, bin_sadd, bin_seql, bin_sneq, un_not, un_neg, un_xor, after_some, put_some, put_none, res_nil, res_val, res_var, packed_one, packed_two, merge_nil, merge_ge, rf_tup2, rfIn_int, rfIn_bool, rfIn_u8s, rf_str, rfIn_str, ↓gate_true, gd_bool, gd_ut, gd_uf, ↓guardW_tt, ↓guardW_ff, ↓guardW_tf, ↓guardW_ft, ↓keepW_some, ↓qElseW_some, ↓get_hit, ↓Option.bind_some, ↓if_true, ↓if_false, List.nil_append, List.cons_append, List.all_nil, List.all_cons, List.isEmpty_nil, reduceCtorEq, Bool.false_eq_true, Nat.reduceEqDiff, beq_self_eq_true, bne_self_eq_false, Bool.not_true, Bool.not_false, Int.natCast_nonneg, Nat.lt_irrefl, false_and, Int.reduceEq, rf_int, rf_bool, rf_tuple_ints, rf_u8s, arr_list, toList2, Bool.and_self, Nat.not_lt_zero, Nat.sub_zero, Nat.zero_le, Nat.le_add_right, cells_agg, cells_agg_size, cells_int, cells_int_size, okV_int, okV_bool, okV_str, okV_agg, okV_ptr, okV_slice, okV_func, okV_nilFunc, okV_iface, okV_nilIface, cells_bool, cells_bool_size, cells_ptr, cells_ptr_size, cells_slice, cells_slice_size, cells_str, cells_str_size, eq_self, wrapI64_small, Int.natCast_zero, Int.natCast_one, Int.cast_ofNat_Int, List.length_nil, List.length_cons, List.getElem?_cons_zero, List.getElem?_cons_succ, List.set_cons_zero, List.set_cons_succ, Nat.zero_add, Nat.add_zero, Nat.mul_one, Nat.zero_mul, Int.toNat_natCast, Int.toNat_zero, Int.lt_irrefl, Int.le_refl, Nat.le_refl, and_self, true_and, and_true, decide_true, decide_false, Int.reduceLE, Int.reduceLT, Int.reduceAdd, Int.reduceMul, Int.reduceSub, Int.reduceTDiv, Int.reduceTMod, Int.reduceNeg, Int.reduceToNat, Int.reduceGT, Int.reduceGE, Int.reducePow, Nat.reduceAdd, Nat.reduceMul, Nat.reduceSub, Nat.reduceDiv, Nat.reduceMod, Nat.reducePow, Nat.reduceLT, Nat.reduceLeDiff, Nat.min_self, ge_iff_le, gt_iff_lt, Option.isNone_none, Option.isSome_none, Option.isNone_some, Option.isSome_some, Bool.and_true, Bool.true_and, Bool.and_false, Bool.false_and, not_true_eq_false, not_false_eq_true, or_true, true_or, false_or, or_false, hget0, hgetK, hset0, hsetK, splice_single, splice_whole, take_whole, List.getElem?_nil, List.length_append, List.append_assoc, hbased, ho, hlen, hb, hz, f1, f0, hB, hZ, hP, hQ, hR, t1, v1, v2, hU, hV, hW, t3, h0, h1, h2, h2', h0', hS, t2, g1, hz20, List.length_replicate, take_all, eV_cells, eV_size, eV_ok, eV_fold, ns_len, u8s_len, la, lb, l0, lO, lk, s1, s2, p1, p2, p3, lo, rf_eV]
  rfl
end Go.Ev.Ytaceeoghjgggjaa

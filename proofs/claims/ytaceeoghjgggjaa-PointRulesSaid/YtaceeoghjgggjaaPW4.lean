/-
  point: Equal, Tiny, Encode, Base, Add.
-/
import Derived.Test.YtaceeoghjgggjaaPW3
set_option linter.unusedSimpArgs false
set_option linter.unusedVariables false
namespace Go.Ev.Ytaceeoghjgggjaa
open Go Go.Ev
attribute [local congr] bind_congr2 ite_congr2 qElse_congr gate_congr guardV_congr
set_option maxRecDepth 100000

instance decPt (p q : Go.Cv.Pt Go.Fp.P Go.Fp.d) : Decidable (p = q) := if h : p.x = q.x ∧ p.y = q.y then isTrue (Go.Cv.Pt.ext h.1 h.2) else isFalse (fun e => h (by rw [e]; exact ⟨rfl, rfl⟩))
theorem same_iff {a b z w : Go.Fp.Fe} (hz : z ≠ 0) (hw : w ≠ 0) : (a * z * w = b * w * z) = (a = b) := by
  apply propext
  constructor
  · intro h
    have F := Go.Fp.fld
    refine F.cancel (F.mul_ne hz hw) ?_
    grobner
  · intro h; subst h; grobner
theorem equal_v {l m : List Nat} {p q : Go.Cv.Pt Go.Fp.P Go.Fp.d} (h1 : RepL l p) (h2 : RepL m q) : evVal T 28 [eV l, eV m] = some (.bool (decide (p = q))) := by
  obtain ⟨x1, y1, z1, t1, rfl, h1⟩ := h1
  obtain ⟨x2, y2, z2, t2, rfl, h2⟩ := h2
  obtain ⟨a, ha, Ea, fa⟩ := mul_ev h1.ex h2.ez
  obtain ⟨b, hb, Eb, fb⟩ := mul_ev h2.ex h1.ez
  obtain ⟨c, hc, Ec, fc⟩ := mul_ev h1.ey h2.ez
  obtain ⟨e, he, Ee, fe_⟩ := mul_ev h2.ey h1.ez
  have q1 := eq_v Ea Eb
  have q2 := eq_v Ec Ee
  rw [fa, fb, h1.x, h2.x] at q1
  rw [fc, fe_, h1.y, h2.y] at q2
  simp only [same_iff h1.nz h2.nz] at q1 q2
  obtain ⟨u0, u1, u2, u3⟩ := quad h1.ex h1.ey h1.ez h1.et
  obtain ⟨v0, v1, v2, v3⟩ := quad h2.ex h2.ey h2.ez h2.et
  have p1 := pL_len h1.ex h1.ey h1.ez h1.et
  have p2 := pL_len h2.ex h2.ey h2.ez h2.et
  generalize pL x1 y1 z1 t1 = L at *
  generalize pL x2 y2 z2 t2 = M at *
  by_cases hx : p.x = q.x
  · rw [decide_eq_true hx] at q1
    have hd : decide (p = q) = decide (p.y = q.y) := by
      by_cases hy : p.y = q.y
      · rw [decide_eq_true hy, decide_eq_true (Go.Cv.Pt.ext hx hy)]
      · rw [decide_eq_false hy, decide_eq_false (fun h => hy (by rw [h]))]
    rw [hd]
    apply evVal_ex
    apply Exists.intro
    rw [evFun_fn (fn := a28) rfl]
    simp only [a28, envOf, evCode_skip, evCode_exit, evCode_seq, fs_blockS, fs_blockR, fs_blockC, fs_blockK, fs_blockB, evCode_ret, quiet, keep_nil, keep_cons, fs_cond, fs_region, fs_regionQ, quiet2_eq, lastOf_nil, lastOf_cons, List.take_succ_cons, List.take_zero, List.drop_succ_cons, List.drop_zero, Int.reduceBEq, Int.reduceBNe,  fs_nil, fs_guard, fs_move, fs_pick, fs_alloc, fs_box, fs_load, fs_store, fs_bin, fs_eqv, fs_isNil, fs_un, fs_conv, fs_convStr, fs_field, fs_index, fs_indexStr, fs_build, fs_buildSlice, fs_fieldAddr, fs_indexAddr, fs_indexSl, fs_sliceArr, fs_sliceSl, fs_sliceStr, fs_makeSlice, fs_extract, fs_mkIface, fs_mkFunc, fs_nilCheck, fs_s2ap, fs_len, fs_minmax, fs_s2b, fs_b2s, fs_append, fs_copy, fs_callW, fs_callR, fs_callv, opd_tmp, opd_const, opd_func, opds_nil, opds_cons, opdOpt_none, opdOpt_some, opdParts_nil, opdParts_cons, get_miss, vPick_t, vPick_f, vEq_agg, vEq_aggN, vEq_bool, vEq_boolN, vConv_int, vStr_s, vField_agg, vIndex_agg, vIndexStr_s, vFieldAddr_p, vIndexAddr_p, vIndexSl_s, vSliceArr_p, vSliceSl_s, vSliceSl_n, vSliceStr_s, vExtract_t, vNilCheck_p, vS2ap_s, vLen_s, vLen_str, vMin_i, vMax_i, vLoad_p, vStore_p, baseP_p, vB2s_s, vMake_i, vS2b_s, callee_f, liveAt_eq, storeAt_eq, partL_none, partL_some, natIn_none, natIn_int, bounds3_two, bin_add, bin_sub, bin_mul, bin_quo, bin_rem, bin_and, bin_or, bin_xor, bin_andNot, bin_eql, bin_neq, bin_lss, bin_leq, bin_gtr, bin_geq, bin_shl, bin_shr, bin_sadd, bin_seql, bin_sneq, un_not, un_neg, un_xor, after_some, put_some, put_none, res_nil, res_val, res_var, packed_one, packed_two, merge_nil, merge_ge, rf_tup2, rfIn_int, rfIn_bool, rfIn_u8s, rf_str, rfIn_str, ↓gate_true, ↓guardV_tt, ↓guardV_ff, ↓guardV_tf, ↓guardV_ft, ↓keepV_some, ↓qElse_some, ↓get_hit, ↓Option.bind_some, ↓if_true, ↓if_false, List.nil_append, List.cons_append, List.all_nil, List.all_cons, List.isEmpty_nil, reduceCtorEq, Bool.false_eq_true, Nat.reduceEqDiff, beq_self_eq_true, bne_self_eq_false, Bool.not_true, Bool.not_false, Int.natCast_nonneg, Nat.lt_irrefl, false_and, Int.reduceEq, rf_int, rf_bool, rf_tuple_ints, rf_u8s, arr_list, toList2, Bool.and_self, Nat.not_lt_zero, Nat.sub_zero, Nat.zero_le, Nat.le_add_right, cells_agg, cells_agg_size, cells_int, cells_int_size, okV_int, okV_bool, okV_str, okV_agg, okV_ptr, okV_slice, okV_func, okV_nilFunc, okV_iface, okV_nilIface, cells_bool, cells_bool_size, cells_ptr, cells_ptr_size, cells_slice, cells_slice_size, cells_str, cells_str_size, eq_self, wrapI64_small, Int.natCast_zero, Int.natCast_one, Int.cast_ofNat_Int, List.length_nil, List.length_cons, List.getElem?_cons_zero, List.getElem?_cons_succ, List.set_cons_zero, List.set_cons_succ, Nat.zero_add, Nat.add_zero, Nat.mul_one, Nat.zero_mul, Int.toNat_natCast, Int.toNat_zero, Int.lt_irrefl, Int.le_refl, Nat.le_refl, and_self, true_and, and_true, decide_true, decide_false, Int.reduceLE, Int.reduceLT, Int.reduceAdd, Int.reduceMul, Int.reduceSub, Int.reduceTDiv, Int.reduceTMod, Int.reduceNeg, Int.reduceToNat, Int.reduceGT, Int.reduceGE, Int.reducePow, Nat.reduceAdd, Nat.reduceMul, Nat.reduceSub, Nat.reduceDiv, Nat.reduceMod, Nat.reducePow, Nat.reduceLT, Nat.reduceLeDiff, Nat.min_self, ge_iff_le, gt_iff_lt, Option.isNone_none, Option.isSome_none, Option.isNone_some, Option.isSome_some, Bool.and_true, Bool.true_and, Bool.and_false, Bool.false_and, not_true_eq_false, not_false_eq_true, or_true, true_or, false_or, or_false, hget0, hgetK, hset0, hsetK, splice_single, splice_whole, take_whole, List.getElem?_nil, List.length_append, List.append_assoc, u0, u1, u2, v0, v1, v2, ha, hb, hc, he, q1, q2, List.length_replicate, take_all, eV_cells, eV_size, eV_ok, eV_fold, ns_len, p1, p2, rf_eV]
    rfl
  · rw [decide_eq_false hx] at q1
    rw [decide_eq_false (fun h => hx (by rw [h]))]
    apply evVal_ex
    apply Exists.intro
    rw [evFun_fn (fn := a28) rfl]
    simp only [a28, envOf, evCode_skip, evCode_exit, evCode_seq, fs_blockS, fs_blockR, fs_blockC, fs_blockK, fs_blockB, evCode_ret, quiet, keep_nil, keep_cons, fs_cond, fs_region, fs_regionQ, quiet2_eq, lastOf_nil, lastOf_cons, List.take_succ_cons, List.take_zero, List.drop_succ_cons, List.drop_zero, Int.reduceBEq, Int.reduceBNe,  fs_nil, fs_guard, fs_move, fs_pick, fs_alloc, fs_box, fs_load, fs_store, fs_bin, fs_eqv, fs_isNil, fs_un, fs_conv, fs_convStr, fs_field, fs_index, fs_indexStr, fs_build, fs_buildSlice, fs_fieldAddr, fs_indexAddr, fs_indexSl, fs_sliceArr, fs_sliceSl, fs_sliceStr, fs_makeSlice, fs_extract, fs_mkIface, fs_mkFunc, fs_nilCheck, fs_s2ap, fs_len, fs_minmax, fs_s2b, fs_b2s, fs_append, fs_copy, fs_callW, fs_callR, fs_callv, opd_tmp, opd_const, opd_func, opds_nil, opds_cons, opdOpt_none, opdOpt_some, opdParts_nil, opdParts_cons, get_miss, vPick_t, vPick_f, vEq_agg, vEq_aggN, vEq_bool, vEq_boolN, vConv_int, vStr_s, vField_agg, vIndex_agg, vIndexStr_s, vFieldAddr_p, vIndexAddr_p, vIndexSl_s, vSliceArr_p, vSliceSl_s, vSliceSl_n, vSliceStr_s, vExtract_t, vNilCheck_p, vS2ap_s, vLen_s, vLen_str, vMin_i, vMax_i, vLoad_p, vStore_p, baseP_p, vB2s_s, vMake_i, vS2b_s, callee_f, liveAt_eq, storeAt_eq, partL_none, partL_some, natIn_none, natIn_int, bounds3_two, bin_add, bin_sub, bin_mul, bin_quo, bin_rem, bin_and, bin_or, bin_xor, bin_andNot, bin_eql, bin_neq, bin_lss, bin_leq, bin_gtr, bin_geq, bin_shl, bin_shr, bin_sadd, bin_seql, bin_sneq, un_not, un_neg, un_xor, after_some, put_some, put_none, res_nil, res_val, res_var, packed_one, packed_two, merge_nil, merge_ge, rf_tup2, rfIn_int, rfIn_bool, rfIn_u8s, rf_str, rfIn_str, ↓gate_true, ↓guardV_tt, ↓guardV_ff, ↓guardV_tf, ↓guardV_ft, ↓keepV_some, ↓qElse_some, ↓get_hit, ↓Option.bind_some, ↓if_true, ↓if_false, List.nil_append, List.cons_append, List.all_nil, List.all_cons, List.isEmpty_nil, reduceCtorEq, Bool.false_eq_true, Nat.reduceEqDiff, beq_self_eq_true, bne_self_eq_false, Bool.not_true, Bool.not_false, Int.natCast_nonneg, Nat.lt_irrefl, false_and, Int.reduceEq, rf_int, rf_bool, rf_tuple_ints, rf_u8s, arr_list, toList2, Bool.and_self, Nat.not_lt_zero, Nat.sub_zero, Nat.zero_le, Nat.le_add_right, cells_agg, cells_agg_size, cells_int, cells_int_size, okV_int, okV_bool, okV_str, okV_agg, okV_ptr, okV_slice, okV_func, okV_nilFunc, okV_iface, okV_nilIface, cells_bool, cells_bool_size, cells_ptr, cells_ptr_size, cells_slice, cells_slice_size, cells_str, cells_str_size, eq_self, wrapI64_small, Int.natCast_zero, Int.natCast_one, Int.cast_ofNat_Int, List.length_nil, List.length_cons, List.getElem?_cons_zero, List.getElem?_cons_succ, List.set_cons_zero, List.set_cons_succ, Nat.zero_add, Nat.add_zero, Nat.mul_one, Nat.zero_mul, Int.toNat_natCast, Int.toNat_zero, Int.lt_irrefl, Int.le_refl, Nat.le_refl, and_self, true_and, and_true, decide_true, decide_false, Int.reduceLE, Int.reduceLT, Int.reduceAdd, Int.reduceMul, Int.reduceSub, Int.reduceTDiv, Int.reduceTMod, Int.reduceNeg, Int.reduceToNat, Int.reduceGT, Int.reduceGE, Int.reducePow, Nat.reduceAdd, Nat.reduceMul, Nat.reduceSub, Nat.reduceDiv, Nat.reduceMod, Nat.reducePow, Nat.reduceLT, Nat.reduceLeDiff, Nat.min_self, ge_iff_le, gt_iff_lt, Option.isNone_none, Option.isSome_none, Option.isNone_some, Option.isSome_some, Bool.and_true, Bool.true_and, Bool.and_false, Bool.false_and, not_true_eq_false, not_false_eq_true, or_true, true_or, false_or, or_false, hget0, hgetK, hset0, hsetK, splice_single, splice_whole, take_whole, List.getElem?_nil, List.length_append, List.append_assoc, u0, u1, u2, v0, v1, v2, ha, hb, hc, he, q1, q2, List.length_replicate, take_all, eV_cells, eV_size, eV_ok, eV_fold, ns_len, p1, p2, rf_eV]
    rfl
theorem eight_eq (p : Go.Cv.Pt Go.Fp.P Go.Fp.d) : padd (padd (padd p p) (padd p p)) (padd (padd p p) (padd p p)) = pmul 8 p := by
  have h2 : pmul 2 p = padd p p := Go.Cv.mul_two Go.Fp.fld p
  have h4 : pmul 4 p = padd (pmul 2 p) (pmul 2 p) := Go.Cv.mul_add Go.Fp.fld 2 2 p
  have h8 : pmul 8 p = padd (pmul 4 p) (pmul 4 p) := Go.Cv.mul_add Go.Fp.fld 4 4 p
  rw [h8, h4, h2]
theorem tiny_v {l : List Nat} {p : Go.Cv.Pt Go.Fp.P Go.Fp.d} (h : RepL l p) : evVal T 39 [eV l] = some (.bool (decide (pmul 8 p = pzero))) := by
  obtain ⟨a, ha, ra⟩ := twiceL h
  obtain ⟨b, hb, rb⟩ := twiceL ra
  obtain ⟨c, hc, rc⟩ := twiceL rb
  obtain ⟨z, hz, rz⟩ := zero_v
  have he := equal_v rc rz
  rw [eight_eq] at he
  have p1 := h.len
  apply evVal_ex
  apply Exists.intro
  rw [evFun_fn (fn := a39) rfl]
  simp only [a39, envOf, evCode_skip, evCode_exit, evCode_seq, fs_blockS, fs_blockR, fs_blockC, fs_blockK, fs_blockB, evCode_ret, quiet, keep_nil, keep_cons, fs_cond, fs_region, fs_regionQ, quiet2_eq, lastOf_nil, lastOf_cons, List.take_succ_cons, List.take_zero, List.drop_succ_cons, List.drop_zero, Int.reduceBEq, Int.reduceBNe,  fs_nil, fs_guard, fs_move, fs_pick, fs_alloc, fs_box, fs_load, fs_store, fs_bin, fs_eqv, fs_isNil, fs_un, fs_conv, fs_convStr, fs_field, fs_index, fs_indexStr, fs_build, fs_buildSlice, fs_fieldAddr, fs_indexAddr, fs_indexSl, fs_sliceArr, fs_sliceSl, fs_sliceStr, fs_makeSlice, fs_extract, fs_mkIface, fs_mkFunc, fs_nilCheck, fs_s2ap, fs_len, fs_minmax, fs_s2b, fs_b2s, fs_append, fs_copy, fs_callW, fs_callR, fs_callv, opd_tmp, opd_const, opd_func, opds_nil, opds_cons, opdOpt_none, opdOpt_some, opdParts_nil, opdParts_cons, get_miss, vPick_t, vPick_f, vEq_agg, vEq_aggN, vEq_bool, vEq_boolN, vConv_int, vStr_s, vField_agg, vIndex_agg, vIndexStr_s, vFieldAddr_p, vIndexAddr_p, vIndexSl_s, vSliceArr_p, vSliceSl_s, vSliceSl_n, vSliceStr_s, vExtract_t, vNilCheck_p, vS2ap_s, vLen_s, vLen_str, vMin_i, vMax_i, vLoad_p, vStore_p, baseP_p, vB2s_s, vMake_i, vS2b_s, callee_f, liveAt_eq, storeAt_eq, partL_none, partL_some, natIn_none, natIn_int, bounds3_two, bin_add, bin_sub, bin_mul, bin_quo, bin_rem, bin_and, bin_or, bin_xor, bin_andNot, bin_eql, bin_neq, bin_lss, bin_leq, bin_gtr, bin_geq, bin_shl, bin_shr, bin_sadd, bin_seql, bin_sneq, un_not, un_neg, un_xor, after_some, put_some, put_none, res_nil, res_val, res_var, packed_one, packed_two, merge_nil, merge_ge, rf_tup2, rfIn_int, rfIn_bool, rfIn_u8s, rf_str, rfIn_str, ↓gate_true, ↓guardV_tt, ↓guardV_ff, ↓guardV_tf, ↓guardV_ft, ↓keepV_some, ↓qElse_some, ↓get_hit, ↓Option.bind_some, ↓if_true, ↓if_false, List.nil_append, List.cons_append, List.all_nil, List.all_cons, List.isEmpty_nil, reduceCtorEq, Bool.false_eq_true, Nat.reduceEqDiff, beq_self_eq_true, bne_self_eq_false, Bool.not_true, Bool.not_false, Int.natCast_nonneg, Nat.lt_irrefl, false_and, Int.reduceEq, rf_int, rf_bool, rf_tuple_ints, rf_u8s, arr_list, toList2, Bool.and_self, Nat.not_lt_zero, Nat.sub_zero, Nat.zero_le, Nat.le_add_right, cells_agg, cells_agg_size, cells_int, cells_int_size, okV_int, okV_bool, okV_str, okV_agg, okV_ptr, okV_slice, okV_func, okV_nilFunc, okV_iface, okV_nilIface, cells_bool, cells_bool_size, cells_ptr, cells_ptr_size, cells_slice, cells_slice_size, cells_str, cells_str_size, eq_self, wrapI64_small, Int.natCast_zero, Int.natCast_one, Int.cast_ofNat_Int, List.length_nil, List.length_cons, List.getElem?_cons_zero, List.getElem?_cons_succ, List.set_cons_zero, List.set_cons_succ, Nat.zero_add, Nat.add_zero, Nat.mul_one, Nat.zero_mul, Int.toNat_natCast, Int.toNat_zero, Int.lt_irrefl, Int.le_refl, Nat.le_refl, and_self, true_and, and_true, decide_true, decide_false, Int.reduceLE, Int.reduceLT, Int.reduceAdd, Int.reduceMul, Int.reduceSub, Int.reduceTDiv, Int.reduceTMod, Int.reduceNeg, Int.reduceToNat, Int.reduceGT, Int.reduceGE, Int.reducePow, Nat.reduceAdd, Nat.reduceMul, Nat.reduceSub, Nat.reduceDiv, Nat.reduceMod, Nat.reducePow, Nat.reduceLT, Nat.reduceLeDiff, Nat.min_self, ge_iff_le, gt_iff_lt, Option.isNone_none, Option.isSome_none, Option.isNone_some, Option.isSome_some, Bool.and_true, Bool.true_and, Bool.and_false, Bool.false_and, not_true_eq_false, not_false_eq_true, or_true, true_or, false_or, or_false, hget0, hgetK, hset0, hsetK, splice_single, splice_whole, take_whole, List.getElem?_nil, List.length_append, List.append_assoc, ha, hb, hc, hz, he, take_all, eV_cells, eV_size, eV_ok, eV_fold, ns_len, p1, rf_eV]
  rfl

/-- A point's bytes. -/
def encN (p : Go.Cv.Pt Go.Fp.P Go.Fp.d) : Nat := p.y.val + (p.x.val % 2) * 2 ^ 255
def enc (p : Go.Cv.Pt Go.Fp.P Go.Fp.d) : List Nat := dig 256 32 (encN p)
theorem enc_len (p : Go.Cv.Pt Go.Fp.P Go.Fp.d) : (enc p).length = 32 := dig_len _ _ _
theorem enc_lt (p : Go.Cv.Pt Go.Fp.P Go.Fp.d) : ∀ x ∈ enc p, x < 256 := dig32_lt
theorem val_lt (a : Go.Fp.Fe) : a.val < 2 ^ 255 := Nat.lt_trans a.isLt (by rw [Go.Fp.P_eq]; decide)
theorem encN_lt (p : Go.Cv.Pt Go.Fp.P Go.Fp.d) : encN p < 256 ^ 32 := by
  have h1 := val_lt p.y
  have h2 := Nat.mod_lt p.x.val (by decide : 0 < 2)
  unfold encN
  have : p.x.val % 2 * 2 ^ 255 ≤ 1 * 2 ^ 255 := Nat.mul_le_mul_right _ (by omega)
  have e : (256 : Nat) ^ 32 = 2 ^ 255 + 2 ^ 255 := by decide
  omega
theorem encode_v {l : List Nat} {p : Go.Cv.Pt Go.Fp.P Go.Fp.d} (h : RepL l p) : evVal T 29 [eV l] = some (.agg (u8s (enc p)).toArray) := by
  obtain ⟨x, y, z, t, rfl, h⟩ := h
  obtain ⟨i, hi, Ei, fi⟩ := invert_v h.ez
  obtain ⟨a, ha, Ea, fa⟩ := mul_ev h.ey Ei
  obtain ⟨b, hb, Eb, fb⟩ := mul_ev h.ex Ei
  have hinv := Go.Fp.iv_mul h.nz
  have fa' : fe a = p.y := by rw [fa, fi, h.y]; grobner
  have fb' : fe b = p.x := by rw [fb, fi, h.x]; grobner
  have k1 := bytes_v Ea
  have k2 := odd_v Eb
  rw [fa'] at k1
  rw [fb'] at k2
  obtain ⟨u0, u1, u2, u3⟩ := quad h.ex h.ey h.ez h.et
  have p1 := pL_len h.ex h.ey h.ez h.et
  have L1 := Ei.len
  have lk : (dig 256 32 p.y.val).length = 32 := dig_len _ _ _
  have l0 : (dig 256 32 0).length = 32 := rfl
  have hz32 : List.replicate 32 (Value.int .u8 0) = u8s (dig 256 32 0) := rfl
  generalize pL x y z t = L at *
  by_cases ho : p.x.val % 2 = 1
  · rw [decide_eq_true ho] at k2
    have hv := val_lt p.y
    obtain ⟨w, hw⟩ : ∃ w, (dig 256 32 p.y.val)[31]? = some w := ⟨_, List.getElem?_eq_getElem (by rw [dig_len]; decide)⟩
    have hwc := u8s_get hw
    have hw' : w < 256 := dig_lt (by decide) (List.mem_of_getElem? hw)
    have hput := dig_put (w := 8) (m := 32) (q := 31) (s := 7) (y := 1) (M := p.y.val) (by decide) (by decide) hv (by decide)
    have hgd : (dig (2 ^ 8) 32 p.y.val).getD 31 0 = w := by rw [List.getD_eq_getElem?_getD]; rw [show (2 : Nat) ^ 8 = 256 from rfl, hw]; rfl
    rw [hgd] at hput
    have hset := u8s_set (dig 256 32 p.y.val) 31 (w ||| 128)
    rw [show (dig 256 32 p.y.val).set 31 (w ||| 128) = enc p from by rw [enc, encN, ho]; exact hput] at hset
    have o1 : bitsOp .or .u8 (w : Int) 128 = ((w ||| 128 : Nat) : Int) := bits_or (k := .u8) (a := w) (b := 128) rfl hw' (by decide)
    have le := enc_len p
    generalize enc p = E at *
    apply evVal_ex
    apply Exists.intro
    rw [evFun_fn (fn := a29) rfl]
    simp only [a29, envOf, evCode_skip, evCode_exit, evCode_seq, fs_blockS, fs_blockR, fs_blockC, fs_blockK, fs_blockB, evCode_ret, quiet, keep_nil, keep_cons, fs_cond, fs_region, fs_regionQ, quiet2_eq, lastOf_nil, lastOf_cons, List.take_succ_cons, List.take_zero, List.drop_succ_cons, List.drop_zero, Int.reduceBEq, Int.reduceBNe,  fs_nil, fs_guard, fs_move, fs_pick, fs_alloc, fs_box, fs_load, fs_store, fs_bin, fs_eqv, fs_isNil, fs_un, fs_conv, fs_convStr, fs_field, fs_index, fs_indexStr, fs_build, fs_buildSlice, fs_fieldAddr, fs_indexAddr, fs_indexSl, fs_sliceArr, fs_sliceSl, fs_sliceStr, fs_makeSlice, fs_extract, fs_mkIface, fs_mkFunc, fs_nilCheck, fs_s2ap, fs_len, fs_minmax, fs_s2b, fs_b2s, fs_append, fs_copy, fs_callW, fs_callR, fs_callv, opd_tmp, opd_const, opd_func, opds_nil, opds_cons, opdOpt_none, opdOpt_some, opdParts_nil, opdParts_cons, get_miss, vPick_t, vPick_f, vEq_agg, vEq_aggN, vEq_bool, vEq_boolN, vConv_int, vStr_s, vField_agg, vIndex_agg, vIndexStr_s, vFieldAddr_p, vIndexAddr_p, vIndexSl_s, vSliceArr_p, vSliceSl_s, vSliceSl_n, vSliceStr_s, vExtract_t, vNilCheck_p, vS2ap_s, vLen_s, vLen_str, vMin_i, vMax_i, vLoad_p, vStore_p, baseP_p, vB2s_s, vMake_i, vS2b_s, callee_f, liveAt_eq, storeAt_eq, partL_none, partL_some, natIn_none, natIn_int, bounds3_two, bin_add, bin_sub, bin_mul, bin_quo, bin_rem, bin_and, bin_or, bin_xor, bin_andNot, bin_eql, bin_neq, bin_lss, bin_leq, bin_gtr, bin_geq, bin_shl, bin_shr, bin_sadd, bin_seql, bin_sneq, un_not, un_neg, un_xor, after_some, put_some, put_none, res_nil, res_val, res_var, packed_one, packed_two, merge_nil, merge_ge, rf_tup2, rfIn_int, rfIn_bool, rfIn_u8s, rf_str, rfIn_str, ↓gate_true, ↓guardV_tt, ↓guardV_ff, ↓guardV_tf, ↓guardV_ft, ↓keepV_some, ↓qElse_some, ↓get_hit, ↓Option.bind_some, ↓if_true, ↓if_false, List.nil_append, List.cons_append, List.all_nil, List.all_cons, List.isEmpty_nil, reduceCtorEq, Bool.false_eq_true, Nat.reduceEqDiff, beq_self_eq_true, bne_self_eq_false, Bool.not_true, Bool.not_false, Int.natCast_nonneg, Nat.lt_irrefl, false_and, Int.reduceEq, rf_int, rf_bool, rf_tuple_ints, rf_u8s, arr_list, toList2, Bool.and_self, Nat.not_lt_zero, Nat.sub_zero, Nat.zero_le, Nat.le_add_right, cells_agg, cells_agg_size, cells_int, cells_int_size, okV_int, okV_bool, okV_str, okV_agg, okV_ptr, okV_slice, okV_func, okV_nilFunc, okV_iface, okV_nilIface, cells_bool, cells_bool_size, cells_ptr, cells_ptr_size, cells_slice, cells_slice_size, cells_str, cells_str_size, eq_self, wrapI64_small, Int.natCast_zero, Int.natCast_one, Int.cast_ofNat_Int, List.length_nil, List.length_cons, List.getElem?_cons_zero, List.getElem?_cons_succ, List.set_cons_zero, List.set_cons_succ, Nat.zero_add, Nat.add_zero, Nat.mul_one, Nat.zero_mul, Int.toNat_natCast, Int.toNat_zero, Int.lt_irrefl, Int.le_refl, Nat.le_refl, and_self, true_and, and_true, decide_true, decide_false, Int.reduceLE, Int.reduceLT, Int.reduceAdd, Int.reduceMul, Int.reduceSub, Int.reduceTDiv, Int.reduceTMod, Int.reduceNeg, Int.reduceToNat, Int.reduceGT, Int.reduceGE, Int.reducePow, Nat.reduceAdd, Nat.reduceMul, Nat.reduceSub, Nat.reduceDiv, Nat.reduceMod, Nat.reducePow, Nat.reduceLT, Nat.reduceLeDiff, Nat.min_self, ge_iff_le, gt_iff_lt, Option.isNone_none, Option.isSome_none, Option.isNone_some, Option.isSome_some, Bool.and_true, Bool.true_and, Bool.and_false, Bool.false_and, not_true_eq_false, not_false_eq_true, or_true, true_or, false_or, or_false, hget0, hgetK, hset0, hsetK, splice_single, splice_whole, take_whole, List.getElem?_nil, List.length_append, List.append_assoc, hz32, u0, u1, u2, hi, ha, hb, k1, k2, hwc, o1, hset, List.length_replicate, take_all, eV_cells, eV_size, eV_ok, eV_fold, ns_len, u8s_len, lk, l0, le, p1, L1, rf_eV]
    rfl
  · rw [decide_eq_false ho] at k2
    have he : enc p = dig 256 32 p.y.val := by rw [enc, encN, show p.x.val % 2 = 0 by omega, Nat.zero_mul, Nat.add_zero]
    rw [he]
    generalize dig 256 32 p.y.val = E at *
    apply evVal_ex
    apply Exists.intro
    rw [evFun_fn (fn := a29) rfl]
    simp only [a29, envOf, evCode_skip, evCode_exit, evCode_seq, fs_blockS, fs_blockR, fs_blockC, fs_blockK, fs_blockB, evCode_ret, quiet, keep_nil, keep_cons, fs_cond, fs_region, fs_regionQ, quiet2_eq, lastOf_nil, lastOf_cons, List.take_succ_cons, List.take_zero, List.drop_succ_cons, List.drop_zero, Int.reduceBEq, Int.reduceBNe,  fs_nil, fs_guard, fs_move, fs_pick, fs_alloc, fs_box, fs_load, fs_store, fs_bin, fs_eqv, fs_isNil, fs_un, fs_conv, fs_convStr, fs_field, fs_index, fs_indexStr, fs_build, fs_buildSlice, fs_fieldAddr, fs_indexAddr, fs_indexSl, fs_sliceArr, fs_sliceSl, fs_sliceStr, fs_makeSlice, fs_extract, fs_mkIface, fs_mkFunc, fs_nilCheck, fs_s2ap, fs_len, fs_minmax, fs_s2b, fs_b2s, fs_append, fs_copy, fs_callW, fs_callR, fs_callv, opd_tmp, opd_const, opd_func, opds_nil, opds_cons, opdOpt_none, opdOpt_some, opdParts_nil, opdParts_cons, get_miss, vPick_t, vPick_f, vEq_agg, vEq_aggN, vEq_bool, vEq_boolN, vConv_int, vStr_s, vField_agg, vIndex_agg, vIndexStr_s, vFieldAddr_p, vIndexAddr_p, vIndexSl_s, vSliceArr_p, vSliceSl_s, vSliceSl_n, vSliceStr_s, vExtract_t, vNilCheck_p, vS2ap_s, vLen_s, vLen_str, vMin_i, vMax_i, vLoad_p, vStore_p, baseP_p, vB2s_s, vMake_i, vS2b_s, callee_f, liveAt_eq, storeAt_eq, partL_none, partL_some, natIn_none, natIn_int, bounds3_two, bin_add, bin_sub, bin_mul, bin_quo, bin_rem, bin_and, bin_or, bin_xor, bin_andNot, bin_eql, bin_neq, bin_lss, bin_leq, bin_gtr, bin_geq, bin_shl, bin_shr, bin_sadd, bin_seql, bin_sneq, un_not, un_neg, un_xor, after_some, put_some, put_none, res_nil, res_val, res_var, packed_one, packed_two, merge_nil, merge_ge, rf_tup2, rfIn_int, rfIn_bool, rfIn_u8s, rf_str, rfIn_str, ↓gate_true, ↓guardV_tt, ↓guardV_ff, ↓guardV_tf, ↓guardV_ft, ↓keepV_some, ↓qElse_some, ↓get_hit, ↓Option.bind_some, ↓if_true, ↓if_false, List.nil_append, List.cons_append, List.all_nil, List.all_cons, List.isEmpty_nil, reduceCtorEq, Bool.false_eq_true, Nat.reduceEqDiff, beq_self_eq_true, bne_self_eq_false, Bool.not_true, Bool.not_false, Int.natCast_nonneg, Nat.lt_irrefl, false_and, Int.reduceEq, rf_int, rf_bool, rf_tuple_ints, rf_u8s, arr_list, toList2, Bool.and_self, Nat.not_lt_zero, Nat.sub_zero, Nat.zero_le, Nat.le_add_right, cells_agg, cells_agg_size, cells_int, cells_int_size, okV_int, okV_bool, okV_str, okV_agg, okV_ptr, okV_slice, okV_func, okV_nilFunc, okV_iface, okV_nilIface, cells_bool, cells_bool_size, cells_ptr, cells_ptr_size, cells_slice, cells_slice_size, cells_str, cells_str_size, eq_self, wrapI64_small, Int.natCast_zero, Int.natCast_one, Int.cast_ofNat_Int, List.length_nil, List.length_cons, List.getElem?_cons_zero, List.getElem?_cons_succ, List.set_cons_zero, List.set_cons_succ, Nat.zero_add, Nat.add_zero, Nat.mul_one, Nat.zero_mul, Int.toNat_natCast, Int.toNat_zero, Int.lt_irrefl, Int.le_refl, Nat.le_refl, and_self, true_and, and_true, decide_true, decide_false, Int.reduceLE, Int.reduceLT, Int.reduceAdd, Int.reduceMul, Int.reduceSub, Int.reduceTDiv, Int.reduceTMod, Int.reduceNeg, Int.reduceToNat, Int.reduceGT, Int.reduceGE, Int.reducePow, Nat.reduceAdd, Nat.reduceMul, Nat.reduceSub, Nat.reduceDiv, Nat.reduceMod, Nat.reducePow, Nat.reduceLT, Nat.reduceLeDiff, Nat.min_self, ge_iff_le, gt_iff_lt, Option.isNone_none, Option.isSome_none, Option.isNone_some, Option.isSome_some, Bool.and_true, Bool.true_and, Bool.and_false, Bool.false_and, not_true_eq_false, not_false_eq_true, or_true, true_or, false_or, or_false, hget0, hgetK, hset0, hsetK, splice_single, splice_whole, take_whole, List.getElem?_nil, List.length_append, List.append_assoc, hz32, u0, u1, u2, hi, ha, hb, k1, k2, List.length_replicate, take_all, eV_cells, eV_size, eV_ok, eV_fold, ns_len, u8s_len, lk, l0, p1, L1, rf_eV]
    rfl

def bxN : Nat := 15112221349535400772501151409588531511454012693041857206046113283949847762202
def byN : Nat := 46316835694926478169428394003475163141307993866256225615783033603165251855960
def pbase : Go.Cv.Pt Go.Fp.P Go.Fp.d := ⟨Go.Fp.fp bxN, Go.Fp.fp byN, by
  unfold Go.Cv.On Go.Fp.d
  have h : (Go.Fp.fp byN * Go.Fp.fp byN : Go.Fp.Fe) = Go.Fp.fp bxN * Go.Fp.fp bxN + (1 + Go.Fp.fp Go.Fp.dN * (Go.Fp.fp bxN * Go.Fp.fp bxN) * (Go.Fp.fp byN * Go.Fp.fp byN)) := by
    rw [← Go.Fp.fp_one, ← Go.Fp.fp_mul, ← Go.Fp.fp_mul, ← Go.Fp.fp_mul, ← Go.Fp.fp_mul, ← Go.Fp.fp_add, ← Go.Fp.fp_add]
    exact Go.Fp.fp_eq.2 (by decide +kernel)
  grobner⟩
def bxK : List Nat := dig 256 32 bxN
def byK : List Nat := dig 256 32 byN
theorem bxK_num : num 256 bxK = bxN := by decide +kernel
theorem byK_num : num 256 byK = byN := by decide +kernel
theorem base_v : ∃ r, evVal T 25 [] = some (eV r) ∧ RepL r pbase := by
  have h1 := of_v (k := bxK) (dig_len _ _ _) dig32_lt
  have h2 := of_v (k := byK) (dig_len _ _ _) dig32_lt
  have E1 := of_el (V := num 256 bxK % 2 ^ 255)
  have E2 := of_el (V := num 256 byK % 2 ^ 255)
  have f1 : fe (dig (2 ^ 51) 5 (num 256 bxK % 2 ^ 255)) = Go.Fp.fp bxN := by unfold fe; rw [of_v51, bxK_num]; rfl
  have f2 : fe (dig (2 ^ 51) 5 (num 256 byK % 2 ^ 255)) = Go.Fp.fp byN := by unfold fe; rw [of_v51, byK_num]; rfl
  generalize dig (2 ^ 51) 5 (num 256 bxK % 2 ^ 255) = X at *
  generalize dig (2 ^ 51) 5 (num 256 byK % 2 ^ 255) = Y at *
  obtain ⟨t, ht, Et, ft⟩ := mul_ev E1 E2
  have E3 : ∃ O : List Nat, O = [1, 0, 0, 0, 0] := ⟨_, rfl⟩
  obtain ⟨O, hO⟩ := E3
  have E3 : El O (2 ^ 52) := by rw [hO]; exact one_el
  have v1 : evVal T 50 [.int .u32 1] = some (eV O) := by rw [hO]; exact one_v
  have f3 : fe O = 1 := by rw [hO]; exact one_fe
  clear hO
  have hf := fill4 E1 E2 E3 Et
  have p1 := pL_len E1 E2 E3 Et
  refine ⟨pL X Y O t, ?_, X, Y, O, t, rfl, E1, E2, E3, Et, by rw [f3]; exact Go.Fp.one_ne, by rw [f1, f3]; simp only [pbase]; grobner, by rw [f2, f3]; simp only [pbase]; grobner, by rw [ft, f1, f2, f3]; simp only [pbase]; grobner⟩
  have L1 := E1.len
  have L2 := E2.len
  have g1 : fillL (List.replicate 32 (Value.int .u8 0)) [(0, 1, .int .u8 26), (1, 1, .int .u8 213), (2, 1, .int .u8 37), (3, 1, .int .u8 143), (4, 1, .int .u8 96), (5, 1, .int .u8 45), (6, 1, .int .u8 86), (7, 1, .int .u8 201), (8, 1, .int .u8 178), (9, 1, .int .u8 167), (10, 1, .int .u8 37), (11, 1, .int .u8 149), (12, 1, .int .u8 96), (13, 1, .int .u8 199), (14, 1, .int .u8 44), (15, 1, .int .u8 105), (16, 1, .int .u8 92), (17, 1, .int .u8 220), (18, 1, .int .u8 214), (19, 1, .int .u8 253), (20, 1, .int .u8 49), (21, 1, .int .u8 226), (22, 1, .int .u8 164), (23, 1, .int .u8 192), (24, 1, .int .u8 254), (25, 1, .int .u8 83), (26, 1, .int .u8 110), (27, 1, .int .u8 205), (28, 1, .int .u8 211), (29, 1, .int .u8 54), (30, 1, .int .u8 105), (31, 1, .int .u8 33)] = some (u8s bxK) := by
    have : bxK = [26, 213, 37, 143, 96, 45, 86, 201, 178, 167, 37, 149, 96, 199, 44, 105, 92, 220, 214, 253, 49, 226, 164, 192, 254, 83, 110, 205, 211, 54, 105, 33] := by decide +kernel
    rw [this]; rfl
  have g2 : fillL (List.replicate 32 (Value.int .u8 0)) [(0, 1, .int .u8 88), (1, 1, .int .u8 102), (2, 1, .int .u8 102), (3, 1, .int .u8 102), (4, 1, .int .u8 102), (5, 1, .int .u8 102), (6, 1, .int .u8 102), (7, 1, .int .u8 102), (8, 1, .int .u8 102), (9, 1, .int .u8 102), (10, 1, .int .u8 102), (11, 1, .int .u8 102), (12, 1, .int .u8 102), (13, 1, .int .u8 102), (14, 1, .int .u8 102), (15, 1, .int .u8 102), (16, 1, .int .u8 102), (17, 1, .int .u8 102), (18, 1, .int .u8 102), (19, 1, .int .u8 102), (20, 1, .int .u8 102), (21, 1, .int .u8 102), (22, 1, .int .u8 102), (23, 1, .int .u8 102), (24, 1, .int .u8 102), (25, 1, .int .u8 102), (26, 1, .int .u8 102), (27, 1, .int .u8 102), (28, 1, .int .u8 102), (29, 1, .int .u8 102), (30, 1, .int .u8 102), (31, 1, .int .u8 102)] = some (u8s byK) := by
    have : byK = [88, 102, 102, 102, 102, 102, 102, 102, 102, 102, 102, 102, 102, 102, 102, 102, 102, 102, 102, 102, 102, 102, 102, 102, 102, 102, 102, 102, 102, 102, 102, 102] := by decide +kernel
    rw [this]; rfl
  generalize pL X Y O t = Q at *
  apply evVal_ex
  apply Exists.intro
  rw [evFun_fn (fn := a25) rfl]
  simp only [a25, envOf, evCode_skip, evCode_exit, evCode_seq, fs_blockS, fs_blockR, fs_blockC, fs_blockK, fs_blockB, evCode_ret, quiet, keep_nil, keep_cons, fs_cond, fs_region, fs_regionQ, quiet2_eq, lastOf_nil, lastOf_cons, List.take_succ_cons, List.take_zero, List.drop_succ_cons, List.drop_zero, Int.reduceBEq, Int.reduceBNe,  fs_nil, fs_guard, fs_move, fs_pick, fs_alloc, fs_box, fs_load, fs_store, fs_bin, fs_eqv, fs_isNil, fs_un, fs_conv, fs_convStr, fs_field, fs_index, fs_indexStr, fs_build, fs_buildSlice, fs_fieldAddr, fs_indexAddr, fs_indexSl, fs_sliceArr, fs_sliceSl, fs_sliceStr, fs_makeSlice, fs_extract, fs_mkIface, fs_mkFunc, fs_nilCheck, fs_s2ap, fs_len, fs_minmax, fs_s2b, fs_b2s, fs_append, fs_copy, fs_callW, fs_callR, fs_callv, opd_tmp, opd_const, opd_func, opds_nil, opds_cons, opdOpt_none, opdOpt_some, opdParts_nil, opdParts_cons, get_miss, vPick_t, vPick_f, vEq_agg, vEq_aggN, vEq_bool, vEq_boolN, vConv_int, vStr_s, vField_agg, vIndex_agg, vIndexStr_s, vFieldAddr_p, vIndexAddr_p, vIndexSl_s, vSliceArr_p, vSliceSl_s, vSliceSl_n, vSliceStr_s, vExtract_t, vNilCheck_p, vS2ap_s, vLen_s, vLen_str, vMin_i, vMax_i, vLoad_p, vStore_p, baseP_p, vB2s_s, vMake_i, vS2b_s, callee_f, liveAt_eq, storeAt_eq, partL_none, partL_some, natIn_none, natIn_int, bounds3_two, bin_add, bin_sub, bin_mul, bin_quo, bin_rem, bin_and, bin_or, bin_xor, bin_andNot, bin_eql, bin_neq, bin_lss, bin_leq, bin_gtr, bin_geq, bin_shl, bin_shr, bin_sadd, bin_seql, bin_sneq, un_not, un_neg, un_xor, after_some, put_some, put_none, res_nil, res_val, res_var, packed_one, packed_two, merge_nil, merge_ge, rf_tup2, rfIn_int, rfIn_bool, rfIn_u8s, rf_str, rfIn_str, ↓gate_true, ↓guardV_tt, ↓guardV_ff, ↓guardV_tf, ↓guardV_ft, ↓keepV_some, ↓qElse_some, ↓get_hit, ↓Option.bind_some, ↓if_true, ↓if_false, List.nil_append, List.cons_append, List.all_nil, List.all_cons, List.isEmpty_nil, reduceCtorEq, Bool.false_eq_true, Nat.reduceEqDiff, beq_self_eq_true, bne_self_eq_false, Bool.not_true, Bool.not_false, Int.natCast_nonneg, Nat.lt_irrefl, false_and, Int.reduceEq, rf_int, rf_bool, rf_tuple_ints, rf_u8s, arr_list, toList2, Bool.and_self, Nat.not_lt_zero, Nat.sub_zero, Nat.zero_le, Nat.le_add_right, cells_agg, cells_agg_size, cells_int, cells_int_size, okV_int, okV_bool, okV_str, okV_agg, okV_ptr, okV_slice, okV_func, okV_nilFunc, okV_iface, okV_nilIface, cells_bool, cells_bool_size, cells_ptr, cells_ptr_size, cells_slice, cells_slice_size, cells_str, cells_str_size, eq_self, wrapI64_small, Int.natCast_zero, Int.natCast_one, Int.cast_ofNat_Int, List.length_nil, List.length_cons, List.getElem?_cons_zero, List.getElem?_cons_succ, List.set_cons_zero, List.set_cons_succ, Nat.zero_add, Nat.add_zero, Nat.mul_one, Nat.zero_mul, Int.toNat_natCast, Int.toNat_zero, Int.lt_irrefl, Int.le_refl, Nat.le_refl, and_self, true_and, and_true, decide_true, decide_false, Int.reduceLE, Int.reduceLT, Int.reduceAdd, Int.reduceMul, Int.reduceSub, Int.reduceTDiv, Int.reduceTMod, Int.reduceNeg, Int.reduceToNat, Int.reduceGT, Int.reduceGE, Int.reducePow, Nat.reduceAdd, Nat.reduceMul, Nat.reduceSub, Nat.reduceDiv, Nat.reduceMod, Nat.reducePow, Nat.reduceLT, Nat.reduceLeDiff, Nat.min_self, ge_iff_le, gt_iff_lt, Option.isNone_none, Option.isSome_none, Option.isNone_some, Option.isSome_some, Bool.and_true, Bool.true_and, Bool.and_false, Bool.false_and, not_true_eq_false, not_false_eq_true, or_true, true_or, false_or, or_false, hget0, hgetK, hset0, hsetK, splice_single, splice_whole, take_whole, List.getElem?_nil, List.length_append, List.append_assoc, g1, g2, h1, h2, v1, ht, hf, List.length_replicate, take_all, eV_cells, eV_size, eV_ok, eV_fold, ns_len, p1, L1, L2, rf_eV]
  rfl
end Go.Ev.Ytaceeoghjgggjaa

/-
  point: Add.
-/
import Derived.Test.YtaceeoghjgggjaaPW4
set_option linter.unusedSimpArgs false
set_option linter.unusedVariables false
namespace Go.Ev.Ytaceeoghjgggjaa
open Go Go.Ev
attribute [local congr] bind_congr2 ite_congr2 qElse_congr gate_congr guardV_congr
set_option maxRecDepth 100000

theorem part20 {a b c : List Nat} {n : Nat} (hb : b.length = 20) (ha : a.length = n) : List.take 20 (List.drop n (ns .u64 (a ++ (b ++ c)))) = ns .u64 b := by
  simp only [ns_append]
  rw [List.drop_append_of_le_length (by rw [ns_len]; omega), List.drop_of_length_le (by rw [ns_len]; omega), List.nil_append, List.take_append_of_le_length (by rw [ns_len]; omega), List.take_of_length_le (by rw [ns_len]; omega)]
theorem adds_body {H : List Ob} {l : List Ob} {id n i : Nat} {o x r d : List Nat} {R : Ob} {cs : List Value} {g : List Ob} (hi : i < n) (hn : n < 100) (l1 : x.length = 20) (l2 : o.length = 20) (l4 : d.length = 5) (hm : evVal T 54 [eV o, eV x, eV d] = some (eV r)) (l3 : r.length = 20)
    (hA : ∀ l, (H ++ l)[id]? = some ⟨cs, true, true, true, 1⟩) (hcs : (cs.drop (i * 20)).take 20 = ns .u64 x) (hlen : i * 20 + 20 ≤ cs.length) :
    evCode T H.length a27_l0 ⟨[(2, .pointer (some ⟨H.length, 0, none⟩)), (3, .pointer (some ⟨H.length + 1, 0, none⟩)), (4, .pointer (some ⟨H.length + 2, 0, none⟩)), (9, .slice (some ⟨id, 0, none⟩) n n), (10, .int .i64 n), (11, .int .i64 i)], H ++ (R :: ⟨ns .u64 o, true, true, true, 1⟩ :: ⟨ns .u64 d, true, true, true, 1⟩ :: g), []⟩ =
      some (.normal, ⟨[(2, .pointer (some ⟨H.length, 0, none⟩)), (3, .pointer (some ⟨H.length + 1, 0, none⟩)), (4, .pointer (some ⟨H.length + 2, 0, none⟩)), (9, .slice (some ⟨id, 0, none⟩) n n), (10, .int .i64 n), (11, .int .i64 ((i + 1 : Nat) : Int))], H ++ (R :: ⟨ns .u64 r, true, true, true, 1⟩ :: ⟨ns .u64 d, true, true, true, 1⟩ :: (g ++ [⟨ns .u64 x, true, true, true, 1⟩])), []⟩) := by
  have hz : ∃ Z, List.replicate 20 (Value.int .u64 0) = ns .u64 Z ∧ Z.length = 20 := ⟨List.replicate 20 0, rfl, rfl⟩
  obtain ⟨Z, hz, l0⟩ := hz
  have e1 : ((i : Int) < (n : Int)) = True := eq_true (by omega)
  have w3 : IntKind.i64.wrap ((i : Int) + 1) = ((i + 1 : Nat) : Int) := wrap_nat (n := i + 1) (by omega)
  simp only [a27_l0, envOf, evCode_skip, evCode_exit, evCode_seq, fs_blockS, fs_blockR, fs_blockC, fs_blockK, fs_blockB, evCode_ret, quiet, keep_nil, keep_cons, fs_cond, fs_region, fs_regionP, fs_nil, fs_guard, fs_move, fs_pick, fs_alloc, fs_box, fs_load, fs_store, fs_bin, fs_eqv, fs_isNil, fs_un, fs_conv, fs_convStr, fs_field, fs_index, fs_indexStr, fs_build, fs_buildSlice, fs_fieldAddr, fs_indexAddr, fs_indexSl, fs_sliceArr, fs_sliceSl, fs_sliceStr, fs_makeSlice, fs_extract, fs_mkIface, fs_mkFunc, fs_nilCheck, fs_s2ap, fs_len, fs_minmax, fs_s2b, fs_b2s, fs_append, fs_copy, fs_callW, fs_callR, fs_callv, opd_tmp, opd_const, opd_func, opds_nil, opds_cons, opdOpt_none, opdOpt_some, opdParts_nil, opdParts_cons, get_miss, vPick_t, vPick_f, vEq_agg, vEq_aggN, vEq_bool, vEq_boolN, vConv_int, vStr_s, vField_agg, vIndex_agg, vIndexStr_s, vFieldAddr_p, vIndexAddr_p, vIndexSl_s, vSliceArr_p, vSliceSl_s, vSliceSl_n, vSliceStr_s, vExtract_t, vNilCheck_p, vS2ap_s, vLen_s, vLen_str, vMin_i, vMax_i, vLoad_p, vStore_p, baseP_p, vB2s_s, vMake_i, vS2b_s, callee_f, liveAt_eq, storeAt_eq, partL_none, partL_some, natIn_none, natIn_int, bounds3_two, bin_add, bin_sub, bin_mul, bin_quo, bin_rem, bin_and, bin_or, bin_xor, bin_andNot, bin_eql, bin_neq, bin_lss, bin_leq, bin_gtr, bin_geq, bin_shl, bin_shr, bin_sadd, bin_seql, bin_sneq, un_not, un_neg, un_xor, after_some, put_some, put_none, res_nil, res_val, res_var, packed_one, packed_two, merge_nil, merge_ge, rf_tup2, rfIn_int, rfIn_bool, rfIn_u8s, rf_str, rfIn_str, ↓gate_true, ↓guardV_tt, ↓guardV_ff, ↓guardV_tf, ↓guardV_ft, ↓keepV_some, ↓qElse_some, ↓get_hit, ↓Option.bind_some, ↓if_true, ↓if_false, List.nil_append, List.cons_append, List.all_nil, List.all_cons, List.isEmpty_nil, reduceCtorEq, Bool.false_eq_true, Nat.reduceEqDiff, beq_self_eq_true, bne_self_eq_false, Bool.not_true, Bool.not_false, Int.natCast_nonneg, Nat.lt_irrefl, false_and, Int.reduceEq, rf_int, rf_bool, rf_tuple_ints, rf_u8s, arr_list, toList2, Bool.and_self, Nat.not_lt_zero, Nat.sub_zero, Nat.zero_le, Nat.le_add_right, cells_agg, cells_agg_size, cells_int, cells_int_size, okV_int, okV_bool, okV_str, okV_agg, okV_ptr, okV_slice, okV_func, okV_nilFunc, okV_iface, okV_nilIface, cells_bool, cells_bool_size, cells_ptr, cells_ptr_size, cells_slice, cells_slice_size, cells_str, cells_str_size, eq_self, wrapI64_small, Int.natCast_zero, Int.natCast_one, Int.cast_ofNat_Int, List.length_nil, List.length_cons, List.getElem?_cons_zero, List.getElem?_cons_succ, List.set_cons_zero, List.set_cons_succ, Nat.zero_add, Nat.add_zero, Nat.mul_one, Nat.zero_mul, Int.toNat_natCast, Int.toNat_zero, Int.lt_irrefl, Int.le_refl, Nat.le_refl, and_self, true_and, and_true, decide_true, decide_false, Int.reduceLE, Int.reduceLT, Int.reduceAdd, Int.reduceMul, Int.reduceSub, Int.reduceTDiv, Int.reduceTMod, Int.reduceNeg, Int.reduceToNat, Int.reduceGT, Int.reduceGE, Int.reducePow, Nat.reduceAdd, Nat.reduceMul, Nat.reduceSub, Nat.reduceDiv, Nat.reduceMod, Nat.reducePow, Nat.reduceLT, Nat.reduceLeDiff, Nat.min_self, ge_iff_le, gt_iff_lt, Option.isNone_none, Option.isSome_none, Option.isNone_some, Option.isSome_some, Bool.and_true, Bool.true_and, Bool.and_false, Bool.false_and, not_true_eq_false, not_false_eq_true, or_true, true_or, false_or, or_false, hget0, hgetK, hset0, hsetK, splice_single, splice_whole, take_whole, List.getElem?_nil, List.length_append, List.append_assoc, Nat.add_assoc, hz, hA, hcs, hlen, hm, eV_cells, eV_size, eV_ok, eV_fold, ns_len, l0, l1, l2, l3, l4, rf_eV, e1, w3]

/-- Lists that stand for points, one by one. -/
inductive Reps : List (List Nat) → List (Go.Cv.Pt Go.Fp.P Go.Fp.d) → Prop
  | nil : Reps [] []
  | cons {x xs p ps} : RepL x p → Reps xs ps → Reps (x :: xs) (p :: ps)
theorem Reps.len {xs : List (List Nat)} {ps : List (Go.Cv.Pt Go.Fp.P Go.Fp.d)} (h : Reps xs ps) : xs.length = ps.length := by
  induction h with
  | nil => rfl
  | cons _ _ ih => simp [ih]
theorem Reps.all {xs : List (List Nat)} {ps : List (Go.Cv.Pt Go.Fp.P Go.Fp.d)} (h : Reps xs ps) : ∀ x ∈ xs, x.length = 20 := by
  induction h with
  | nil => simp
  | cons h _ ih => intro y hy; rcases List.mem_cons.1 hy with rfl | hy; exact h.len; exact ih y hy
theorem Reps.get {xs : List (List Nat)} {ps : List (Go.Cv.Pt Go.Fp.P Go.Fp.d)} (h : Reps xs ps) : ∀ {i : Nat} {x : List Nat}, xs[i]? = some x → ∃ p, ps[i]? = some p ∧ RepL x p := by
  induction h with
  | nil => intro i x h; simp at h
  | cons h _ ih =>
    intro i x hx
    cases i with
    | zero => simp at hx; subst hx; exact ⟨_, rfl, h⟩
    | succ i => simp at hx; simpa using ih hx
theorem flat20 : ∀ (ys : List (List Nat)), (∀ x ∈ ys, x.length = 20) → ys.flatten.length = ys.length * 20 := by
  intro ys hy
  induction ys with
  | nil => rfl
  | cons y ys ih =>
    rw [List.flatten_cons, List.length_append, ih (fun x hx => hy x (by simp [hx])), (hy y (by simp)), List.length_cons]; omega
theorem adds_ev {H : List Ob} {id n : Nat} {xs : List (List Nat)} {ps : List (Go.Cv.Pt Go.Fp.P Go.Fp.d)} (hn : xs.length = n) (hN : n < 100) (hx : Reps xs ps) (h : H[id]? = some ⟨ns .u64 xs.flatten, true, true, true, 1⟩) :
    ∃ r d, evFun T 27 [.slice (some ⟨id, 0, none⟩) n n] H = some (eV r, H ++ (⟨ns .u64 r, true, true, true, 1⟩ :: ⟨ns .u64 r, true, true, true, 1⟩ :: ⟨ns .u64 d, true, true, true, 1⟩ :: xs.map fun x => (⟨ns .u64 x, true, true, true, 1⟩ : Ob)), []) ∧ RepL r (ps.foldl padd pzero) := by
  have hid : id < H.length := (List.getElem?_eq_some_iff.1 h).1
  have hA : ∀ l, (H ++ l)[id]? = some ⟨ns .u64 xs.flatten, true, true, true, 1⟩ := fun l => by rw [List.getElem?_append_left hid]; exact h
  obtain ⟨d, hd, Ed, fd⟩ := factor_v
  obtain ⟨z, hz, Ez⟩ := zero_v
  have hZ : ∃ Z, List.replicate 20 (Value.int .u64 0) = ns .u64 Z ∧ Z.length = 20 := ⟨List.replicate 20 0, rfl, rfl⟩
  obtain ⟨Z, hZ, l0⟩ := hZ
  obtain ⟨st, hb, r, rfl, hr1⟩ := block_inv (T := T) (base := H.length) (id := 0) (body := a27_l0)
    (fun i st => ∃ r : List Nat, st = ⟨[(2, .pointer (some ⟨H.length, 0, none⟩)), (3, .pointer (some ⟨H.length + 1, 0, none⟩)), (4, .pointer (some ⟨H.length + 2, 0, none⟩)), (9, .slice (some ⟨id, 0, none⟩) n n), (10, .int .i64 n), (11, .int .i64 (i : Nat))], H ++ (⟨ns .u64 Z, true, true, true, 1⟩ :: ⟨ns .u64 r, true, true, true, 1⟩ :: ⟨ns .u64 d, true, true, true, 1⟩ :: ((xs.take i).map fun x => (⟨ns .u64 x, true, true, true, 1⟩ : Ob))), []⟩ ∧ RepL r ((ps.take i).foldl padd pzero))
    (Q := fun st => ∃ r : List Nat, st = ⟨[(2, .pointer (some ⟨H.length, 0, none⟩)), (3, .pointer (some ⟨H.length + 1, 0, none⟩)), (4, .pointer (some ⟨H.length + 2, 0, none⟩)), (9, .slice (some ⟨id, 0, none⟩) n n), (10, .int .i64 n), (11, .int .i64 n), (12, .bool false)], H ++ (⟨ns .u64 Z, true, true, true, 1⟩ :: ⟨ns .u64 r, true, true, true, 1⟩ :: ⟨ns .u64 d, true, true, true, 1⟩ :: (xs.map fun x => (⟨ns .u64 x, true, true, true, 1⟩ : Ob))), []⟩ ∧ RepL r (ps.foldl padd pzero))
    n (s := ⟨[(2, .pointer (some ⟨H.length, 0, none⟩)), (3, .pointer (some ⟨H.length + 1, 0, none⟩)), (4, .pointer (some ⟨H.length + 2, 0, none⟩)), (9, .slice (some ⟨id, 0, none⟩) n n), (10, .int .i64 n), (11, .int .i64 0)], H ++ [⟨ns .u64 Z, true, true, true, 1⟩, ⟨ns .u64 z, true, true, true, 1⟩, ⟨ns .u64 d, true, true, true, 1⟩], []⟩) ⟨z, rfl, Ez⟩
    (fun i st hi hs => by
      obtain ⟨r, rfl, hr1⟩ := hs
      obtain ⟨x, hxi⟩ : ∃ y, xs[i]? = some y := ⟨_, List.getElem?_eq_getElem (by omega)⟩
      obtain ⟨p, hpi, hxe⟩ := hx.get hxi
      obtain ⟨r', hm, g1⟩ := plusL hr1 hxe Ed fd
      have hsplit : xs = xs.take i ++ x :: xs.drop (i + 1) := by
        have h1 := List.getElem?_eq_some_iff.1 hxi
        conv => lhs; rw [← List.take_append_drop i xs, List.drop_eq_getElem_cons h1.1, h1.2]
      have htl : (xs.take i).flatten.length = i * 20 := by
        rw [flat20 _ (fun y hy => hx.all y (List.mem_of_mem_take hy)), List.length_take, Nat.min_eq_left (by omega)]
      have hcs : ((ns .u64 xs.flatten).drop (i * 20)).take 20 = ns .u64 x := by
        conv => lhs; rw [hsplit, List.flatten_append, List.flatten_cons]
        exact part20 hxe.len htl
      have hb := adds_body (R := ⟨ns .u64 Z, true, true, true, 1⟩) (g := (xs.take i).map fun x => (⟨ns .u64 x, true, true, true, 1⟩ : Ob)) (l := []) hi hN hxe.len hr1.len Ed.len hm g1.len hA hcs (by rw [ns_len, flat20 xs hx.all, hn]; omega)
      have htk : xs.take (i + 1) = xs.take i ++ [x] := by rw [List.take_add_one, hxi]; rfl
      have htp : ps.take (i + 1) = ps.take i ++ [p] := by rw [List.take_add_one, hpi]; rfl
      refine ⟨_, hb, r', ?_, ?_⟩
      · rw [htk, List.map_append]; rfl
      · rw [htp, List.foldl_append]; exact g1)
    (fun st hs => by
      obtain ⟨r, rfl, hr1⟩ := hs
      have e1 : ((n : Int) < (n : Int)) = False := eq_false (by omega)
      have ht : xs.take n = xs := List.take_of_length_le (by omega)
      have ht2 : ps.take n = ps := List.take_of_length_le (by have := hx.len; omega)
      rw [ht2] at hr1
      rw [ht]
      refine ⟨_, ?_, r, rfl, hr1⟩
      simp only [a27_l0, envOf, evCode_skip, evCode_exit, evCode_seq, fs_blockS, fs_blockR, fs_blockC, fs_blockK, fs_blockB, evCode_ret, quiet, keep_nil, keep_cons, fs_cond, fs_region, fs_regionP, fs_nil, fs_guard, fs_move, fs_pick, fs_alloc, fs_box, fs_load, fs_store, fs_bin, fs_eqv, fs_isNil, fs_un, fs_conv, fs_convStr, fs_field, fs_index, fs_indexStr, fs_build, fs_buildSlice, fs_fieldAddr, fs_indexAddr, fs_indexSl, fs_sliceArr, fs_sliceSl, fs_sliceStr, fs_makeSlice, fs_extract, fs_mkIface, fs_mkFunc, fs_nilCheck, fs_s2ap, fs_len, fs_minmax, fs_s2b, fs_b2s, fs_append, fs_copy, fs_callW, fs_callR, fs_callv, opd_tmp, opd_const, opd_func, opds_nil, opds_cons, opdOpt_none, opdOpt_some, opdParts_nil, opdParts_cons, get_miss, vPick_t, vPick_f, vEq_agg, vEq_aggN, vEq_bool, vEq_boolN, vConv_int, vStr_s, vField_agg, vIndex_agg, vIndexStr_s, vFieldAddr_p, vIndexAddr_p, vIndexSl_s, vSliceArr_p, vSliceSl_s, vSliceSl_n, vSliceStr_s, vExtract_t, vNilCheck_p, vS2ap_s, vLen_s, vLen_str, vMin_i, vMax_i, vLoad_p, vStore_p, baseP_p, vB2s_s, vMake_i, vS2b_s, callee_f, liveAt_eq, storeAt_eq, partL_none, partL_some, natIn_none, natIn_int, bounds3_two, bin_add, bin_sub, bin_mul, bin_quo, bin_rem, bin_and, bin_or, bin_xor, bin_andNot, bin_eql, bin_neq, bin_lss, bin_leq, bin_gtr, bin_geq, bin_shl, bin_shr, bin_sadd, bin_seql, bin_sneq, un_not, un_neg, un_xor, after_some, put_some, put_none, res_nil, res_val, res_var, packed_one, packed_two, merge_nil, merge_ge, rf_tup2, rfIn_int, rfIn_bool, rfIn_u8s, rf_str, rfIn_str, ↓gate_true, ↓guardV_tt, ↓guardV_ff, ↓guardV_tf, ↓guardV_ft, ↓keepV_some, ↓qElse_some, ↓get_hit, ↓Option.bind_some, ↓if_true, ↓if_false, List.nil_append, List.cons_append, List.all_nil, List.all_cons, List.isEmpty_nil, reduceCtorEq, Bool.false_eq_true, Nat.reduceEqDiff, beq_self_eq_true, bne_self_eq_false, Bool.not_true, Bool.not_false, Int.natCast_nonneg, Nat.lt_irrefl, false_and, Int.reduceEq, rf_int, rf_bool, rf_tuple_ints, rf_u8s, arr_list, toList2, Bool.and_self, Nat.not_lt_zero, Nat.sub_zero, Nat.zero_le, Nat.le_add_right, cells_agg, cells_agg_size, cells_int, cells_int_size, okV_int, okV_bool, okV_str, okV_agg, okV_ptr, okV_slice, okV_func, okV_nilFunc, okV_iface, okV_nilIface, cells_bool, cells_bool_size, cells_ptr, cells_ptr_size, cells_slice, cells_slice_size, cells_str, cells_str_size, eq_self, wrapI64_small, Int.natCast_zero, Int.natCast_one, Int.cast_ofNat_Int, List.length_nil, List.length_cons, List.getElem?_cons_zero, List.getElem?_cons_succ, List.set_cons_zero, List.set_cons_succ, Nat.zero_add, Nat.add_zero, Nat.mul_one, Nat.zero_mul, Int.toNat_natCast, Int.toNat_zero, Int.lt_irrefl, Int.le_refl, Nat.le_refl, and_self, true_and, and_true, decide_true, decide_false, Int.reduceLE, Int.reduceLT, Int.reduceAdd, Int.reduceMul, Int.reduceSub, Int.reduceTDiv, Int.reduceTMod, Int.reduceNeg, Int.reduceToNat, Int.reduceGT, Int.reduceGE, Int.reducePow, Nat.reduceAdd, Nat.reduceMul, Nat.reduceSub, Nat.reduceDiv, Nat.reduceMod, Nat.reducePow, Nat.reduceLT, Nat.reduceLeDiff, Nat.min_self, ge_iff_le, gt_iff_lt, Option.isNone_none, Option.isSome_none, Option.isNone_some, Option.isSome_some, Bool.and_true, Bool.true_and, Bool.and_false, Bool.false_and, not_true_eq_false, not_false_eq_true, or_true, true_or, false_or, or_false, e1])
  refine ⟨r, d, ?_, hr1⟩
  have l1 := hr1.len
  have l2 := Ez.len
  have l3 := Ed.len
  rw [evFun_fn (fn := a27) rfl]
  have hz5 : List.replicate 5 (Value.int .u64 0) = ns .u64 [0, 0, 0, 0, 0] := rfl
  have l5 : ([0, 0, 0, 0, 0] : List Nat).length = 5 := rfl
  simp only [a27, envOf, evCode_skip, evCode_exit, evCode_seq, fs_blockS, fs_blockR, fs_blockC, fs_blockK, fs_blockB, evCode_ret, quiet, keep_nil, keep_cons, fs_cond, fs_region, fs_regionP, fs_nil, fs_guard, fs_move, fs_pick, fs_alloc, fs_box, fs_load, fs_store, fs_bin, fs_eqv, fs_isNil, fs_un, fs_conv, fs_convStr, fs_field, fs_index, fs_indexStr, fs_build, fs_buildSlice, fs_fieldAddr, fs_indexAddr, fs_indexSl, fs_sliceArr, fs_sliceSl, fs_sliceStr, fs_makeSlice, fs_extract, fs_mkIface, fs_mkFunc, fs_nilCheck, fs_s2ap, fs_len, fs_minmax, fs_s2b, fs_b2s, fs_append, fs_copy, fs_callW, fs_callR, fs_callv, opd_tmp, opd_const, opd_func, opds_nil, opds_cons, opdOpt_none, opdOpt_some, opdParts_nil, opdParts_cons, get_miss, vPick_t, vPick_f, vEq_agg, vEq_aggN, vEq_bool, vEq_boolN, vConv_int, vStr_s, vField_agg, vIndex_agg, vIndexStr_s, vFieldAddr_p, vIndexAddr_p, vIndexSl_s, vSliceArr_p, vSliceSl_s, vSliceSl_n, vSliceStr_s, vExtract_t, vNilCheck_p, vS2ap_s, vLen_s, vLen_str, vMin_i, vMax_i, vLoad_p, vStore_p, baseP_p, vB2s_s, vMake_i, vS2b_s, callee_f, liveAt_eq, storeAt_eq, partL_none, partL_some, natIn_none, natIn_int, bounds3_two, bin_add, bin_sub, bin_mul, bin_quo, bin_rem, bin_and, bin_or, bin_xor, bin_andNot, bin_eql, bin_neq, bin_lss, bin_leq, bin_gtr, bin_geq, bin_shl, bin_shr, bin_sadd, bin_seql, bin_sneq, un_not, un_neg, un_xor, after_some, put_some, put_none, res_nil, res_val, res_var, packed_one, packed_two, merge_nil, merge_ge, rf_tup2, rfIn_int, rfIn_bool, rfIn_u8s, rf_str, rfIn_str, ↓gate_true, ↓guardV_tt, ↓guardV_ff, ↓guardV_tf, ↓guardV_ft, ↓keepV_some, ↓qElse_some, ↓get_hit, ↓Option.bind_some, ↓if_true, ↓if_false, List.nil_append, List.cons_append, List.all_nil, List.all_cons, List.isEmpty_nil, reduceCtorEq, Bool.false_eq_true, Nat.reduceEqDiff, beq_self_eq_true, bne_self_eq_false, Bool.not_true, Bool.not_false, Int.natCast_nonneg, Nat.lt_irrefl, false_and, Int.reduceEq, rf_int, rf_bool, rf_tuple_ints, rf_u8s, arr_list, toList2, Bool.and_self, Nat.not_lt_zero, Nat.sub_zero, Nat.zero_le, Nat.le_add_right, cells_agg, cells_agg_size, cells_int, cells_int_size, okV_int, okV_bool, okV_str, okV_agg, okV_ptr, okV_slice, okV_func, okV_nilFunc, okV_iface, okV_nilIface, cells_bool, cells_bool_size, cells_ptr, cells_ptr_size, cells_slice, cells_slice_size, cells_str, cells_str_size, eq_self, wrapI64_small, Int.natCast_zero, Int.natCast_one, Int.cast_ofNat_Int, List.length_nil, List.length_cons, List.getElem?_cons_zero, List.getElem?_cons_succ, List.set_cons_zero, List.set_cons_succ, Nat.zero_add, Nat.add_zero, Nat.mul_one, Nat.zero_mul, Int.toNat_natCast, Int.toNat_zero, Int.lt_irrefl, Int.le_refl, Nat.le_refl, and_self, true_and, and_true, decide_true, decide_false, Int.reduceLE, Int.reduceLT, Int.reduceAdd, Int.reduceMul, Int.reduceSub, Int.reduceTDiv, Int.reduceTMod, Int.reduceNeg, Int.reduceToNat, Int.reduceGT, Int.reduceGE, Int.reducePow, Nat.reduceAdd, Nat.reduceMul, Nat.reduceSub, Nat.reduceDiv, Nat.reduceMod, Nat.reducePow, Nat.reduceLT, Nat.reduceLeDiff, Nat.min_self, ge_iff_le, gt_iff_lt, Option.isNone_none, Option.isSome_none, Option.isNone_some, Option.isSome_some, Bool.and_true, Bool.true_and, Bool.and_false, Bool.false_and, not_true_eq_false, not_false_eq_true, or_true, true_or, false_or, or_false, hget0, hgetK, hset0, hsetK, splice_single, splice_whole, take_whole, List.getElem?_nil, List.length_append, List.append_assoc, Nat.add_assoc, hZ, hz5, l5, hd, hz, hb, eV_cells, eV_size, eV_ok, eV_fold, ns_len, l0, l1, l2, l3, rf_eV]
/-- A list built for a call: the fold. -/
theorem fold2 {p q : Go.Cv.Pt Go.Fp.P Go.Fp.d} : [p, q].foldl padd pzero = padd p q := by
  show padd (padd pzero p) q = _
  rw [show padd pzero p = p from Go.Cv.zero_add Go.Fp.fld p]
end Go.Ev.Ytaceeoghjgggjaa

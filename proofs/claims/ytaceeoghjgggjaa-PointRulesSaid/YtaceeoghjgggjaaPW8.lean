/-
  point: the laws' own test of the base; Decode.
-/
import Derived.Test.YtaceeoghjgggjaaPW7
set_option linter.unusedSimpArgs false
set_option linter.unusedVariables false
namespace Go.Ev.Ytaceeoghjgggjaa
open Go Go.Ev
attribute [local congr] bind_congr2 ite_congr2 qElse_congr gate_congr guardV_congr
set_option maxRecDepth 100000

theorem guardW_tt {α : Type} {x y : Option α} : guardV (.bool true) true x y = x := Eq.trans rfl rfl
theorem guardW_ff {α : Type} {x y : Option α} : guardV (.bool false) false x y = x := Eq.trans rfl rfl
theorem guardW_tf {α : Type} {x y : Option α} : guardV (.bool true) false x y = y := Eq.trans rfl rfl
theorem guardW_ft {α : Type} {x y : Option α} : guardV (.bool false) true x y = y := Eq.trans rfl rfl
theorem keepW_some {t : Nat} {v : Value} {l : Env} : keepV t (some v) l = (t, v) :: l := Eq.trans rfl rfl
theorem qElseW_some {α : Type} {v : α} {y : Option α} : qElse (some v) y = some v := Eq.trans rfl rfl
theorem steps_app {T : Tab} {b : Nat} {q : Bool} : ∀ (o1 o2 : List AOper) (s : St), steps T b q (o1 ++ o2) s = (steps T b q o1 s).bind (steps T b q o2)
  | [], o2, s => rfl
  | o :: o1, o2, s => by
    rw [List.cons_append]
    unfold steps
    cases hg : guardOf s.env o.guard with
    | none => rfl
    | some g =>
      cases g with
      | true =>
        simp only
        cases hx : evOper T o.op s.env s.h with
        | none => rfl
        | some x =>
          simp only [Option.bind_some]
          split
          · rfl
          · exact steps_app o1 o2 _
      | false => exact steps_app o1 o2 _
theorem steps_chunk {T : Tab} {b : Nat} {q : Bool} {a1 a2 a3 a4 a5 a6 a7 : AOper} {r : List AOper} {s : St} : steps T b q (a1 :: a2 :: a3 :: a4 :: a5 :: a6 :: a7 :: r) s = (steps T b q [a1, a2, a3, a4, a5, a6] s).bind fun s' => steps T b q (a7 :: r) s' := by
  rw [← steps_app]; rfl
def encB : List Nat := [88, 102, 102, 102, 102, 102, 102, 102, 102, 102, 102, 102, 102, 102, 102, 102, 102, 102, 102, 102, 102, 102, 102, 102, 102, 102, 102, 102, 102, 102, 102, 102]
def encZ : List Nat := [1, 0, 0, 0, 0, 0, 0, 0, 0, 0, 0, 0, 0, 0, 0, 0, 0, 0, 0, 0, 0, 0, 0, 0, 0, 0, 0, 0, 0, 0, 0, 0]
theorem enc_base : enc pbase = encB := by decide +kernel
theorem enc_zero : enc pzero = encZ := by decide +kernel
theorem tiny_no {p : Go.Cv.Pt Go.Fp.P Go.Fp.d} {l : List Nat} (h : RepL l p) (hp : pmul 8 p ≠ pzero) : evVal T 39 [eV l] = some (.bool false) := by
  have := tiny_v h
  rw [decide_eq_false hp] at this
  exact this
theorem tiny_yes {p : Go.Cv.Pt Go.Fp.P Go.Fp.d} {l : List Nat} (h : RepL l p) (hp : pmul 8 p = pzero) : evVal T 39 [eV l] = some (.bool true) := by
  have := tiny_v h
  rw [decide_eq_true hp] at this
  exact this
theorem enc_of {p : Go.Cv.Pt Go.Fp.P Go.Fp.d} {l E : List Nat} (h : RepL l p) (hp : enc p = E) : evVal T 29 [eV l] = some (.agg (u8s E).toArray) := by
  have := encode_v h
  rw [hp] at this
  exact this
theorem base_facts : ∃ b, evVal T 25 [] = some (eV b) ∧ b.length = 20 ∧ evVal T 29 [eV b] = some (.agg (u8s encB).toArray) ∧ evVal T 39 [eV b] = some (.bool false) := by
  obtain ⟨b, hb, rb⟩ := base_v
  exact ⟨b, hb, rb.len, enc_of rb enc_base, tiny_no rb eight_base⟩
theorem zero_facts : ∃ b, evVal T 30 [] = some (eV b) ∧ b.length = 20 ∧ evVal T 29 [eV b] = some (.agg (u8s encZ).toArray) ∧ evVal T 39 [eV b] = some (.bool true) := by
  obtain ⟨b, hb, rb⟩ := zero_v
  exact ⟨b, hb, rb.len, enc_of rb enc_zero, tiny_yes rb (Go.Cv.mul_zero Go.Fp.fld 8)⟩
theorem bl1 : encB.length = 32 := rfl
theorem bl2 : encZ.length = 32 := rfl
theorem bz32 : List.replicate 32 (Value.int .u8 0) = u8s (dig 256 32 0) := rfl
theorem bl3 : (dig 256 32 0).length = 32 := rfl
theorem bg0 : (u8s encB)[0]? = some (.int .u8 88) := rfl
theorem bg1 : (u8s encB)[1]? = some (.int .u8 102) := rfl
theorem bg2 : (u8s encB)[31]? = some (.int .u8 102) := rfl
theorem bf1 : fillL (u8s (dig 256 32 0)) [(0, 1, .int .u8 1)] = some (u8s encZ) := rfl
theorem bq : (encZ == encZ) = true := by decide
theorem based_w {U : Tab} (hU : U.fn 24 = some a24) {b z B Z O : List Nat} {c0 c1 c2 : Int} (h0 : (c0 == 88) = true) (h1 : (c1 == 102) = true) (h2 : (c2 == 102) = true) (hb : evVal U 25 [] = some (eV b)) (p1 : b.length = 20) (e1 : evVal U 29 [eV b] = some (.agg (u8s B).toArray)) (t1 : evVal U 39 [eV b] = some (.bool false))
    (hz : evVal U 30 [] = some (eV z)) (p2 : z.length = 20) (e2 : evVal U 29 [eV z] = some (.agg (u8s Z).toArray)) (t2 : evVal U 39 [eV z] = some (.bool true)) (l1 : B.length = 32) (l2 : Z.length = 32) (l3 : O.length = 32)
    (g0 : (u8s B)[0]? = some (.int .u8 c0)) (g1 : (u8s B)[1]? = some (.int .u8 c1)) (g2 : (u8s B)[31]? = some (.int .u8 c2)) (hz32 : List.replicate 32 (Value.int .u8 0) = u8s O) (f1 : fillL (u8s O) [(0, 1, .int .u8 1)] = some (u8s Z)) (q : (Z == Z) = true) : evVal U 24 [] = some (.bool true) := by
  apply evVal_ex
  apply Exists.intro
  rw [evFun_fn hU]
  simp only [a24, ↓steps_chunk, envOf, evCode_skip, evCode_exit, evCode_seq, fs_blockS, fs_blockR, fs_blockC, fs_blockK, fs_blockB, evCode_ret, quiet, keep_nil, keep_cons, fs_cond, fs_region, fs_regionQ, quiet2_eq, lastOf_nil, lastOf_cons, List.take_succ_cons, List.take_zero, List.drop_succ_cons, List.drop_zero, Int.reduceBEq, Int.reduceBNe,  fs_nil, fs_guard, fs_move, fs_pick, fs_alloc, fs_box, fs_load, fs_store, fs_bin, fs_eqv, fs_isNil, fs_un, fs_conv, fs_convStr, fs_field, fs_index, fs_indexStr, fs_build, fs_buildSlice, fs_fieldAddr, fs_indexAddr, fs_indexSl, fs_sliceArr, fs_sliceSl, fs_sliceStr, fs_makeSlice, fs_extract, fs_mkIface, fs_mkFunc, fs_nilCheck, fs_s2ap, fs_len, fs_minmax, fs_s2b, fs_b2s, fs_append, fs_copy, fs_callW, fs_callR, fs_callv, opd_tmp, opd_const, opd_func, opds_nil, opds_cons, opdOpt_none, opdOpt_some, opdParts_nil, opdParts_cons, get_miss, vPick_t, vPick_f, vEq_agg, vEq_aggN, vEq_bool, vEq_boolN, vConv_int, vStr_s, vField_agg, vIndex_agg, vIndexStr_s, vFieldAddr_p, vIndexAddr_p, vIndexSl_s, vSliceArr_p, vSliceSl_s, vSliceSl_n, vSliceStr_s, vExtract_t, vNilCheck_p, vS2ap_s, vLen_s, vLen_str, vMin_i, vMax_i, vLoad_p, vStore_p, baseP_p, vB2s_s, vMake_i, vS2b_s, callee_f, liveAt_eq, storeAt_eq, partL_none, partL_some, natIn_none, natIn_int, bounds3_two, bin_add, bin_sub, bin_mul, bin_quo, bin_rem, bin_and, bin_or, bin_xor, bin_andNot, bin_eql, bin_neq, bin_lss, bin_leq, bin_gtr, bin_geq, bin_shl, bin_shr, bin_sadd, bin_seql, bin_sneq, un_not, un_neg, un_xor, after_some, put_some, put_none, res_nil, res_val, res_var, packed_one, packed_two, merge_nil, merge_ge, rf_tup2, rfIn_int, rfIn_bool, rfIn_u8s, rf_str, rfIn_str, ↓gate_true, ↓guardW_tt, ↓guardW_ff, ↓guardW_tf, ↓guardW_ft, ↓keepW_some, ↓qElseW_some, ↓get_hit, ↓Option.bind_some, ↓if_true, ↓if_false, List.nil_append, List.cons_append, List.all_nil, List.all_cons, List.isEmpty_nil, reduceCtorEq, Bool.false_eq_true, Nat.reduceEqDiff, beq_self_eq_true, bne_self_eq_false, Bool.not_true, Bool.not_false, Int.natCast_nonneg, Nat.lt_irrefl, false_and, Int.reduceEq, rf_int, rf_bool, rf_tuple_ints, rf_u8s, arr_list, toList2, Bool.and_self, Nat.not_lt_zero, Nat.sub_zero, Nat.zero_le, Nat.le_add_right, cells_agg, cells_agg_size, cells_int, cells_int_size, okV_int, okV_bool, okV_str, okV_agg, okV_ptr, okV_slice, okV_func, okV_nilFunc, okV_iface, okV_nilIface, cells_bool, cells_bool_size, cells_ptr, cells_ptr_size, cells_slice, cells_slice_size, cells_str, cells_str_size, eq_self, wrapI64_small, Int.natCast_zero, Int.natCast_one, Int.cast_ofNat_Int, List.length_nil, List.length_cons, List.getElem?_cons_zero, List.getElem?_cons_succ, List.set_cons_zero, List.set_cons_succ, Nat.zero_add, Nat.add_zero, Nat.mul_one, Nat.zero_mul, Int.toNat_natCast, Int.toNat_zero, Int.lt_irrefl, Int.le_refl, Nat.le_refl, and_self, true_and, and_true, decide_true, decide_false, Int.reduceLE, Int.reduceLT, Int.reduceAdd, Int.reduceMul, Int.reduceSub, Int.reduceTDiv, Int.reduceTMod, Int.reduceNeg, Int.reduceToNat, Int.reduceGT, Int.reduceGE, Int.reducePow, Nat.reduceAdd, Nat.reduceMul, Nat.reduceSub, Nat.reduceDiv, Nat.reduceMod, Nat.reducePow, Nat.reduceLT, Nat.reduceLeDiff, Nat.min_self, ge_iff_le, gt_iff_lt, Option.isNone_none, Option.isSome_none, Option.isNone_some, Option.isSome_some, Bool.and_true, Bool.true_and, Bool.and_false, Bool.false_and, not_true_eq_false, not_false_eq_true, or_true, true_or, false_or, or_false, hget0, hgetK, hset0, hsetK, splice_single, splice_whole, take_whole, List.getElem?_nil, List.length_append, List.append_assoc, hz32, hb, hz, e1, e2, t1, t2, g0, g1, g2, h0, h1, h2, f1, q, cellsEq_u8, List.length_replicate, take_all, eV_cells, eV_size, eV_ok, eV_fold, ns_len, u8s_len, l1, l2, l3, p1, p2, rf_eV]
  rfl
theorem based_v : evVal T 24 [] = some (.bool true) := by
  obtain ⟨b, hb, p1, e1, t1⟩ := base_facts
  obtain ⟨z, hz, p2, e2, t2⟩ := zero_facts
  exact based_w (U := T) rfl (by decide) (by decide) (by decide) hb p1 e1 t1 hz p2 e2 t2 bl1 bl2 bl3 bg0 bg1 bg2 bz32 bf1 bq
end Go.Ev.Ytaceeoghjgggjaa

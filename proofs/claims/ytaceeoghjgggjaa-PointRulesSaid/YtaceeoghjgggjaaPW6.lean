/-
  field: Root.
-/
import Derived.Test.YtaceeoghjgggjaaPW5
set_option linter.unusedSimpArgs false
set_option linter.unusedVariables false
namespace Go.Ev.Ytaceeoghjgggjaa
open Go Go.Ev
attribute [local congr] bind_congr2 ite_congr2 qElse_congr gate_congr guardV_congr
set_option maxRecDepth 100000

/-! The plain law. -/
def rootW (u v : Go.Fp.Fe) : Go.Fp.Fe := u * (v * v * v) * Go.Fp.pow (u * (v * v * v) * (v * v * v) * v) (2 ^ 252 - 1 - 2)
def jj : Go.Fp.Fe := Go.Fp.pow 2 (2 ^ 253 - 1 - 4)
theorem jj_eq : jj = Go.Fp.i := by
  show Go.Fp.pow (Go.Fp.fp 2) _ = Go.Fp.fp Go.Fp.iN
  exact Go.Fp.pow_test (f := 256) (by decide +kernel) (by decide +kernel)
theorem jj_sq : jj * jj = -1 := by rw [jj_eq]; exact Go.Fp.root_i
theorem quarter : (2 ^ 252 - 1 - 2) + (2 ^ 252 - 1 - 2) + 1 + ((2 ^ 252 - 1 - 2) + (2 ^ 252 - 1 - 2) + 1) = (Go.Fp.P - 1) / 2 := by rw [Go.Fp.P_eq]
theorem no_root {u v s : Go.Fp.Fe} (h1 : v * rootW u v * rootW u v ≠ u) (h2 : v * rootW u v * rootW u v ≠ -u) : v * (s * s) ≠ u := fun hs => by
  have F := Go.Fp.fld
  obtain ⟨g, hg⟩ : ∃ g, g = v * v * v * v * s := ⟨_, rfl⟩
  have ht : u * (v * v * v) * (v * v * v) * v = g * g := by subst hg; subst hs; grobner
  rcases Go.Fp.pow_half g with h | h
  · obtain ⟨k, hk⟩ : ∃ k, k = 2 ^ 252 - 1 - 2 := ⟨_, rfl⟩
    have hq := quarter
    rw [← hk] at hq
    rw [← hq, Go.Fp.pow_add, Go.Fp.pow_add, Go.Fp.pow_add, Go.Fp.pow_one] at h
    have hw : rootW u v = u * (v * v * v) * Go.Fp.pow (g * g) k := by unfold rootW; rw [ht, hk]
    rw [hw] at h1 h2
    generalize Go.Fp.pow (g * g) k = q at *
    have he : (q * q * (g * g) - 1) * (q * q * (g * g) + 1) = 0 := by clear h1 h2 hw ht hg hs; grobner
    have hv : v * (u * (v * v * v) * q) * (u * (v * v * v) * q) = u * (q * q * (g * g)) := by clear h1 h2 hw hg hs he h; grobner
    rcases F.dom he with h | h
    · exact h1 (by rw [hv]; clear h1 h2 hw ht hg hs he hv; grobner)
    · exact h2 (by rw [hv]; clear h1 h2 hw ht hg hs he hv; grobner)
  · have hu : u * (v * v * v) * (v * v * v) * v = 0 := by rw [ht, h]; grobner
    have hu0 : u = 0 := by
      rcases F.dom hu with h0 | h0
      · rcases F.dom h0 with h0 | h0
        · rcases F.dom h0 with h0 | h0
          · exact h0
          · rcases F.dom h0 with h0 | h0
            · rcases F.dom h0 with h0 | h0 <;> (rw [← hs, h0]; grobner)
            · rw [← hs, h0]; grobner
        · rcases F.dom h0 with h0 | h0
          · rcases F.dom h0 with h0 | h0 <;> (rw [← hs, h0]; grobner)
          · rw [← hs, h0]; grobner
      · rw [← hs, h0]; grobner
    exact h1 (by unfold rootW; rw [hu0]; grobner)

theorem ones252 : evVal T 84 [.int .i64 252, .int .u8 2] = some (.agg (u8s (dig 256 32 (2 ^ 252 - 1 - 2))).toArray) := ones_v (n := 252) (less := 2) (by decide) (by decide) (by decide)
theorem ones253 : evVal T 84 [.int .i64 253, .int .u8 4] = some (.agg (u8s (dig 256 32 (2 ^ 253 - 1 - 4))).toArray) := ones_v (n := 253) (less := 4) (by decide) (by decide) (by decide)
/-- What is told of a root. -/
def rootV (r : List Nat) (ok : Bool) : Value := .tuple #[eV r, .bool ok]
theorem root_v {u v : List Nat} (Eu : El u (2 ^ 52)) (Ev : El v (2 ^ 52)) :
    ∃ r ok, evVal T 60 [eV u, eV v] = some (rootV r ok) ∧ El r (2 ^ 52) ∧ (ok = true → fe v * (fe r * fe r) = fe u ∧ ((fe r).val % 2 = 0 ∨ fe r = 0)) ∧ (ok = false → ∀ s, fe v * (s * s) ≠ fe u) := by
  obtain ⟨r1, hr1, Er1, fr1⟩ := prod_ev (H := [⟨ns .u64 u, true, true, true, 1⟩, ⟨ns .u64 v, true, true, true, 1⟩, ⟨ns .u64 [0, 0, 0, 0, 0], true, true, true, 1⟩, ⟨ns .u64 [v, v, v].flatten, true, true, true, 1⟩]) (id := 3) (n := 3) (xs := [v, v, v]) rfl (by decide) (by intro w hw; simp only [List.mem_cons, List.not_mem_nil, or_false] at hw; rcases hw with rfl | rfl | rfl <;> assumption) rfl
  simp only [List.map_cons, List.map_nil, List.cons_append, List.nil_append] at hr1
  simp only [List.map_cons, List.map_nil, List.foldl_cons, List.foldl_nil] at fr1
  obtain ⟨r2, hr2, Er2, fr2⟩ := prod_ev (H := [⟨ns .u64 u, true, true, true, 1⟩, ⟨ns .u64 v, true, true, true, 1⟩, ⟨ns .u64 [0, 0, 0, 0, 0], true, true, true, 1⟩, ⟨ns .u64 [v, v, v].flatten, true, true, true, 1⟩, ⟨ns .u64 r1, true, true, true, 1⟩, ⟨ns .u64 r1, true, true, true, 1⟩, ⟨ns .u64 v, true, true, true, 1⟩, ⟨ns .u64 v, true, true, true, 1⟩, ⟨ns .u64 v, true, true, true, 1⟩, ⟨ns .u64 r1, true, true, true, 1⟩, ⟨ns .u64 [u, r1, r1, v].flatten, true, true, true, 1⟩]) (id := 10) (n := 4) (xs := [u, r1, r1, v]) rfl (by decide) (by intro w hw; simp only [List.mem_cons, List.not_mem_nil, or_false] at hw; rcases hw with rfl | rfl | rfl | rfl <;> assumption) rfl
  simp only [List.map_cons, List.map_nil, List.cons_append, List.nil_append] at hr2
  simp only [List.map_cons, List.map_nil, List.foldl_cons, List.foldl_nil] at fr2
  obtain ⟨r3, hr3, Er3, fr3⟩ := power_ones (n := 252) (less := 2) Er2 (by decide) (by decide) (by decide)
  obtain ⟨r4, hr4, Er4, fr4⟩ := prod_ev (H := [⟨ns .u64 u, true, true, true, 1⟩, ⟨ns .u64 v, true, true, true, 1⟩, ⟨ns .u64 [0, 0, 0, 0, 0], true, true, true, 1⟩, ⟨ns .u64 [v, v, v].flatten, true, true, true, 1⟩, ⟨ns .u64 r1, true, true, true, 1⟩, ⟨ns .u64 r1, true, true, true, 1⟩, ⟨ns .u64 v, true, true, true, 1⟩, ⟨ns .u64 v, true, true, true, 1⟩, ⟨ns .u64 v, true, true, true, 1⟩, ⟨ns .u64 r1, true, true, true, 1⟩, ⟨ns .u64 [u, r1, r1, v].flatten, true, true, true, 1⟩, ⟨ns .u64 r2, true, true, true, 1⟩, ⟨ns .u64 r2, true, true, true, 1⟩, ⟨ns .u64 u, true, true, true, 1⟩, ⟨ns .u64 r1, true, true, true, 1⟩, ⟨ns .u64 r1, true, true, true, 1⟩, ⟨ns .u64 v, true, true, true, 1⟩, ⟨ns .u64 [u, r1, r3].flatten, true, true, true, 1⟩]) (id := 17) (n := 3) (xs := [u, r1, r3]) rfl (by decide) (by intro w hw; simp only [List.mem_cons, List.not_mem_nil, or_false] at hw; rcases hw with rfl | rfl | rfl <;> assumption) rfl
  simp only [List.map_cons, List.map_nil, List.cons_append, List.nil_append] at hr4
  simp only [List.map_cons, List.map_nil, List.foldl_cons, List.foldl_nil] at fr4
  obtain ⟨r5, hr5, Er5, fr5⟩ := prod_ev (H := [⟨ns .u64 u, true, true, true, 1⟩, ⟨ns .u64 v, true, true, true, 1⟩, ⟨ns .u64 [0, 0, 0, 0, 0], true, true, true, 1⟩, ⟨ns .u64 [v, v, v].flatten, true, true, true, 1⟩, ⟨ns .u64 r1, true, true, true, 1⟩, ⟨ns .u64 r1, true, true, true, 1⟩, ⟨ns .u64 v, true, true, true, 1⟩, ⟨ns .u64 v, true, true, true, 1⟩, ⟨ns .u64 v, true, true, true, 1⟩, ⟨ns .u64 r1, true, true, true, 1⟩, ⟨ns .u64 [u, r1, r1, v].flatten, true, true, true, 1⟩, ⟨ns .u64 r2, true, true, true, 1⟩, ⟨ns .u64 r2, true, true, true, 1⟩, ⟨ns .u64 u, true, true, true, 1⟩, ⟨ns .u64 r1, true, true, true, 1⟩, ⟨ns .u64 r1, true, true, true, 1⟩, ⟨ns .u64 v, true, true, true, 1⟩, ⟨ns .u64 [u, r1, r3].flatten, true, true, true, 1⟩, ⟨ns .u64 r4, true, true, true, 1⟩, ⟨ns .u64 r4, true, true, true, 1⟩, ⟨ns .u64 u, true, true, true, 1⟩, ⟨ns .u64 r1, true, true, true, 1⟩, ⟨ns .u64 r3, true, true, true, 1⟩, ⟨ns .u64 r4, true, true, true, 1⟩, ⟨ns .u64 [v, r4, r4].flatten, true, true, true, 1⟩]) (id := 24) (n := 3) (xs := [v, r4, r4]) rfl (by decide) (by intro w hw; simp only [List.mem_cons, List.not_mem_nil, or_false] at hw; rcases hw with rfl | rfl | rfl <;> assumption) rfl
  simp only [List.map_cons, List.map_nil, List.cons_append, List.nil_append] at hr5
  simp only [List.map_cons, List.map_nil, List.foldl_cons, List.foldl_nil] at fr5
  have k1 := eq_v Er5 Eu
  obtain ⟨nu, hnu, Enu, fnu⟩ := neg_v Eu
  have k2 := eq_v Er5 Enu
  obtain ⟨two, htwo⟩ : ∃ two : List Nat, two = [2, 0, 0, 0, 0] := ⟨_, rfl⟩
  have Etwo : El two (2 ^ 52) := by rw [htwo]; exact two_E
  have vtwo : evVal T 50 [.int .u32 2] = some (eV two) := by rw [htwo]; exact two_v
  have ftwo : fe two = 2 := by rw [htwo]; exact two_fe
  clear htwo
  obtain ⟨j, hj, Ej, fj⟩ := power_ones (n := 253) (less := 4) Etwo (by decide) (by decide) (by decide)
  obtain ⟨q, hq, Eq, fq⟩ := mul_ev Er4 Ej
  obtain ⟨n1, hn1, En1, fn1⟩ := neg_v Er4
  obtain ⟨n2, hn2, En2, fn2⟩ := neg_v Eq
  have o1 := odd_v Er4
  have o2 := odd_v Eq
  have c1 := ones252
  have c2 := ones253
  have g1 := fill3 Ev Ev Ev
  have g2 := fill4 Eu Er1 Er1 Ev
  rw [pL_flat] at g2
  have g3 := fill3 Eu Er1 Er3
  have g4 := fill3 Ev Er4 Er4
  have hw : fe r4 = rootW (fe u) (fe v) := by
    rw [fr4, fr3, fr1, fr2, fr1]; unfold rootW
    rw [show (1 * fe u * (1 * fe v * fe v * fe v) * (1 * fe v * fe v * fe v) * fe v) = fe u * (fe v * fe v * fe v) * (fe v * fe v * fe v) * fe v from by grobner]
    generalize Go.Fp.pow _ _ = p
    grobner
  have hjj : fe j = jj := by rw [fj, ftwo]; rfl
  have l1 := Eu.len
  have l2 := Ev.len
  have l3 := Er1.len
  have l4 := Er4.len
  have l5 := Er5.len
  have l6 := Eq.len
  have l7 := En1.len
  have l8 := En2.len
  have hz5 : List.replicate 5 (Value.int .u64 0) = ns .u64 [0, 0, 0, 0, 0] := rfl
  have hf5 : fillL (ns .u64 [0, 0, 0, 0, 0]) [] = some (ns .u64 [0, 0, 0, 0, 0]) := rfl
  have l0 : ([0, 0, 0, 0, 0] : List Nat).length = 5 := rfl
  clear Ej Etwo ftwo fj
  generalize dig 256 32 (2 ^ 252 - 1 - 2) = K1 at *
  generalize dig 256 32 (2 ^ 253 - 1 - 4) = K2 at *
  have hsq : fe r5 = fe v * rootW (fe u) (fe v) * rootW (fe u) (fe v) := by rw [fr5, hw]; generalize rootW (fe u) (fe v) = w; grobner
  have evn : ∀ a : Go.Fp.Fe, a.val % 2 = 1 → (-a).val % 2 = 0 ∨ -a = 0 := by
    intro a ha
    left
    have hlt := a.isLt
    have h0 : (Go.Fp.P - a.val) < Go.Fp.P := by omega
    have h1 : (-a).val = (Go.Fp.P - a.val) % Go.Fp.P := rfl
    rw [h1, Nat.mod_eq_of_lt h0]
    have hP : Go.Fp.P % 2 = 1 := by rw [Go.Fp.P_eq]
    omega
  by_cases hA : fe r5 = fe u
  · rw [decide_eq_true hA] at k1
    have hroot : fe v * (fe r4 * fe r4) = fe u := by rw [← hA, hsq, hw]; generalize rootW (fe u) (fe v) = w; grobner
    by_cases hO : (fe r4).val % 2 = 1
    · rw [decide_eq_true hO] at o1
      refine ⟨n1, true, ?_, En1, fun _ => ⟨?_, ?_⟩, fun h => by cases h⟩
      · apply evVal_ex
        apply Exists.intro
        rw [evFun_fn (fn := a60) rfl]
        simp only [a60, envOf, evCode_skip, evCode_exit, evCode_seq, fs_blockS, fs_blockR, fs_blockC, fs_blockK, fs_blockB, evCode_ret, quiet, keep_nil, keep_cons, fs_cond, fs_region, fs_regionQ, quiet2_eq, lastOf_nil, lastOf_cons, List.take_succ_cons, List.take_zero, List.drop_succ_cons, List.drop_zero, Int.reduceBEq, Int.reduceBNe,  fs_nil, fs_guard, fs_move, fs_pick, fs_alloc, fs_box, fs_load, fs_store, fs_bin, fs_eqv, fs_isNil, fs_un, fs_conv, fs_convStr, fs_field, fs_index, fs_indexStr, fs_build, fs_buildSlice, fs_fieldAddr, fs_indexAddr, fs_indexSl, fs_sliceArr, fs_sliceSl, fs_sliceStr, fs_makeSlice, fs_extract, fs_mkIface, fs_mkFunc, fs_nilCheck, fs_s2ap, fs_len, fs_minmax, fs_s2b, fs_b2s, fs_append, fs_copy, fs_callW, fs_callR, fs_callv, opd_tmp, opd_const, opd_func, opds_nil, opds_cons, opdOpt_none, opdOpt_some, opdParts_nil, opdParts_cons, get_miss, vPick_t, vPick_f, vEq_agg, vEq_aggN, vEq_bool, vEq_boolN, vConv_int, vStr_s, vField_agg, vIndex_agg, vIndexStr_s, vFieldAddr_p, vIndexAddr_p, vIndexSl_s, vSliceArr_p, vSliceSl_s, vSliceSl_n, vSliceStr_s, vExtract_t, vNilCheck_p, vS2ap_s, vLen_s, vLen_str, vMin_i, vMax_i, vLoad_p, vStore_p, baseP_p, vB2s_s, vMake_i, vS2b_s, callee_f, liveAt_eq, storeAt_eq, partL_none, partL_some, natIn_none, natIn_int, bounds3_two, bin_add, bin_sub, bin_mul, bin_quo, bin_rem, bin_and, bin_or, bin_xor, bin_andNot, bin_eql, bin_neq, bin_lss, bin_leq, bin_gtr, bin_geq, bin_shl, bin_shr, bin_sadd, bin_seql, bin_sneq, un_not, un_neg, un_xor, after_some, put_some, put_none, res_nil, res_val, res_var, packed_one, packed_two, merge_nil, merge_ge, rf_tup2, rfIn_int, rfIn_bool, rfIn_u8s, rf_str, rfIn_str, ↓gate_true, ↓guardV_tt, ↓guardV_ff, ↓guardV_tf, ↓guardV_ft, ↓keepV_some, ↓qElse_some, ↓get_hit, ↓Option.bind_some, ↓if_true, ↓if_false, List.nil_append, List.cons_append, List.all_nil, List.all_cons, List.isEmpty_nil, reduceCtorEq, Bool.false_eq_true, Nat.reduceEqDiff, beq_self_eq_true, bne_self_eq_false, Bool.not_true, Bool.not_false, Int.natCast_nonneg, Nat.lt_irrefl, false_and, Int.reduceEq, rf_int, rf_bool, rf_tuple_ints, rf_u8s, arr_list, toList2, Bool.and_self, Nat.not_lt_zero, Nat.sub_zero, Nat.zero_le, Nat.le_add_right, cells_agg, cells_agg_size, cells_int, cells_int_size, okV_int, okV_bool, okV_str, okV_agg, okV_ptr, okV_slice, okV_func, okV_nilFunc, okV_iface, okV_nilIface, cells_bool, cells_bool_size, cells_ptr, cells_ptr_size, cells_slice, cells_slice_size, cells_str, cells_str_size, eq_self, wrapI64_small, Int.natCast_zero, Int.natCast_one, Int.cast_ofNat_Int, List.length_nil, List.length_cons, List.getElem?_cons_zero, List.getElem?_cons_succ, List.set_cons_zero, List.set_cons_succ, Nat.zero_add, Nat.add_zero, Nat.mul_one, Nat.zero_mul, Int.toNat_natCast, Int.toNat_zero, Int.lt_irrefl, Int.le_refl, Nat.le_refl, and_self, true_and, and_true, decide_true, decide_false, Int.reduceLE, Int.reduceLT, Int.reduceAdd, Int.reduceMul, Int.reduceSub, Int.reduceTDiv, Int.reduceTMod, Int.reduceNeg, Int.reduceToNat, Int.reduceGT, Int.reduceGE, Int.reducePow, Nat.reduceAdd, Nat.reduceMul, Nat.reduceSub, Nat.reduceDiv, Nat.reduceMod, Nat.reducePow, Nat.reduceLT, Nat.reduceLeDiff, Nat.min_self, ge_iff_le, gt_iff_lt, Option.isNone_none, Option.isSome_none, Option.isNone_some, Option.isSome_some, Bool.and_true, Bool.true_and, Bool.and_false, Bool.false_and, not_true_eq_false, not_false_eq_true, or_true, true_or, false_or, or_false, hget0, hgetK, hset0, hsetK, splice_single, splice_whole, take_whole, List.getElem?_nil, List.length_append, List.append_assoc, hz5, hf5, l0, g1, g2, g3, g4, c1, c2, hr1, hr2, hr3, hr4, hr5, k1, o1, hn1, l1, l2, l3, l4, l5, l7, List.length_replicate, take_all, eV_cells, eV_size, eV_ok, eV_fold, ns_len, rf_eV]
        rfl
      · rw [fn1, ← hroot]; generalize fe r4 = w; grobner
      · rw [fn1]; exact evn _ hO
    · rw [decide_eq_false hO] at o1
      refine ⟨r4, true, ?_, Er4, fun _ => ⟨hroot, by left; omega⟩, fun h => by cases h⟩
      apply evVal_ex
      apply Exists.intro
      rw [evFun_fn (fn := a60) rfl]
      simp only [a60, envOf, evCode_skip, evCode_exit, evCode_seq, fs_blockS, fs_blockR, fs_blockC, fs_blockK, fs_blockB, evCode_ret, quiet, keep_nil, keep_cons, fs_cond, fs_region, fs_regionQ, quiet2_eq, lastOf_nil, lastOf_cons, List.take_succ_cons, List.take_zero, List.drop_succ_cons, List.drop_zero, Int.reduceBEq, Int.reduceBNe,  fs_nil, fs_guard, fs_move, fs_pick, fs_alloc, fs_box, fs_load, fs_store, fs_bin, fs_eqv, fs_isNil, fs_un, fs_conv, fs_convStr, fs_field, fs_index, fs_indexStr, fs_build, fs_buildSlice, fs_fieldAddr, fs_indexAddr, fs_indexSl, fs_sliceArr, fs_sliceSl, fs_sliceStr, fs_makeSlice, fs_extract, fs_mkIface, fs_mkFunc, fs_nilCheck, fs_s2ap, fs_len, fs_minmax, fs_s2b, fs_b2s, fs_append, fs_copy, fs_callW, fs_callR, fs_callv, opd_tmp, opd_const, opd_func, opds_nil, opds_cons, opdOpt_none, opdOpt_some, opdParts_nil, opdParts_cons, get_miss, vPick_t, vPick_f, vEq_agg, vEq_aggN, vEq_bool, vEq_boolN, vConv_int, vStr_s, vField_agg, vIndex_agg, vIndexStr_s, vFieldAddr_p, vIndexAddr_p, vIndexSl_s, vSliceArr_p, vSliceSl_s, vSliceSl_n, vSliceStr_s, vExtract_t, vNilCheck_p, vS2ap_s, vLen_s, vLen_str, vMin_i, vMax_i, vLoad_p, vStore_p, baseP_p, vB2s_s, vMake_i, vS2b_s, callee_f, liveAt_eq, storeAt_eq, partL_none, partL_some, natIn_none, natIn_int, bounds3_two, bin_add, bin_sub, bin_mul, bin_quo, bin_rem, bin_and, bin_or, bin_xor, bin_andNot, bin_eql, bin_neq, bin_lss, bin_leq, bin_gtr, bin_geq, bin_shl, bin_shr, bin_sadd, bin_seql, bin_sneq, un_not, un_neg, un_xor, after_some, put_some, put_none, res_nil, res_val, res_var, packed_one, packed_two, merge_nil, merge_ge, rf_tup2, rfIn_int, rfIn_bool, rfIn_u8s, rf_str, rfIn_str, ↓gate_true, ↓guardV_tt, ↓guardV_ff, ↓guardV_tf, ↓guardV_ft, ↓keepV_some, ↓qElse_some, ↓get_hit, ↓Option.bind_some, ↓if_true, ↓if_false, List.nil_append, List.cons_append, List.all_nil, List.all_cons, List.isEmpty_nil, reduceCtorEq, Bool.false_eq_true, Nat.reduceEqDiff, beq_self_eq_true, bne_self_eq_false, Bool.not_true, Bool.not_false, Int.natCast_nonneg, Nat.lt_irrefl, false_and, Int.reduceEq, rf_int, rf_bool, rf_tuple_ints, rf_u8s, arr_list, toList2, Bool.and_self, Nat.not_lt_zero, Nat.sub_zero, Nat.zero_le, Nat.le_add_right, cells_agg, cells_agg_size, cells_int, cells_int_size, okV_int, okV_bool, okV_str, okV_agg, okV_ptr, okV_slice, okV_func, okV_nilFunc, okV_iface, okV_nilIface, cells_bool, cells_bool_size, cells_ptr, cells_ptr_size, cells_slice, cells_slice_size, cells_str, cells_str_size, eq_self, wrapI64_small, Int.natCast_zero, Int.natCast_one, Int.cast_ofNat_Int, List.length_nil, List.length_cons, List.getElem?_cons_zero, List.getElem?_cons_succ, List.set_cons_zero, List.set_cons_succ, Nat.zero_add, Nat.add_zero, Nat.mul_one, Nat.zero_mul, Int.toNat_natCast, Int.toNat_zero, Int.lt_irrefl, Int.le_refl, Nat.le_refl, and_self, true_and, and_true, decide_true, decide_false, Int.reduceLE, Int.reduceLT, Int.reduceAdd, Int.reduceMul, Int.reduceSub, Int.reduceTDiv, Int.reduceTMod, Int.reduceNeg, Int.reduceToNat, Int.reduceGT, Int.reduceGE, Int.reducePow, Nat.reduceAdd, Nat.reduceMul, Nat.reduceSub, Nat.reduceDiv, Nat.reduceMod, Nat.reducePow, Nat.reduceLT, Nat.reduceLeDiff, Nat.min_self, ge_iff_le, gt_iff_lt, Option.isNone_none, Option.isSome_none, Option.isNone_some, Option.isSome_some, Bool.and_true, Bool.true_and, Bool.and_false, Bool.false_and, not_true_eq_false, not_false_eq_true, or_true, true_or, false_or, or_false, hget0, hgetK, hset0, hsetK, splice_single, splice_whole, take_whole, List.getElem?_nil, List.length_append, List.append_assoc, hz5, hf5, l0, g1, g2, g3, g4, c1, c2, hr1, hr2, hr3, hr4, hr5, k1, o1, hn1, l1, l2, l3, l4, l5, l7, List.length_replicate, take_all, eV_cells, eV_size, eV_ok, eV_fold, ns_len, rf_eV]
      rfl
  · rw [decide_eq_false hA] at k1
    by_cases hB : fe r5 = fe nu
    · rw [decide_eq_true hB] at k2
      have hroot : fe v * (fe q * fe q) = fe u := by
        have hs := jj_sq
        rw [hsq, fnu] at hB
        rw [fq, hw, hjj]
        generalize rootW (fe u) (fe v) = w at *
        clear k1 k2 o1 o2 c1 c2 hA hsq hw fr1 fr2 fr3 fr4 fr5
        grobner
      by_cases hO : (fe q).val % 2 = 1
      · rw [decide_eq_true hO] at o2
        refine ⟨n2, true, ?_, En2, fun _ => ⟨?_, ?_⟩, fun h => by cases h⟩
        · apply evVal_ex
          apply Exists.intro
          rw [evFun_fn (fn := a60) rfl]
          simp only [a60, envOf, evCode_skip, evCode_exit, evCode_seq, fs_blockS, fs_blockR, fs_blockC, fs_blockK, fs_blockB, evCode_ret, quiet, keep_nil, keep_cons, fs_cond, fs_region, fs_regionQ, quiet2_eq, lastOf_nil, lastOf_cons, List.take_succ_cons, List.take_zero, List.drop_succ_cons, List.drop_zero, Int.reduceBEq, Int.reduceBNe,  fs_nil, fs_guard, fs_move, fs_pick, fs_alloc, fs_box, fs_load, fs_store, fs_bin, fs_eqv, fs_isNil, fs_un, fs_conv, fs_convStr, fs_field, fs_index, fs_indexStr, fs_build, fs_buildSlice, fs_fieldAddr, fs_indexAddr, fs_indexSl, fs_sliceArr, fs_sliceSl, fs_sliceStr, fs_makeSlice, fs_extract, fs_mkIface, fs_mkFunc, fs_nilCheck, fs_s2ap, fs_len, fs_minmax, fs_s2b, fs_b2s, fs_append, fs_copy, fs_callW, fs_callR, fs_callv, opd_tmp, opd_const, opd_func, opds_nil, opds_cons, opdOpt_none, opdOpt_some, opdParts_nil, opdParts_cons, get_miss, vPick_t, vPick_f, vEq_agg, vEq_aggN, vEq_bool, vEq_boolN, vConv_int, vStr_s, vField_agg, vIndex_agg, vIndexStr_s, vFieldAddr_p, vIndexAddr_p, vIndexSl_s, vSliceArr_p, vSliceSl_s, vSliceSl_n, vSliceStr_s, vExtract_t, vNilCheck_p, vS2ap_s, vLen_s, vLen_str, vMin_i, vMax_i, vLoad_p, vStore_p, baseP_p, vB2s_s, vMake_i, vS2b_s, callee_f, liveAt_eq, storeAt_eq, partL_none, partL_some, natIn_none, natIn_int, bounds3_two, bin_add, bin_sub, bin_mul, bin_quo, bin_rem, bin_and, bin_or, bin_xor, bin_andNot, bin_eql, bin_neq, bin_lss, bin_leq, bin_gtr, bin_geq, bin_shl, bin_shr, bin_sadd, bin_seql, bin_sneq, un_not, un_neg, un_xor, after_some, put_some, put_none, res_nil, res_val, res_var, packed_one, packed_two, merge_nil, merge_ge, rf_tup2, rfIn_int, rfIn_bool, rfIn_u8s, rf_str, rfIn_str, ↓gate_true, ↓guardV_tt, ↓guardV_ff, ↓guardV_tf, ↓guardV_ft, ↓keepV_some, ↓qElse_some, ↓get_hit, ↓Option.bind_some, ↓if_true, ↓if_false, List.nil_append, List.cons_append, List.all_nil, List.all_cons, List.isEmpty_nil, reduceCtorEq, Bool.false_eq_true, Nat.reduceEqDiff, beq_self_eq_true, bne_self_eq_false, Bool.not_true, Bool.not_false, Int.natCast_nonneg, Nat.lt_irrefl, false_and, Int.reduceEq, rf_int, rf_bool, rf_tuple_ints, rf_u8s, arr_list, toList2, Bool.and_self, Nat.not_lt_zero, Nat.sub_zero, Nat.zero_le, Nat.le_add_right, cells_agg, cells_agg_size, cells_int, cells_int_size, okV_int, okV_bool, okV_str, okV_agg, okV_ptr, okV_slice, okV_func, okV_nilFunc, okV_iface, okV_nilIface, cells_bool, cells_bool_size, cells_ptr, cells_ptr_size, cells_slice, cells_slice_size, cells_str, cells_str_size, eq_self, wrapI64_small, Int.natCast_zero, Int.natCast_one, Int.cast_ofNat_Int, List.length_nil, List.length_cons, List.getElem?_cons_zero, List.getElem?_cons_succ, List.set_cons_zero, List.set_cons_succ, Nat.zero_add, Nat.add_zero, Nat.mul_one, Nat.zero_mul, Int.toNat_natCast, Int.toNat_zero, Int.lt_irrefl, Int.le_refl, Nat.le_refl, and_self, true_and, and_true, decide_true, decide_false, Int.reduceLE, Int.reduceLT, Int.reduceAdd, Int.reduceMul, Int.reduceSub, Int.reduceTDiv, Int.reduceTMod, Int.reduceNeg, Int.reduceToNat, Int.reduceGT, Int.reduceGE, Int.reducePow, Nat.reduceAdd, Nat.reduceMul, Nat.reduceSub, Nat.reduceDiv, Nat.reduceMod, Nat.reducePow, Nat.reduceLT, Nat.reduceLeDiff, Nat.min_self, ge_iff_le, gt_iff_lt, Option.isNone_none, Option.isSome_none, Option.isNone_some, Option.isSome_some, Bool.and_true, Bool.true_and, Bool.and_false, Bool.false_and, not_true_eq_false, not_false_eq_true, or_true, true_or, false_or, or_false, hget0, hgetK, hset0, hsetK, splice_single, splice_whole, take_whole, List.getElem?_nil, List.length_append, List.append_assoc, hz5, hf5, l0, g1, g2, g3, g4, c1, c2, hr1, hr2, hr3, hr4, hr5, k1, k2, hnu, vtwo, hj, hq, o2, hn2, l1, l2, l3, l4, l5, l6, l8, List.length_replicate, take_all, eV_cells, eV_size, eV_ok, eV_fold, ns_len, rf_eV]
          rfl
        · rw [fn2, ← hroot]; generalize fe q = w; grobner
        · rw [fn2]; exact evn _ hO
      · rw [decide_eq_false hO] at o2
        refine ⟨q, true, ?_, Eq, fun _ => ⟨hroot, by left; omega⟩, fun h => by cases h⟩
        apply evVal_ex
        apply Exists.intro
        rw [evFun_fn (fn := a60) rfl]
        simp only [a60, envOf, evCode_skip, evCode_exit, evCode_seq, fs_blockS, fs_blockR, fs_blockC, fs_blockK, fs_blockB, evCode_ret, quiet, keep_nil, keep_cons, fs_cond, fs_region, fs_regionQ, quiet2_eq, lastOf_nil, lastOf_cons, List.take_succ_cons, List.take_zero, List.drop_succ_cons, List.drop_zero, Int.reduceBEq, Int.reduceBNe,  fs_nil, fs_guard, fs_move, fs_pick, fs_alloc, fs_box, fs_load, fs_store, fs_bin, fs_eqv, fs_isNil, fs_un, fs_conv, fs_convStr, fs_field, fs_index, fs_indexStr, fs_build, fs_buildSlice, fs_fieldAddr, fs_indexAddr, fs_indexSl, fs_sliceArr, fs_sliceSl, fs_sliceStr, fs_makeSlice, fs_extract, fs_mkIface, fs_mkFunc, fs_nilCheck, fs_s2ap, fs_len, fs_minmax, fs_s2b, fs_b2s, fs_append, fs_copy, fs_callW, fs_callR, fs_callv, opd_tmp, opd_const, opd_func, opds_nil, opds_cons, opdOpt_none, opdOpt_some, opdParts_nil, opdParts_cons, get_miss, vPick_t, vPick_f, vEq_agg, vEq_aggN, vEq_bool, vEq_boolN, vConv_int, vStr_s, vField_agg, vIndex_agg, vIndexStr_s, vFieldAddr_p, vIndexAddr_p, vIndexSl_s, vSliceArr_p, vSliceSl_s, vSliceSl_n, vSliceStr_s, vExtract_t, vNilCheck_p, vS2ap_s, vLen_s, vLen_str, vMin_i, vMax_i, vLoad_p, vStore_p, baseP_p, vB2s_s, vMake_i, vS2b_s, callee_f, liveAt_eq, storeAt_eq, partL_none, partL_some, natIn_none, natIn_int, bounds3_two, bin_add, bin_sub, bin_mul, bin_quo, bin_rem, bin_and, bin_or, bin_xor, bin_andNot, bin_eql, bin_neq, bin_lss, bin_leq, bin_gtr, bin_geq, bin_shl, bin_shr, bin_sadd, bin_seql, bin_sneq, un_not, un_neg, un_xor, after_some, put_some, put_none, res_nil, res_val, res_var, packed_one, packed_two, merge_nil, merge_ge, rf_tup2, rfIn_int, rfIn_bool, rfIn_u8s, rf_str, rfIn_str, ↓gate_true, ↓guardV_tt, ↓guardV_ff, ↓guardV_tf, ↓guardV_ft, ↓keepV_some, ↓qElse_some, ↓get_hit, ↓Option.bind_some, ↓if_true, ↓if_false, List.nil_append, List.cons_append, List.all_nil, List.all_cons, List.isEmpty_nil, reduceCtorEq, Bool.false_eq_true, Nat.reduceEqDiff, beq_self_eq_true, bne_self_eq_false, Bool.not_true, Bool.not_false, Int.natCast_nonneg, Nat.lt_irrefl, false_and, Int.reduceEq, rf_int, rf_bool, rf_tuple_ints, rf_u8s, arr_list, toList2, Bool.and_self, Nat.not_lt_zero, Nat.sub_zero, Nat.zero_le, Nat.le_add_right, cells_agg, cells_agg_size, cells_int, cells_int_size, okV_int, okV_bool, okV_str, okV_agg, okV_ptr, okV_slice, okV_func, okV_nilFunc, okV_iface, okV_nilIface, cells_bool, cells_bool_size, cells_ptr, cells_ptr_size, cells_slice, cells_slice_size, cells_str, cells_str_size, eq_self, wrapI64_small, Int.natCast_zero, Int.natCast_one, Int.cast_ofNat_Int, List.length_nil, List.length_cons, List.getElem?_cons_zero, List.getElem?_cons_succ, List.set_cons_zero, List.set_cons_succ, Nat.zero_add, Nat.add_zero, Nat.mul_one, Nat.zero_mul, Int.toNat_natCast, Int.toNat_zero, Int.lt_irrefl, Int.le_refl, Nat.le_refl, and_self, true_and, and_true, decide_true, decide_false, Int.reduceLE, Int.reduceLT, Int.reduceAdd, Int.reduceMul, Int.reduceSub, Int.reduceTDiv, Int.reduceTMod, Int.reduceNeg, Int.reduceToNat, Int.reduceGT, Int.reduceGE, Int.reducePow, Nat.reduceAdd, Nat.reduceMul, Nat.reduceSub, Nat.reduceDiv, Nat.reduceMod, Nat.reducePow, Nat.reduceLT, Nat.reduceLeDiff, Nat.min_self, ge_iff_le, gt_iff_lt, Option.isNone_none, Option.isSome_none, Option.isNone_some, Option.isSome_some, Bool.and_true, Bool.true_and, Bool.and_false, Bool.false_and, not_true_eq_false, not_false_eq_true, or_true, true_or, false_or, or_false, hget0, hgetK, hset0, hsetK, splice_single, splice_whole, take_whole, List.getElem?_nil, List.length_append, List.append_assoc, hz5, hf5, l0, g1, g2, g3, g4, c1, c2, hr1, hr2, hr3, hr4, hr5, k1, k2, hnu, vtwo, hj, hq, o2, hn2, l1, l2, l3, l4, l5, l6, l8, List.length_replicate, take_all, eV_cells, eV_size, eV_ok, eV_fold, ns_len, rf_eV]
        rfl
    · rw [decide_eq_false hB] at k2
      refine ⟨[0, 0, 0, 0, 0], false, ?_, zero_el5, fun h => (by cases h), fun _ s => no_root (by rw [← hsq]; exact hA) (by rw [← hsq, ← fnu]; exact hB)⟩
      apply evVal_ex
      apply Exists.intro
      rw [evFun_fn (fn := a60) rfl]
      simp only [a60, envOf, evCode_skip, evCode_exit, evCode_seq, fs_blockS, fs_blockR, fs_blockC, fs_blockK, fs_blockB, evCode_ret, quiet, keep_nil, keep_cons, fs_cond, fs_region, fs_regionQ, quiet2_eq, lastOf_nil, lastOf_cons, List.take_succ_cons, List.take_zero, List.drop_succ_cons, List.drop_zero, Int.reduceBEq, Int.reduceBNe,  fs_nil, fs_guard, fs_move, fs_pick, fs_alloc, fs_box, fs_load, fs_store, fs_bin, fs_eqv, fs_isNil, fs_un, fs_conv, fs_convStr, fs_field, fs_index, fs_indexStr, fs_build, fs_buildSlice, fs_fieldAddr, fs_indexAddr, fs_indexSl, fs_sliceArr, fs_sliceSl, fs_sliceStr, fs_makeSlice, fs_extract, fs_mkIface, fs_mkFunc, fs_nilCheck, fs_s2ap, fs_len, fs_minmax, fs_s2b, fs_b2s, fs_append, fs_copy, fs_callW, fs_callR, fs_callv, opd_tmp, opd_const, opd_func, opds_nil, opds_cons, opdOpt_none, opdOpt_some, opdParts_nil, opdParts_cons, get_miss, vPick_t, vPick_f, vEq_agg, vEq_aggN, vEq_bool, vEq_boolN, vConv_int, vStr_s, vField_agg, vIndex_agg, vIndexStr_s, vFieldAddr_p, vIndexAddr_p, vIndexSl_s, vSliceArr_p, vSliceSl_s, vSliceSl_n, vSliceStr_s, vExtract_t, vNilCheck_p, vS2ap_s, vLen_s, vLen_str, vMin_i, vMax_i, vLoad_p, vStore_p, baseP_p, vB2s_s, vMake_i, vS2b_s, callee_f, liveAt_eq, storeAt_eq, partL_none, partL_some, natIn_none, natIn_int, bounds3_two, bin_add, bin_sub, bin_mul, bin_quo, bin_rem, bin_and, bin_or, bin_xor, bin_andNot, bin_eql, bin_neq, bin_lss, bin_leq, bin_gtr, bin_geq, bin_shl, bin_shr, bin_sadd, bin_seql, bin_sneq, un_not, un_neg, un_xor, after_some, put_some, put_none, res_nil, res_val, res_var, packed_one, packed_two, merge_nil, merge_ge, rf_tup2, rfIn_int, rfIn_bool, rfIn_u8s, rf_str, rfIn_str, ↓gate_true, ↓guardV_tt, ↓guardV_ff, ↓guardV_tf, ↓guardV_ft, ↓keepV_some, ↓qElse_some, ↓get_hit, ↓Option.bind_some, ↓if_true, ↓if_false, List.nil_append, List.cons_append, List.all_nil, List.all_cons, List.isEmpty_nil, reduceCtorEq, Bool.false_eq_true, Nat.reduceEqDiff, beq_self_eq_true, bne_self_eq_false, Bool.not_true, Bool.not_false, Int.natCast_nonneg, Nat.lt_irrefl, false_and, Int.reduceEq, rf_int, rf_bool, rf_tuple_ints, rf_u8s, arr_list, toList2, Bool.and_self, Nat.not_lt_zero, Nat.sub_zero, Nat.zero_le, Nat.le_add_right, cells_agg, cells_agg_size, cells_int, cells_int_size, okV_int, okV_bool, okV_str, okV_agg, okV_ptr, okV_slice, okV_func, okV_nilFunc, okV_iface, okV_nilIface, cells_bool, cells_bool_size, cells_ptr, cells_ptr_size, cells_slice, cells_slice_size, cells_str, cells_str_size, eq_self, wrapI64_small, Int.natCast_zero, Int.natCast_one, Int.cast_ofNat_Int, List.length_nil, List.length_cons, List.getElem?_cons_zero, List.getElem?_cons_succ, List.set_cons_zero, List.set_cons_succ, Nat.zero_add, Nat.add_zero, Nat.mul_one, Nat.zero_mul, Int.toNat_natCast, Int.toNat_zero, Int.lt_irrefl, Int.le_refl, Nat.le_refl, and_self, true_and, and_true, decide_true, decide_false, Int.reduceLE, Int.reduceLT, Int.reduceAdd, Int.reduceMul, Int.reduceSub, Int.reduceTDiv, Int.reduceTMod, Int.reduceNeg, Int.reduceToNat, Int.reduceGT, Int.reduceGE, Int.reducePow, Nat.reduceAdd, Nat.reduceMul, Nat.reduceSub, Nat.reduceDiv, Nat.reduceMod, Nat.reducePow, Nat.reduceLT, Nat.reduceLeDiff, Nat.min_self, ge_iff_le, gt_iff_lt, Option.isNone_none, Option.isSome_none, Option.isNone_some, Option.isSome_some, Bool.and_true, Bool.true_and, Bool.and_false, Bool.false_and, not_true_eq_false, not_false_eq_true, or_true, true_or, false_or, or_false, hget0, hgetK, hset0, hsetK, splice_single, splice_whole, take_whole, List.getElem?_nil, List.length_append, List.append_assoc, hz5, hf5, l0, g1, g2, g3, g4, c1, c2, hr1, hr2, hr3, hr4, hr5, k1, k2, hnu, l1, l2, l3, l4, l5, List.length_replicate, take_all, eV_cells, eV_size, eV_ok, eV_fold, ns_len, rf_eV]
      rfl
end Go.Ev.Ytaceeoghjgggjaa

/-
  The law PointRules: walked.
-/
import Derived.Test.YtaceeoghjgggjaaPW8
set_option linter.unusedSimpArgs false
set_option linter.unusedVariables false
namespace Go.Ev.Ytaceeoghjgggjaa
open Go Go.Ev
attribute [local congr] bind_congr2 ite_congr2 qElse_congr gate_congr guardV_congr
set_option maxRecDepth 100000

/-! Two points are the same just if their bytes are. -/
theorem par_neg {a : Go.Fp.Fe} (h0 : a ≠ 0) : (-a).val % 2 ≠ a.val % 2 := by
  have hlt := a.isLt
  have hne : a.val ≠ 0 := fun h => h0 (Fin.ext h)
  have h1 : (-a).val = (Go.Fp.P - a.val) % Go.Fp.P := rfl
  have h2 : (Go.Fp.P - a.val) < Go.Fp.P := by omega
  rw [h1, Nat.mod_eq_of_lt h2]
  have hP : Go.Fp.P % 2 = 1 := by rw [Go.Fp.P_eq]
  omega
theorem sq_eq {a b : Go.Fp.Fe} (h : a * a = b * b) : a = b ∨ a = -b := by
  have F := Go.Fp.fld
  have : (a - b) * (a + b) = 0 := by grobner
  rcases F.dom this with h1 | h1
  · left; clear h this; grobner
  · right; clear h this; grobner
theorem one_of (dd z : Go.Fp.Fe) (hz : z = 0) : dd * (z * z) + 1 = 1 := by grobner
/-- The factor at the first coordinate's square is never nought. -/
theorem den_ne (y : Go.Fp.Fe) : Go.Fp.d * (y * y) + 1 ≠ 0 := fun h => by
  have F := Go.Fp.fld
  have hy : y ≠ 0 := by
    intro h0
    rw [one_of _ _ h0] at h
    exact Go.Fp.one_ne h
  have hi := Go.Fp.iv_mul hy
  have hr := Go.Fp.root_i
  apply Go.Fp.nosq (Go.Fp.i * Go.Fp.iv y)
  generalize Go.Fp.d = dd at *
  generalize Go.Fp.i = ii at *
  generalize Go.Fp.iv y = w at *
  clear F hy
  have e1 : dd * (y * w) * (y * w) + w * w = 0 := by
    have : dd * (y * w) * (y * w) + w * w = (dd * (y * y) + 1) * (w * w) := by clear h hi hr; grobner
    rw [this, h]; clear this h hi hr; grobner
  rw [hi] at e1
  have e2 : ii * w * (ii * w) = (ii * ii) * (w * w) := by clear h hi hr e1; grobner
  rw [e2, hr]
  clear h hi hr e2
  grobner
theorem x_sq (p : Go.Cv.Pt Go.Fp.P Go.Fp.d) : (Go.Fp.d * (p.y * p.y) + 1) * (p.x * p.x) = p.y * p.y - 1 := by
  have h := p.on
  unfold Go.Cv.On at h
  generalize Go.Fp.d = dd at *
  generalize p.x = x at *
  generalize p.y = y at *
  grobner
theorem encN_inj {p q : Go.Cv.Pt Go.Fp.P Go.Fp.d} (h : encN p = encN q) : p = q := by
  unfold encN at h
  have h1 := val_lt p.y
  have h2 := val_lt q.y
  have h3 := Nat.mod_lt p.x.val (by decide : 0 < 2)
  have h4 := Nat.mod_lt q.x.val (by decide : 0 < 2)
  have hy : p.y.val = q.y.val := by omega
  have hx : p.x.val % 2 = q.x.val % 2 := by omega
  have hy' : p.y = q.y := Fin.ext hy
  have e1 := x_sq p
  have e2 := x_sq q
  rw [hy', ← e2] at e1
  have e3 := Go.Fp.fld.cancel (den_ne q.y) e1
  refine Go.Cv.Pt.ext ?_ hy'
  rcases sq_eq e3 with h | h
  · exact h
  · by_cases h0 : q.x = 0
    · rw [h, h0]; grobner
    · exfalso
      have := par_neg h0
      rw [← h] at this
      exact this hx
theorem enc_beq (p q : Go.Cv.Pt Go.Fp.P Go.Fp.d) : (enc p == enc q) = decide (p = q) := by
  unfold enc
  rw [key_inj (encN_lt p) (encN_lt q)]
  by_cases h : p = q
  · subst h; rw [decide_eq_true rfl, decide_eq_true rfl]
  · rw [decide_eq_false h, decide_eq_false (fun e => h (encN_inj e))]

def xsI (n : Nat) (H : List Ob) (x : List Nat) (g : List Ob) (i : Nat) (ex : Env) : St := ⟨[(2, .int .u8 n), (7, .pointer (some ⟨2, 0, none⟩)), (10, .pointer (some ⟨H.length, 0, none⟩)), (11, .int .u8 i)] ++ ex, H ++ (⟨ns .u64 x, true, true, true, 1⟩ :: g), []⟩
theorem fill40 {a b : List Nat} {p q : Go.Cv.Pt Go.Fp.P Go.Fp.d} (ha : RepL a p) (hb : RepL b q) : fillL (List.replicate 40 (Value.int .u64 0)) [(0, 20, eV a), (20, 20, eV b)] = some (ns .u64 [a, b].flatten) := by
  obtain ⟨x1, y1, z1, t1, rfl, h1⟩ := ha
  obtain ⟨x2, y2, z2, t2, rfl, h2⟩ := hb
  obtain ⟨a0, a1, a2, a3, a4, rfl, -⟩ := h1.ex.five
  obtain ⟨b0, b1, b2, b3, b4, rfl, -⟩ := h1.ey.five
  obtain ⟨c0, c1, c2, c3, c4, rfl, -⟩ := h1.ez.five
  obtain ⟨d0, d1, d2, d3, d4, rfl, -⟩ := h1.et.five
  obtain ⟨e0, e1, e2, e3, e4, rfl, -⟩ := h2.ex.five
  obtain ⟨f0, f1, f2, f3, f4, rfl, -⟩ := h2.ey.five
  obtain ⟨g0, g1, g2, g3, g4, rfl, -⟩ := h2.ez.five
  obtain ⟨i0, i1, i2, i3, i4, rfl, -⟩ := h2.et.five
  rfl
theorem xs_body {H : List Ob} {P x : List Nat} {g : List Ob} {n i : Nat} {p q : Go.Cv.Pt Go.Fp.P Go.Fp.d} (hn : n < 256) (hi : i < n % 20) (rp : RepL P p) (rx : RepL x q) (hP : ∀ l, (H ++ l)[2]? = some ⟨ns .u64 P, true, true, true, 1⟩) :
    ∃ x' g', evCode T 0 a8_l0 (xsI n H x g i []) = some (.normal, xsI n H x' g' (i + 1) []) ∧ RepL x' (padd q p) := by
  obtain ⟨r, d, hr, Er⟩ := adds_ev (H := H ++ (⟨ns .u64 x, true, true, true, 1⟩ :: (g ++ [⟨ns .u64 [x, P].flatten, true, true, true, 1⟩]))) (id := H.length + (g.length + 1)) (n := 2) (xs := [x, P]) rfl (by decide) (.cons rx (.cons rp .nil)) (by
    rw [List.getElem?_append_right (by omega), Nat.add_sub_cancel_left, List.getElem?_cons_succ, List.getElem?_append_right (by omega), Nat.sub_self]; rfl)
  rw [fold2] at Er
  simp only [List.map_cons, List.map_nil, List.cons_append, List.append_assoc, List.nil_append] at hr
  refine ⟨r, ?_⟩
  apply Exists.intro
  refine ⟨?_, Er⟩
  have p1 := rp.len
  have p2 := rx.len
  have p3 := Er.len
  have hf := fill40 rx rp
  have w : ((n : Int).tmod 20) = ((n % 20 : Nat) : Int) := rfl
  have e1 : ((i : Int) < ((n % 20 : Nat) : Int)) = True := eq_true (by omega)
  have w3 : IntKind.u8.wrap ((i : Int) + 1) = ((i + 1 : Nat) : Int) := by rw [wrap_u8]; omega
  simp only [xsI, a8_l0, ↓steps_chunk, envOf, evCode_skip, evCode_exit, evCode_seq, fs_blockS, fs_blockR, fs_blockC, fs_blockK, fs_blockB, evCode_ret, quiet, keep_nil, keep_cons, fs_cond, fs_region, fs_regionQ, quiet2_eq, lastOf_nil, lastOf_cons, List.take_succ_cons, List.take_zero, List.drop_succ_cons, List.drop_zero, Int.reduceBEq, Int.reduceBNe,  fs_nil, fs_guard, fs_move, fs_pick, fs_alloc, fs_box, fs_load, fs_store, fs_bin, fs_eqv, fs_isNil, fs_un, fs_conv, fs_convStr, fs_field, fs_index, fs_indexStr, fs_build, fs_buildSlice, fs_fieldAddr, fs_indexAddr, fs_indexSl, fs_sliceArr, fs_sliceSl, fs_sliceStr, fs_makeSlice, fs_extract, fs_mkIface, fs_mkFunc, fs_nilCheck, fs_s2ap, fs_len, fs_minmax, fs_s2b, fs_b2s, fs_append, fs_copy, fs_callW, fs_callR, fs_callv, opd_tmp, opd_const, opd_func, opds_nil, opds_cons, opdOpt_none, opdOpt_some, opdParts_nil, opdParts_cons, get_miss, vPick_t, vPick_f, vEq_agg, vEq_aggN, vEq_bool, vEq_boolN, vConv_int, vStr_s, vField_agg, vIndex_agg, vIndexStr_s, vFieldAddr_p, vIndexAddr_p, vIndexSl_s, vSliceArr_p, vSliceSl_s, vSliceSl_n, vSliceStr_s, vExtract_t, vNilCheck_p, vS2ap_s, vLen_s, vLen_str, vMin_i, vMax_i, vLoad_p, vStore_p, baseP_p, vB2s_s, vMake_i, vS2b_s, callee_f, liveAt_eq, storeAt_eq, partL_none, partL_some, natIn_none, natIn_int, bounds3_two, bin_add, bin_sub, bin_mul, bin_quo, bin_rem, bin_and, bin_or, bin_xor, bin_andNot, bin_eql, bin_neq, bin_lss, bin_leq, bin_gtr, bin_geq, bin_shl, bin_shr, bin_sadd, bin_seql, bin_sneq, un_not, un_neg, un_xor, after_some, put_some, put_none, res_nil, res_val, res_var, packed_one, packed_two, merge_nil, merge_ge, rf_tup2, rfIn_int, rfIn_bool, rfIn_u8s, rf_str, rfIn_str, ↓gate_true, ↓guardW_tt, ↓guardW_ff, ↓guardW_tf, ↓guardW_ft, ↓keepW_some, ↓qElseW_some, ↓get_hit, ↓Option.bind_some, ↓if_true, ↓if_false, List.nil_append, List.cons_append, List.all_nil, List.all_cons, List.isEmpty_nil, reduceCtorEq, Bool.false_eq_true, Nat.reduceEqDiff, beq_self_eq_true, bne_self_eq_false, Bool.not_true, Bool.not_false, Int.natCast_nonneg, Nat.lt_irrefl, false_and, Int.reduceEq, rf_int, rf_bool, rf_tuple_ints, rf_u8s, arr_list, toList2, Bool.and_self, Nat.not_lt_zero, Nat.sub_zero, Nat.zero_le, Nat.le_add_right, cells_agg, cells_agg_size, cells_int, cells_int_size, okV_int, okV_bool, okV_str, okV_agg, okV_ptr, okV_slice, okV_func, okV_nilFunc, okV_iface, okV_nilIface, cells_bool, cells_bool_size, cells_ptr, cells_ptr_size, cells_slice, cells_slice_size, cells_str, cells_str_size, eq_self, wrapI64_small, Int.natCast_zero, Int.natCast_one, Int.cast_ofNat_Int, List.length_nil, List.length_cons, List.getElem?_cons_zero, List.getElem?_cons_succ, List.set_cons_zero, List.set_cons_succ, Nat.zero_add, Nat.add_zero, Nat.mul_one, Nat.zero_mul, Int.toNat_natCast, Int.toNat_zero, Int.lt_irrefl, Int.le_refl, Nat.le_refl, and_self, true_and, and_true, decide_true, decide_false, Int.reduceLE, Int.reduceLT, Int.reduceAdd, Int.reduceMul, Int.reduceSub, Int.reduceTDiv, Int.reduceTMod, Int.reduceNeg, Int.reduceToNat, Int.reduceGT, Int.reduceGE, Int.reducePow, Nat.reduceAdd, Nat.reduceMul, Nat.reduceSub, Nat.reduceDiv, Nat.reduceMod, Nat.reducePow, Nat.reduceLT, Nat.reduceLeDiff, Nat.min_self, ge_iff_le, gt_iff_lt, Option.isNone_none, Option.isSome_none, Option.isNone_some, Option.isSome_some, Bool.and_true, Bool.true_and, Bool.and_false, Bool.false_and, not_true_eq_false, not_false_eq_true, or_true, true_or, false_or, or_false, hget0, hgetK, hset0, hsetK, splice_single, splice_whole, take_whole, List.getElem?_nil, List.length_append, List.append_assoc, hP, hf, w, e1, w3, hr, take_all, eV_cells, eV_size, eV_ok, eV_fold, ns_len, u8s_len, p1, p2, p3, rf_eV]
  rfl
theorem padd_comm (p q : Go.Cv.Pt Go.Fp.P Go.Fp.d) : padd p q = padd q p := Go.Cv.add_comm Go.Fp.fld p q
theorem padd_assoc (p q r : Go.Cv.Pt Go.Fp.P Go.Fp.d) : padd (padd p q) r = padd p (padd q r) := Go.Cv.add_assoc Go.Fp.fld p q r
theorem equal_yes {l m : List Nat} {p q : Go.Cv.Pt Go.Fp.P Go.Fp.d} (h1 : RepL l p) (h2 : RepL m q) (h : p = q) : evVal T 28 [eV l, eV m] = some (.bool true) := by
  rw [equal_v h1 h2, decide_eq_true h]
def keyOf (m : Nat) : List Nat := m :: List.replicate 31 0
theorem keyOf_len (m : Nat) : (keyOf m).length = 32 := rfl
theorem keyOf_lt {m : Nat} (hm : m < 256) : ∀ x ∈ keyOf m, x < 256 := by
  intro x hx
  rcases List.mem_cons.1 hx with rfl | hx
  · exact hm
  · rw [List.eq_of_mem_replicate hx]; decide
theorem keyOf_num (m : Nat) : num 256 (keyOf m) = m := by
  have : num 256 (List.replicate 31 0) = 0 := by decide +kernel
  show m + 256 * num 256 (List.replicate 31 0) = m
  rw [this]; omega
theorem keyOf_fill (m : Nat) : fillL (List.replicate 32 (Value.int .u8 0)) [(0, 1, .int .u8 (m : Int))] = some (u8s (keyOf m)) := rfl
theorem prules_ev {ka kb : List Nat} {n : Nat} (la : ka.length = 32) (xa : ∀ x ∈ ka, x < 256) (lb : kb.length = 32) (xb : ∀ x ∈ kb, x < 256) (hn : n < 256) : ∃ l, evFun T 8 [.agg (u8s ka).toArray, .agg (u8s kb).toArray, .int .u8 n] [] = some (.bool true, l, []) := by
  have hbased := based_v
  obtain ⟨B, hB, rB⟩ := base_v
  obtain ⟨Z, hZ, rZ⟩ := zero_v
  generalize pbase = bp at rB
  obtain ⟨P, hP, rp⟩ := multiply_v rB la xa
  obtain ⟨Q, hQ, rq⟩ := multiply_v rB lb xb
  generalize pmul (num 256 ka) bp = p at rp
  generalize pmul (num 256 kb) bp = q at rq
  obtain ⟨S1, dS1, hS1, ES1⟩ := adds_ev (H := [⟨u8s ka, true, true, true, 1⟩, ⟨u8s kb, true, true, true, 1⟩, ⟨ns .u64 P, true, true, true, 1⟩, ⟨ns .u64 Q, true, true, true, 1⟩, ⟨ns .u64 [P, Q].flatten, true, true, true, 1⟩]) (id := 4) (n := 2) (xs := [P, Q]) rfl (by decide) (.cons rp (.cons rq .nil)) rfl
  simp only [List.map_cons, List.map_nil, List.cons_append, List.nil_append] at hS1
  rw [fold2] at ES1
  obtain ⟨S2, dS2, hS2, ES2⟩ := adds_ev (H := [⟨u8s ka, true, true, true, 1⟩, ⟨u8s kb, true, true, true, 1⟩, ⟨ns .u64 P, true, true, true, 1⟩, ⟨ns .u64 Q, true, true, true, 1⟩, ⟨ns .u64 [P, Q].flatten, true, true, true, 1⟩, ⟨ns .u64 S1, true, true, true, 1⟩, ⟨ns .u64 S1, true, true, true, 1⟩, ⟨ns .u64 dS1, true, true, true, 1⟩, ⟨ns .u64 P, true, true, true, 1⟩, ⟨ns .u64 Q, true, true, true, 1⟩, ⟨ns .u64 S1, true, true, true, 1⟩, ⟨ns .u64 [Q, P].flatten, true, true, true, 1⟩]) (id := 11) (n := 2) (xs := [Q, P]) rfl (by decide) (.cons rq (.cons rp .nil)) rfl
  simp only [List.map_cons, List.map_nil, List.cons_append, List.nil_append] at hS2
  rw [fold2] at ES2
  obtain ⟨S3, dS3, hS3, ES3⟩ := adds_ev (H := [⟨u8s ka, true, true, true, 1⟩, ⟨u8s kb, true, true, true, 1⟩, ⟨ns .u64 P, true, true, true, 1⟩, ⟨ns .u64 Q, true, true, true, 1⟩, ⟨ns .u64 [P, Q].flatten, true, true, true, 1⟩, ⟨ns .u64 S1, true, true, true, 1⟩, ⟨ns .u64 S1, true, true, true, 1⟩, ⟨ns .u64 dS1, true, true, true, 1⟩, ⟨ns .u64 P, true, true, true, 1⟩, ⟨ns .u64 Q, true, true, true, 1⟩, ⟨ns .u64 S1, true, true, true, 1⟩, ⟨ns .u64 [Q, P].flatten, true, true, true, 1⟩, ⟨ns .u64 S2, true, true, true, 1⟩, ⟨ns .u64 S2, true, true, true, 1⟩, ⟨ns .u64 dS2, true, true, true, 1⟩, ⟨ns .u64 Q, true, true, true, 1⟩, ⟨ns .u64 P, true, true, true, 1⟩, ⟨ns .u64 [P, Q].flatten, true, true, true, 1⟩]) (id := 17) (n := 2) (xs := [P, Q]) rfl (by decide) (.cons rp (.cons rq .nil)) rfl
  simp only [List.map_cons, List.map_nil, List.cons_append, List.nil_append] at hS3
  rw [fold2] at ES3
  obtain ⟨S4, dS4, hS4, ES4⟩ := adds_ev (H := [⟨u8s ka, true, true, true, 1⟩, ⟨u8s kb, true, true, true, 1⟩, ⟨ns .u64 P, true, true, true, 1⟩, ⟨ns .u64 Q, true, true, true, 1⟩, ⟨ns .u64 [P, Q].flatten, true, true, true, 1⟩, ⟨ns .u64 S1, true, true, true, 1⟩, ⟨ns .u64 S1, true, true, true, 1⟩, ⟨ns .u64 dS1, true, true, true, 1⟩, ⟨ns .u64 P, true, true, true, 1⟩, ⟨ns .u64 Q, true, true, true, 1⟩, ⟨ns .u64 S1, true, true, true, 1⟩, ⟨ns .u64 [Q, P].flatten, true, true, true, 1⟩, ⟨ns .u64 S2, true, true, true, 1⟩, ⟨ns .u64 S2, true, true, true, 1⟩, ⟨ns .u64 dS2, true, true, true, 1⟩, ⟨ns .u64 Q, true, true, true, 1⟩, ⟨ns .u64 P, true, true, true, 1⟩, ⟨ns .u64 [P, Q].flatten, true, true, true, 1⟩, ⟨ns .u64 S3, true, true, true, 1⟩, ⟨ns .u64 S3, true, true, true, 1⟩, ⟨ns .u64 dS3, true, true, true, 1⟩, ⟨ns .u64 P, true, true, true, 1⟩, ⟨ns .u64 Q, true, true, true, 1⟩, ⟨ns .u64 [S3, P].flatten, true, true, true, 1⟩]) (id := 23) (n := 2) (xs := [S3, P]) rfl (by decide) (.cons ES3 (.cons rp .nil)) rfl
  simp only [List.map_cons, List.map_nil, List.cons_append, List.nil_append] at hS4
  rw [fold2] at ES4
  obtain ⟨S5, dS5, hS5, ES5⟩ := adds_ev (H := [⟨u8s ka, true, true, true, 1⟩, ⟨u8s kb, true, true, true, 1⟩, ⟨ns .u64 P, true, true, true, 1⟩, ⟨ns .u64 Q, true, true, true, 1⟩, ⟨ns .u64 [P, Q].flatten, true, true, true, 1⟩, ⟨ns .u64 S1, true, true, true, 1⟩, ⟨ns .u64 S1, true, true, true, 1⟩, ⟨ns .u64 dS1, true, true, true, 1⟩, ⟨ns .u64 P, true, true, true, 1⟩, ⟨ns .u64 Q, true, true, true, 1⟩, ⟨ns .u64 S1, true, true, true, 1⟩, ⟨ns .u64 [Q, P].flatten, true, true, true, 1⟩, ⟨ns .u64 S2, true, true, true, 1⟩, ⟨ns .u64 S2, true, true, true, 1⟩, ⟨ns .u64 dS2, true, true, true, 1⟩, ⟨ns .u64 Q, true, true, true, 1⟩, ⟨ns .u64 P, true, true, true, 1⟩, ⟨ns .u64 [P, Q].flatten, true, true, true, 1⟩, ⟨ns .u64 S3, true, true, true, 1⟩, ⟨ns .u64 S3, true, true, true, 1⟩, ⟨ns .u64 dS3, true, true, true, 1⟩, ⟨ns .u64 P, true, true, true, 1⟩, ⟨ns .u64 Q, true, true, true, 1⟩, ⟨ns .u64 [S3, P].flatten, true, true, true, 1⟩, ⟨ns .u64 S4, true, true, true, 1⟩, ⟨ns .u64 S4, true, true, true, 1⟩, ⟨ns .u64 dS4, true, true, true, 1⟩, ⟨ns .u64 S3, true, true, true, 1⟩, ⟨ns .u64 P, true, true, true, 1⟩, ⟨ns .u64 [Q, P].flatten, true, true, true, 1⟩]) (id := 29) (n := 2) (xs := [Q, P]) rfl (by decide) (.cons rq (.cons rp .nil)) rfl
  simp only [List.map_cons, List.map_nil, List.cons_append, List.nil_append] at hS5
  rw [fold2] at ES5
  obtain ⟨S6, dS6, hS6, ES6⟩ := adds_ev (H := [⟨u8s ka, true, true, true, 1⟩, ⟨u8s kb, true, true, true, 1⟩, ⟨ns .u64 P, true, true, true, 1⟩, ⟨ns .u64 Q, true, true, true, 1⟩, ⟨ns .u64 [P, Q].flatten, true, true, true, 1⟩, ⟨ns .u64 S1, true, true, true, 1⟩, ⟨ns .u64 S1, true, true, true, 1⟩, ⟨ns .u64 dS1, true, true, true, 1⟩, ⟨ns .u64 P, true, true, true, 1⟩, ⟨ns .u64 Q, true, true, true, 1⟩, ⟨ns .u64 S1, true, true, true, 1⟩, ⟨ns .u64 [Q, P].flatten, true, true, true, 1⟩, ⟨ns .u64 S2, true, true, true, 1⟩, ⟨ns .u64 S2, true, true, true, 1⟩, ⟨ns .u64 dS2, true, true, true, 1⟩, ⟨ns .u64 Q, true, true, true, 1⟩, ⟨ns .u64 P, true, true, true, 1⟩, ⟨ns .u64 [P, Q].flatten, true, true, true, 1⟩, ⟨ns .u64 S3, true, true, true, 1⟩, ⟨ns .u64 S3, true, true, true, 1⟩, ⟨ns .u64 dS3, true, true, true, 1⟩, ⟨ns .u64 P, true, true, true, 1⟩, ⟨ns .u64 Q, true, true, true, 1⟩, ⟨ns .u64 [S3, P].flatten, true, true, true, 1⟩, ⟨ns .u64 S4, true, true, true, 1⟩, ⟨ns .u64 S4, true, true, true, 1⟩, ⟨ns .u64 dS4, true, true, true, 1⟩, ⟨ns .u64 S3, true, true, true, 1⟩, ⟨ns .u64 P, true, true, true, 1⟩, ⟨ns .u64 [Q, P].flatten, true, true, true, 1⟩, ⟨ns .u64 S5, true, true, true, 1⟩, ⟨ns .u64 S5, true, true, true, 1⟩, ⟨ns .u64 dS5, true, true, true, 1⟩, ⟨ns .u64 Q, true, true, true, 1⟩, ⟨ns .u64 P, true, true, true, 1⟩, ⟨ns .u64 [P, S5].flatten, true, true, true, 1⟩]) (id := 35) (n := 2) (xs := [P, S5]) rfl (by decide) (.cons rp (.cons ES5 .nil)) rfl
  simp only [List.map_cons, List.map_nil, List.cons_append, List.nil_append] at hS6
  rw [fold2] at ES6
  have k1 := equal_yes ES1 ES2 (padd_comm p q)
  have k2 := equal_yes ES4 ES6 (by rw [padd_assoc])
  have k3 := equal_v rp rq
  have c1 := encode_v rp
  have c2 := encode_v rq
  have k4 := enc_beq p q
  have lc1 := enc_len p
  have lc2 := enc_len q
  generalize enc p = C1 at *
  generalize enc q = C2 at *
  obtain ⟨st, hb, X, G, rfl, rX⟩ := block_inv (T := T) (base := 0) (id := 0) (body := a8_l0)
    (fun i st => ∃ x g, st = xsI n [⟨u8s ka, true, true, true, 1⟩, ⟨u8s kb, true, true, true, 1⟩, ⟨ns .u64 P, true, true, true, 1⟩, ⟨ns .u64 Q, true, true, true, 1⟩, ⟨ns .u64 [P, Q].flatten, true, true, true, 1⟩, ⟨ns .u64 S1, true, true, true, 1⟩, ⟨ns .u64 S1, true, true, true, 1⟩, ⟨ns .u64 dS1, true, true, true, 1⟩, ⟨ns .u64 P, true, true, true, 1⟩, ⟨ns .u64 Q, true, true, true, 1⟩, ⟨ns .u64 S1, true, true, true, 1⟩, ⟨ns .u64 [Q, P].flatten, true, true, true, 1⟩, ⟨ns .u64 S2, true, true, true, 1⟩, ⟨ns .u64 S2, true, true, true, 1⟩, ⟨ns .u64 dS2, true, true, true, 1⟩, ⟨ns .u64 Q, true, true, true, 1⟩, ⟨ns .u64 P, true, true, true, 1⟩, ⟨ns .u64 [P, Q].flatten, true, true, true, 1⟩, ⟨ns .u64 S3, true, true, true, 1⟩, ⟨ns .u64 S3, true, true, true, 1⟩, ⟨ns .u64 dS3, true, true, true, 1⟩, ⟨ns .u64 P, true, true, true, 1⟩, ⟨ns .u64 Q, true, true, true, 1⟩, ⟨ns .u64 [S3, P].flatten, true, true, true, 1⟩, ⟨ns .u64 S4, true, true, true, 1⟩, ⟨ns .u64 S4, true, true, true, 1⟩, ⟨ns .u64 dS4, true, true, true, 1⟩, ⟨ns .u64 S3, true, true, true, 1⟩, ⟨ns .u64 P, true, true, true, 1⟩, ⟨ns .u64 [Q, P].flatten, true, true, true, 1⟩, ⟨ns .u64 S5, true, true, true, 1⟩, ⟨ns .u64 S5, true, true, true, 1⟩, ⟨ns .u64 dS5, true, true, true, 1⟩, ⟨ns .u64 Q, true, true, true, 1⟩, ⟨ns .u64 P, true, true, true, 1⟩, ⟨ns .u64 [P, S5].flatten, true, true, true, 1⟩, ⟨ns .u64 S6, true, true, true, 1⟩, ⟨ns .u64 S6, true, true, true, 1⟩, ⟨ns .u64 dS6, true, true, true, 1⟩, ⟨ns .u64 P, true, true, true, 1⟩, ⟨ns .u64 S5, true, true, true, 1⟩] x g i [] ∧ RepL x (pmul i p))
    (Q := fun st => ∃ x g, st = xsI n [⟨u8s ka, true, true, true, 1⟩, ⟨u8s kb, true, true, true, 1⟩, ⟨ns .u64 P, true, true, true, 1⟩, ⟨ns .u64 Q, true, true, true, 1⟩, ⟨ns .u64 [P, Q].flatten, true, true, true, 1⟩, ⟨ns .u64 S1, true, true, true, 1⟩, ⟨ns .u64 S1, true, true, true, 1⟩, ⟨ns .u64 dS1, true, true, true, 1⟩, ⟨ns .u64 P, true, true, true, 1⟩, ⟨ns .u64 Q, true, true, true, 1⟩, ⟨ns .u64 S1, true, true, true, 1⟩, ⟨ns .u64 [Q, P].flatten, true, true, true, 1⟩, ⟨ns .u64 S2, true, true, true, 1⟩, ⟨ns .u64 S2, true, true, true, 1⟩, ⟨ns .u64 dS2, true, true, true, 1⟩, ⟨ns .u64 Q, true, true, true, 1⟩, ⟨ns .u64 P, true, true, true, 1⟩, ⟨ns .u64 [P, Q].flatten, true, true, true, 1⟩, ⟨ns .u64 S3, true, true, true, 1⟩, ⟨ns .u64 S3, true, true, true, 1⟩, ⟨ns .u64 dS3, true, true, true, 1⟩, ⟨ns .u64 P, true, true, true, 1⟩, ⟨ns .u64 Q, true, true, true, 1⟩, ⟨ns .u64 [S3, P].flatten, true, true, true, 1⟩, ⟨ns .u64 S4, true, true, true, 1⟩, ⟨ns .u64 S4, true, true, true, 1⟩, ⟨ns .u64 dS4, true, true, true, 1⟩, ⟨ns .u64 S3, true, true, true, 1⟩, ⟨ns .u64 P, true, true, true, 1⟩, ⟨ns .u64 [Q, P].flatten, true, true, true, 1⟩, ⟨ns .u64 S5, true, true, true, 1⟩, ⟨ns .u64 S5, true, true, true, 1⟩, ⟨ns .u64 dS5, true, true, true, 1⟩, ⟨ns .u64 Q, true, true, true, 1⟩, ⟨ns .u64 P, true, true, true, 1⟩, ⟨ns .u64 [P, S5].flatten, true, true, true, 1⟩, ⟨ns .u64 S6, true, true, true, 1⟩, ⟨ns .u64 S6, true, true, true, 1⟩, ⟨ns .u64 dS6, true, true, true, 1⟩, ⟨ns .u64 P, true, true, true, 1⟩, ⟨ns .u64 S5, true, true, true, 1⟩] x g (n % 20) [(64, .bool false)] ∧ RepL x (pmul (n % 20) p))
    (n % 20) (s := xsI n [⟨u8s ka, true, true, true, 1⟩, ⟨u8s kb, true, true, true, 1⟩, ⟨ns .u64 P, true, true, true, 1⟩, ⟨ns .u64 Q, true, true, true, 1⟩, ⟨ns .u64 [P, Q].flatten, true, true, true, 1⟩, ⟨ns .u64 S1, true, true, true, 1⟩, ⟨ns .u64 S1, true, true, true, 1⟩, ⟨ns .u64 dS1, true, true, true, 1⟩, ⟨ns .u64 P, true, true, true, 1⟩, ⟨ns .u64 Q, true, true, true, 1⟩, ⟨ns .u64 S1, true, true, true, 1⟩, ⟨ns .u64 [Q, P].flatten, true, true, true, 1⟩, ⟨ns .u64 S2, true, true, true, 1⟩, ⟨ns .u64 S2, true, true, true, 1⟩, ⟨ns .u64 dS2, true, true, true, 1⟩, ⟨ns .u64 Q, true, true, true, 1⟩, ⟨ns .u64 P, true, true, true, 1⟩, ⟨ns .u64 [P, Q].flatten, true, true, true, 1⟩, ⟨ns .u64 S3, true, true, true, 1⟩, ⟨ns .u64 S3, true, true, true, 1⟩, ⟨ns .u64 dS3, true, true, true, 1⟩, ⟨ns .u64 P, true, true, true, 1⟩, ⟨ns .u64 Q, true, true, true, 1⟩, ⟨ns .u64 [S3, P].flatten, true, true, true, 1⟩, ⟨ns .u64 S4, true, true, true, 1⟩, ⟨ns .u64 S4, true, true, true, 1⟩, ⟨ns .u64 dS4, true, true, true, 1⟩, ⟨ns .u64 S3, true, true, true, 1⟩, ⟨ns .u64 P, true, true, true, 1⟩, ⟨ns .u64 [Q, P].flatten, true, true, true, 1⟩, ⟨ns .u64 S5, true, true, true, 1⟩, ⟨ns .u64 S5, true, true, true, 1⟩, ⟨ns .u64 dS5, true, true, true, 1⟩, ⟨ns .u64 Q, true, true, true, 1⟩, ⟨ns .u64 P, true, true, true, 1⟩, ⟨ns .u64 [P, S5].flatten, true, true, true, 1⟩, ⟨ns .u64 S6, true, true, true, 1⟩, ⟨ns .u64 S6, true, true, true, 1⟩, ⟨ns .u64 dS6, true, true, true, 1⟩, ⟨ns .u64 P, true, true, true, 1⟩, ⟨ns .u64 S5, true, true, true, 1⟩] Z [] 0 []) ⟨Z, [], rfl, rZ⟩
    (fun i st hi hs => by
      obtain ⟨x, g, rfl, rx⟩ := hs
      obtain ⟨x', g', h1, h2⟩ := xs_body (g := g) (H := [⟨u8s ka, true, true, true, 1⟩, ⟨u8s kb, true, true, true, 1⟩, ⟨ns .u64 P, true, true, true, 1⟩, ⟨ns .u64 Q, true, true, true, 1⟩, ⟨ns .u64 [P, Q].flatten, true, true, true, 1⟩, ⟨ns .u64 S1, true, true, true, 1⟩, ⟨ns .u64 S1, true, true, true, 1⟩, ⟨ns .u64 dS1, true, true, true, 1⟩, ⟨ns .u64 P, true, true, true, 1⟩, ⟨ns .u64 Q, true, true, true, 1⟩, ⟨ns .u64 S1, true, true, true, 1⟩, ⟨ns .u64 [Q, P].flatten, true, true, true, 1⟩, ⟨ns .u64 S2, true, true, true, 1⟩, ⟨ns .u64 S2, true, true, true, 1⟩, ⟨ns .u64 dS2, true, true, true, 1⟩, ⟨ns .u64 Q, true, true, true, 1⟩, ⟨ns .u64 P, true, true, true, 1⟩, ⟨ns .u64 [P, Q].flatten, true, true, true, 1⟩, ⟨ns .u64 S3, true, true, true, 1⟩, ⟨ns .u64 S3, true, true, true, 1⟩, ⟨ns .u64 dS3, true, true, true, 1⟩, ⟨ns .u64 P, true, true, true, 1⟩, ⟨ns .u64 Q, true, true, true, 1⟩, ⟨ns .u64 [S3, P].flatten, true, true, true, 1⟩, ⟨ns .u64 S4, true, true, true, 1⟩, ⟨ns .u64 S4, true, true, true, 1⟩, ⟨ns .u64 dS4, true, true, true, 1⟩, ⟨ns .u64 S3, true, true, true, 1⟩, ⟨ns .u64 P, true, true, true, 1⟩, ⟨ns .u64 [Q, P].flatten, true, true, true, 1⟩, ⟨ns .u64 S5, true, true, true, 1⟩, ⟨ns .u64 S5, true, true, true, 1⟩, ⟨ns .u64 dS5, true, true, true, 1⟩, ⟨ns .u64 Q, true, true, true, 1⟩, ⟨ns .u64 P, true, true, true, 1⟩, ⟨ns .u64 [P, S5].flatten, true, true, true, 1⟩, ⟨ns .u64 S6, true, true, true, 1⟩, ⟨ns .u64 S6, true, true, true, 1⟩, ⟨ns .u64 dS6, true, true, true, 1⟩, ⟨ns .u64 P, true, true, true, 1⟩, ⟨ns .u64 S5, true, true, true, 1⟩]) hn hi rp rx (fun l => rfl)
      exact ⟨_, h1, x', g', rfl, h2⟩)
    (fun st hs => by
      obtain ⟨x, g, rfl, rx⟩ := hs
      have w : ((n : Int).tmod 20) = ((n % 20 : Nat) : Int) := rfl
      have e1 : (((n % 20 : Nat) : Int) < ((n % 20 : Nat) : Int)) = False := eq_false (by omega)
      refine ⟨_, ?_, x, g, rfl, rx⟩
      simp only [xsI, a8_l0, envOf, evCode_skip, evCode_exit, evCode_seq, fs_blockS, fs_blockR, fs_blockC, fs_blockK, fs_blockB, evCode_ret, quiet, keep_nil, keep_cons, fs_cond, fs_region, fs_regionQ, quiet2_eq, lastOf_nil, lastOf_cons, List.take_succ_cons, List.take_zero, List.drop_succ_cons, List.drop_zero, Int.reduceBEq, Int.reduceBNe,  fs_nil, fs_guard, fs_move, fs_pick, fs_alloc, fs_box, fs_load, fs_store, fs_bin, fs_eqv, fs_isNil, fs_un, fs_conv, fs_convStr, fs_field, fs_index, fs_indexStr, fs_build, fs_buildSlice, fs_fieldAddr, fs_indexAddr, fs_indexSl, fs_sliceArr, fs_sliceSl, fs_sliceStr, fs_makeSlice, fs_extract, fs_mkIface, fs_mkFunc, fs_nilCheck, fs_s2ap, fs_len, fs_minmax, fs_s2b, fs_b2s, fs_append, fs_copy, fs_callW, fs_callR, fs_callv, opd_tmp, opd_const, opd_func, opds_nil, opds_cons, opdOpt_none, opdOpt_some, opdParts_nil, opdParts_cons, get_miss, vPick_t, vPick_f, vEq_agg, vEq_aggN, vEq_bool, vEq_boolN, vConv_int, vStr_s, vField_agg, vIndex_agg, vIndexStr_s, vFieldAddr_p, vIndexAddr_p, vIndexSl_s, vSliceArr_p, vSliceSl_s, vSliceSl_n, vSliceStr_s, vExtract_t, vNilCheck_p, vS2ap_s, vLen_s, vLen_str, vMin_i, vMax_i, vLoad_p, vStore_p, baseP_p, vB2s_s, vMake_i, vS2b_s, callee_f, liveAt_eq, storeAt_eq, partL_none, partL_some, natIn_none, natIn_int, bounds3_two, bin_add, bin_sub, bin_mul, bin_quo, bin_rem, bin_and, bin_or, bin_xor, bin_andNot, bin_eql, bin_neq, bin_lss, bin_leq, bin_gtr, bin_geq, bin_shl, bin_shr, bin_sadd, bin_seql, bin_sneq, un_not, un_neg, un_xor, after_some, put_some, put_none, res_nil, res_val, res_var, packed_one, packed_two, merge_nil, merge_ge, rf_tup2, rfIn_int, rfIn_bool, rfIn_u8s, rf_str, rfIn_str, ↓gate_true, ↓guardW_tt, ↓guardW_ff, ↓guardW_tf, ↓guardW_ft, ↓keepW_some, ↓qElseW_some, ↓get_hit, ↓Option.bind_some, ↓if_true, ↓if_false, List.nil_append, List.cons_append, List.all_nil, List.all_cons, List.isEmpty_nil, reduceCtorEq, Bool.false_eq_true, Nat.reduceEqDiff, beq_self_eq_true, bne_self_eq_false, Bool.not_true, Bool.not_false, Int.natCast_nonneg, Nat.lt_irrefl, false_and, Int.reduceEq, rf_int, rf_bool, rf_tuple_ints, rf_u8s, arr_list, toList2, Bool.and_self, Nat.not_lt_zero, Nat.sub_zero, Nat.zero_le, Nat.le_add_right, cells_agg, cells_agg_size, cells_int, cells_int_size, okV_int, okV_bool, okV_str, okV_agg, okV_ptr, okV_slice, okV_func, okV_nilFunc, okV_iface, okV_nilIface, cells_bool, cells_bool_size, cells_ptr, cells_ptr_size, cells_slice, cells_slice_size, cells_str, cells_str_size, eq_self, wrapI64_small, Int.natCast_zero, Int.natCast_one, Int.cast_ofNat_Int, List.length_nil, List.length_cons, List.getElem?_cons_zero, List.getElem?_cons_succ, List.set_cons_zero, List.set_cons_succ, Nat.zero_add, Nat.add_zero, Nat.mul_one, Nat.zero_mul, Int.toNat_natCast, Int.toNat_zero, Int.lt_irrefl, Int.le_refl, Nat.le_refl, and_self, true_and, and_true, decide_true, decide_false, Int.reduceLE, Int.reduceLT, Int.reduceAdd, Int.reduceMul, Int.reduceSub, Int.reduceTDiv, Int.reduceTMod, Int.reduceNeg, Int.reduceToNat, Int.reduceGT, Int.reduceGE, Int.reducePow, Nat.reduceAdd, Nat.reduceMul, Nat.reduceSub, Nat.reduceDiv, Nat.reduceMod, Nat.reducePow, Nat.reduceLT, Nat.reduceLeDiff, Nat.min_self, ge_iff_le, gt_iff_lt, Option.isNone_none, Option.isSome_none, Option.isNone_some, Option.isSome_some, Bool.and_true, Bool.true_and, Bool.and_false, Bool.false_and, not_true_eq_false, not_false_eq_true, or_true, true_or, false_or, or_false, w, e1])
  have xk := keyOf_lt (m := n % 20) (by omega)
  obtain ⟨R, hR, rR⟩ := multiply_v rp (keyOf_len (n % 20)) xk
  rw [keyOf_num] at rR
  have k5 := equal_yes rX rR rfl
  have f5 := keyOf_fill (n % 20)
  have lk := keyOf_len (n % 20)
  generalize keyOf (n % 20) = K5 at *
  have w : ((n : Int).tmod 20) = ((n % 20 : Nat) : Int) := rfl
  have g1 := fill40 rp rq
  have g2 := fill40 rq rp
  have g3 := fill40 ES3 rp
  have g4 := fill40 rp ES5
  have p1 := rp.len
  have p2 := rq.len
  have p3 := ES1.len
  have p4 := ES2.len
  have p5 := ES3.len
  have p6 := ES4.len
  have p7 := ES5.len
  have p8 := ES6.len
  have p9 := rX.len
  have p0 := rZ.len
  have hz20 : ∃ O, List.replicate 20 (Value.int .u64 0) = ns .u64 O ∧ O.length = 20 := ⟨List.replicate 20 0, rfl, rfl⟩
  obtain ⟨O, hz20, l0⟩ := hz20
  simp only [xsI, List.length_cons, List.length_nil, Nat.reduceAdd, List.cons_append, List.nil_append, Int.natCast_zero] at hb
  by_cases hpq : p = q
  · rw [decide_eq_true hpq] at k3 k4
    apply Exists.intro
    rw [evFun_fn (fn := a8) rfl]
    simp only [a8, ↓steps_chunk, envOf, evCode_skip, evCode_exit, evCode_seq, fs_blockS, fs_blockR, fs_blockC, fs_blockK, fs_blockB, evCode_ret, quiet, keep_nil, keep_cons, fs_cond, fs_region, fs_regionQ, quiet2_eq, lastOf_nil, lastOf_cons, List.take_succ_cons, List.take_zero, List.drop_succ_cons, List.drop_zero, Int.reduceBEq, Int.reduceBNe,  fs_nil, fs_guard, fs_move, fs_pick, fs_alloc, fs_box, fs_load, fs_store, fs_bin, fs_eqv, fs_isNil, fs_un, fs_conv, fs_convStr, fs_field, fs_index, fs_indexStr, fs_build, fs_buildSlice, fs_fieldAddr, fs_indexAddr, fs_indexSl, fs_sliceArr, fs_sliceSl, fs_sliceStr, fs_makeSlice, fs_extract, fs_mkIface, fs_mkFunc, fs_nilCheck, fs_s2ap, fs_len, fs_minmax, fs_s2b, fs_b2s, fs_append, fs_copy, fs_callW, fs_callR, fs_callv, opd_tmp, opd_const, opd_func, opds_nil, opds_cons, opdOpt_none, opdOpt_some, opdParts_nil, opdParts_cons, get_miss, vPick_t, vPick_f, vEq_agg, vEq_aggN, vEq_bool, vEq_boolN, vConv_int, vStr_s, vField_agg, vIndex_agg, vIndexStr_s, vFieldAddr_p, vIndexAddr_p, vIndexSl_s, vSliceArr_p, vSliceSl_s, vSliceSl_n, vSliceStr_s, vExtract_t, vNilCheck_p, vS2ap_s, vLen_s, vLen_str, vMin_i, vMax_i, vLoad_p, vStore_p, baseP_p, vB2s_s, vMake_i, vS2b_s, callee_f, liveAt_eq, storeAt_eq, partL_none, partL_some, natIn_none, natIn_int, bounds3_two, bin_add, bin_sub, bin_mul, bin_quo, bin_rem, bin_and, bin_or, bin_xor, bin_andNot, bin_eql, bin_neq, bin_lss, bin_leq, bin_gtr, bin_geq, bin_shl, bin_shr, bin_sadd, bin_seql, bin_sneq, un_not, un_neg, un_xor, after_some, put_some, put_none, res_nil, res_val, res_var, packed_one, packed_two, merge_nil, merge_ge, rf_tup2, rfIn_int, rfIn_bool, rfIn_u8s, rf_str, rfIn_str, ↓gate_true, ↓guardW_tt, ↓guardW_ff, ↓guardW_tf, ↓guardW_ft, ↓keepW_some, ↓qElseW_some, ↓get_hit, ↓Option.bind_some, ↓if_true, ↓if_false, List.nil_append, List.cons_append, List.all_nil, List.all_cons, List.isEmpty_nil, reduceCtorEq, Bool.false_eq_true, Nat.reduceEqDiff, beq_self_eq_true, bne_self_eq_false, Bool.not_true, Bool.not_false, Int.natCast_nonneg, Nat.lt_irrefl, false_and, Int.reduceEq, rf_int, rf_bool, rf_tuple_ints, rf_u8s, arr_list, toList2, Bool.and_self, Nat.not_lt_zero, Nat.sub_zero, Nat.zero_le, Nat.le_add_right, cells_agg, cells_agg_size, cells_int, cells_int_size, okV_int, okV_bool, okV_str, okV_agg, okV_ptr, okV_slice, okV_func, okV_nilFunc, okV_iface, okV_nilIface, cells_bool, cells_bool_size, cells_ptr, cells_ptr_size, cells_slice, cells_slice_size, cells_str, cells_str_size, eq_self, wrapI64_small, Int.natCast_zero, Int.natCast_one, Int.cast_ofNat_Int, List.length_nil, List.length_cons, List.getElem?_cons_zero, List.getElem?_cons_succ, List.set_cons_zero, List.set_cons_succ, Nat.zero_add, Nat.add_zero, Nat.mul_one, Nat.zero_mul, Int.toNat_natCast, Int.toNat_zero, Int.lt_irrefl, Int.le_refl, Nat.le_refl, and_self, true_and, and_true, decide_true, decide_false, Int.reduceLE, Int.reduceLT, Int.reduceAdd, Int.reduceMul, Int.reduceSub, Int.reduceTDiv, Int.reduceTMod, Int.reduceNeg, Int.reduceToNat, Int.reduceGT, Int.reduceGE, Int.reducePow, Nat.reduceAdd, Nat.reduceMul, Nat.reduceSub, Nat.reduceDiv, Nat.reduceMod, Nat.reducePow, Nat.reduceLT, Nat.reduceLeDiff, Nat.min_self, ge_iff_le, gt_iff_lt, Option.isNone_none, Option.isSome_none, Option.isNone_some, Option.isSome_some, Bool.and_true, Bool.true_and, Bool.and_false, Bool.false_and, not_true_eq_false, not_false_eq_true, or_true, true_or, false_or, or_false, hget0, hgetK, hset0, hsetK, splice_single, splice_whole, take_whole, List.getElem?_nil, List.length_append, List.append_assoc, hbased, hB, hZ, hP, hQ, hz20, g1, g2, g3, g4, hS1, hS2, hS3, hS4, hS5, hS6, k1, k2, k3, c1, c2, k4, cellsEq_u8, hb, w, f5, hR, k5, List.length_replicate, take_all, eV_cells, eV_size, eV_ok, eV_fold, ns_len, u8s_len, la, lb, lc1, lc2, lk, l0, p0, p1, p2, p3, p4, p5, p6, p7, p8, p9, rf_eV]
    rfl
  · rw [decide_eq_false hpq] at k3 k4
    apply Exists.intro
    rw [evFun_fn (fn := a8) rfl]
    simp only [a8, ↓steps_chunk, envOf, evCode_skip, evCode_exit, evCode_seq, fs_blockS, fs_blockR, fs_blockC, fs_blockK, fs_blockB, evCode_ret, quiet, keep_nil, keep_cons, fs_cond, fs_region, fs_regionQ, quiet2_eq, lastOf_nil, lastOf_cons, List.take_succ_cons, List.take_zero, List.drop_succ_cons, List.drop_zero, Int.reduceBEq, Int.reduceBNe,  fs_nil, fs_guard, fs_move, fs_pick, fs_alloc, fs_box, fs_load, fs_store, fs_bin, fs_eqv, fs_isNil, fs_un, fs_conv, fs_convStr, fs_field, fs_index, fs_indexStr, fs_build, fs_buildSlice, fs_fieldAddr, fs_indexAddr, fs_indexSl, fs_sliceArr, fs_sliceSl, fs_sliceStr, fs_makeSlice, fs_extract, fs_mkIface, fs_mkFunc, fs_nilCheck, fs_s2ap, fs_len, fs_minmax, fs_s2b, fs_b2s, fs_append, fs_copy, fs_callW, fs_callR, fs_callv, opd_tmp, opd_const, opd_func, opds_nil, opds_cons, opdOpt_none, opdOpt_some, opdParts_nil, opdParts_cons, get_miss, vPick_t, vPick_f, vEq_agg, vEq_aggN, vEq_bool, vEq_boolN, vConv_int, vStr_s, vField_agg, vIndex_agg, vIndexStr_s, vFieldAddr_p, vIndexAddr_p, vIndexSl_s, vSliceArr_p, vSliceSl_s, vSliceSl_n, vSliceStr_s, vExtract_t, vNilCheck_p, vS2ap_s, vLen_s, vLen_str, vMin_i, vMax_i, vLoad_p, vStore_p, baseP_p, vB2s_s, vMake_i, vS2b_s, callee_f, liveAt_eq, storeAt_eq, partL_none, partL_some, natIn_none, natIn_int, bounds3_two, bin_add, bin_sub, bin_mul, bin_quo, bin_rem, bin_and, bin_or, bin_xor, bin_andNot, bin_eql, bin_neq, bin_lss, bin_leq, bin_gtr, bin_geq, bin_shl, bin_shr, bin_sadd, bin_seql, bin_sneq, un_not, un_neg, un_xor, after_some, put_some, put_none, res_nil, res_val, res_var, packed_one, packed_two, merge_nil, merge_ge, rf_tup2, rfIn_int, rfIn_bool, rfIn_u8s, rf_str, rfIn_str, ↓gate_true, ↓guardW_tt, ↓guardW_ff, ↓guardW_tf, ↓guardW_ft, ↓keepW_some, ↓qElseW_some, ↓get_hit, ↓Option.bind_some, ↓if_true, ↓if_false, List.nil_append, List.cons_append, List.all_nil, List.all_cons, List.isEmpty_nil, reduceCtorEq, Bool.false_eq_true, Nat.reduceEqDiff, beq_self_eq_true, bne_self_eq_false, Bool.not_true, Bool.not_false, Int.natCast_nonneg, Nat.lt_irrefl, false_and, Int.reduceEq, rf_int, rf_bool, rf_tuple_ints, rf_u8s, arr_list, toList2, Bool.and_self, Nat.not_lt_zero, Nat.sub_zero, Nat.zero_le, Nat.le_add_right, cells_agg, cells_agg_size, cells_int, cells_int_size, okV_int, okV_bool, okV_str, okV_agg, okV_ptr, okV_slice, okV_func, okV_nilFunc, okV_iface, okV_nilIface, cells_bool, cells_bool_size, cells_ptr, cells_ptr_size, cells_slice, cells_slice_size, cells_str, cells_str_size, eq_self, wrapI64_small, Int.natCast_zero, Int.natCast_one, Int.cast_ofNat_Int, List.length_nil, List.length_cons, List.getElem?_cons_zero, List.getElem?_cons_succ, List.set_cons_zero, List.set_cons_succ, Nat.zero_add, Nat.add_zero, Nat.mul_one, Nat.zero_mul, Int.toNat_natCast, Int.toNat_zero, Int.lt_irrefl, Int.le_refl, Nat.le_refl, and_self, true_and, and_true, decide_true, decide_false, Int.reduceLE, Int.reduceLT, Int.reduceAdd, Int.reduceMul, Int.reduceSub, Int.reduceTDiv, Int.reduceTMod, Int.reduceNeg, Int.reduceToNat, Int.reduceGT, Int.reduceGE, Int.reducePow, Nat.reduceAdd, Nat.reduceMul, Nat.reduceSub, Nat.reduceDiv, Nat.reduceMod, Nat.reducePow, Nat.reduceLT, Nat.reduceLeDiff, Nat.min_self, ge_iff_le, gt_iff_lt, Option.isNone_none, Option.isSome_none, Option.isNone_some, Option.isSome_some, Bool.and_true, Bool.true_and, Bool.and_false, Bool.false_and, not_true_eq_false, not_false_eq_true, or_true, true_or, false_or, or_false, hget0, hgetK, hset0, hsetK, splice_single, splice_whole, take_whole, List.getElem?_nil, List.length_append, List.append_assoc, hbased, hB, hZ, hP, hQ, hz20, g1, g2, g3, g4, hS1, hS2, hS3, hS4, hS5, hS6, k1, k2, k3, c1, c2, k4, cellsEq_u8, hb, w, f5, hR, k5, List.length_replicate, take_all, eV_cells, eV_size, eV_ok, eV_fold, ns_len, u8s_len, la, lb, lc1, lc2, lk, l0, p0, p1, p2, p3, p4, p5, p6, p7, p8, p9, rf_eV]
    rfl
end Go.Ev.Ytaceeoghjgggjaa

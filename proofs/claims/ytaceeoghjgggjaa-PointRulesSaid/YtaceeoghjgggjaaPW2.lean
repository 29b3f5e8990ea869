/-
  point: a point and itself together; what they stand for.
-/
import Derived.Test.YtaceeoghjgggjaaPW1
set_option linter.unusedSimpArgs false
set_option linter.unusedVariables false
namespace Go.Ev.Ytaceeoghjgggjaa
open Go Go.Ev
attribute [local congr] bind_congr2 ite_congr2 qElse_congr gate_congr guardV_congr
set_option maxRecDepth 100000

theorem twice_v {x1 y1 z1 t1 : List Nat} (Ex1 : El x1 (2 ^ 52)) (Ey1 : El y1 (2 ^ 52)) (Ez1 : El z1 (2 ^ 52)) (Et1 : El t1 (2 ^ 52)) :
    ∃ x y z t, evVal T 53 [pV x1 y1 z1 t1] = some (pV x y z t) ∧ El x (2 ^ 52) ∧ El y (2 ^ 52) ∧ El z (2 ^ 52) ∧ El t (2 ^ 52) ∧
      ∃ a b c h e g f : Go.Fp.Fe, a = fe x1 * fe x1 ∧ b = fe y1 * fe y1 ∧ c = 1 * 2 * fe z1 * fe z1 ∧ h = a + b ∧ e = h - (fe x1 + fe y1) * (fe x1 + fe y1) ∧ g = a - b ∧ f = c + g ∧
        fe x = e * f ∧ fe y = g * h ∧ fe z = f * g ∧ fe t = e * h := by
  obtain ⟨two, htwo⟩ : ∃ two : List Nat, two = [2, 0, 0, 0, 0] := ⟨_, rfl⟩
  have Etwo : El two (2 ^ 52) := by rw [htwo]; exact two_E
  have vtwo : evVal T 50 [.int .u32 2] = some (eV two) := by rw [htwo]; exact two_v
  have ftwo : fe two = 2 := by rw [htwo]; exact two_fe
  clear htwo
  obtain ⟨r1, hr1, Er1, fr1⟩ := mul_ev Ex1 Ex1
  obtain ⟨r2, hr2, Er2, fr2⟩ := mul_ev Ey1 Ey1
  obtain ⟨r3, hr3, Er3, fr3⟩ := prod_ev (H := [⟨ns .u64 (pL x1 y1 z1 t1), true, true, true, 1⟩, ⟨List.replicate 20 (.int .u64 0), true, true, true, 1⟩, ⟨ns .u64 r1, true, true, true, 1⟩, ⟨ns .u64 r2, true, true, true, 1⟩, ⟨ns .u64 [two, z1, z1].flatten, true, true, true, 1⟩]) (id := 4) (n := 3) (xs := [two, z1, z1]) rfl (by decide) (by intro w hw; simp only [List.mem_cons, List.not_mem_nil, or_false] at hw; rcases hw with rfl | rfl | rfl <;> assumption) rfl
  simp only [List.cons_append, List.nil_append, List.map_cons, List.map_nil, List.foldl_cons, List.foldl_nil] at hr3 fr3
  obtain ⟨r4, sr4, hr4, Er4, fr4⟩ := add2_ev (H := [⟨ns .u64 (pL x1 y1 z1 t1), true, true, true, 1⟩, ⟨List.replicate 20 (.int .u64 0), true, true, true, 1⟩, ⟨ns .u64 r1, true, true, true, 1⟩, ⟨ns .u64 r2, true, true, true, 1⟩, ⟨ns .u64 [two, z1, z1].flatten, true, true, true, 1⟩, ⟨ns .u64 r3, true, true, true, 1⟩, ⟨ns .u64 r3, true, true, true, 1⟩, ⟨ns .u64 two, true, true, true, 1⟩, ⟨ns .u64 z1, true, true, true, 1⟩, ⟨ns .u64 z1, true, true, true, 1⟩, ⟨ns .u64 r3, true, true, true, 1⟩, ⟨ns .u64 (r1 ++ r2), true, true, true, 1⟩]) (id := 11) Er1 Er2 rfl
  simp only [List.cons_append, List.nil_append] at hr4
  obtain ⟨r5, sr5, hr5, Er5, fr5⟩ := add2_ev (H := [⟨ns .u64 (pL x1 y1 z1 t1), true, true, true, 1⟩, ⟨List.replicate 20 (.int .u64 0), true, true, true, 1⟩, ⟨ns .u64 r1, true, true, true, 1⟩, ⟨ns .u64 r2, true, true, true, 1⟩, ⟨ns .u64 [two, z1, z1].flatten, true, true, true, 1⟩, ⟨ns .u64 r3, true, true, true, 1⟩, ⟨ns .u64 r3, true, true, true, 1⟩, ⟨ns .u64 two, true, true, true, 1⟩, ⟨ns .u64 z1, true, true, true, 1⟩, ⟨ns .u64 z1, true, true, true, 1⟩, ⟨ns .u64 r3, true, true, true, 1⟩, ⟨ns .u64 (r1 ++ r2), true, true, true, 1⟩, ⟨ns .u64 r4, true, true, true, 1⟩, ⟨ns .u64 sr4, true, true, true, 1⟩, ⟨ns .u64 r1, true, true, true, 1⟩, ⟨ns .u64 r2, true, true, true, 1⟩, ⟨ns .u64 r4, true, true, true, 1⟩, ⟨ns .u64 (x1 ++ y1), true, true, true, 1⟩]) (id := 17) Ex1 Ey1 rfl
  simp only [List.cons_append, List.nil_append] at hr5
  obtain ⟨r6, hr6, Er6, fr6⟩ := mul_ev Er5 Er5
  obtain ⟨r7, hr7, Er7, fr7⟩ := sub_v Er4 Er6
  obtain ⟨r8, hr8, Er8, fr8⟩ := sub_v Er1 Er2
  obtain ⟨r9, sr9, hr9, Er9, fr9⟩ := add2_ev (H := [⟨ns .u64 (pL x1 y1 z1 t1), true, true, true, 1⟩, ⟨List.replicate 20 (.int .u64 0), true, true, true, 1⟩, ⟨ns .u64 r1, true, true, true, 1⟩, ⟨ns .u64 r2, true, true, true, 1⟩, ⟨ns .u64 [two, z1, z1].flatten, true, true, true, 1⟩, ⟨ns .u64 r3, true, true, true, 1⟩, ⟨ns .u64 r3, true, true, true, 1⟩, ⟨ns .u64 two, true, true, true, 1⟩, ⟨ns .u64 z1, true, true, true, 1⟩, ⟨ns .u64 z1, true, true, true, 1⟩, ⟨ns .u64 r3, true, true, true, 1⟩, ⟨ns .u64 (r1 ++ r2), true, true, true, 1⟩, ⟨ns .u64 r4, true, true, true, 1⟩, ⟨ns .u64 sr4, true, true, true, 1⟩, ⟨ns .u64 r1, true, true, true, 1⟩, ⟨ns .u64 r2, true, true, true, 1⟩, ⟨ns .u64 r4, true, true, true, 1⟩, ⟨ns .u64 (x1 ++ y1), true, true, true, 1⟩, ⟨ns .u64 r5, true, true, true, 1⟩, ⟨ns .u64 sr5, true, true, true, 1⟩, ⟨ns .u64 x1, true, true, true, 1⟩, ⟨ns .u64 y1, true, true, true, 1⟩, ⟨ns .u64 r5, true, true, true, 1⟩, ⟨ns .u64 r7, true, true, true, 1⟩, ⟨ns .u64 r8, true, true, true, 1⟩, ⟨ns .u64 (r3 ++ r8), true, true, true, 1⟩]) (id := 25) Er3 Er8 rfl
  simp only [List.cons_append, List.nil_append] at hr9
  obtain ⟨r10, hr10, Er10, fr10⟩ := mul_ev Er7 Er9
  obtain ⟨r11, hr11, Er11, fr11⟩ := mul_ev Er8 Er4
  obtain ⟨r12, hr12, Er12, fr12⟩ := mul_ev Er9 Er8
  obtain ⟨r13, hr13, Er13, fr13⟩ := mul_ev Er7 Er4
  refine ⟨r10, r11, r12, r13, ?_, Er10, Er11, Er12, Er13, fe r1, fe r2, fe r3, fe r4, fe r7, fe r8, fe r9, ?_⟩
  · obtain ⟨q10, q11, q12, q13⟩ := quad Ex1 Ey1 Ez1 Et1
    have p1 := pL_len Ex1 Ey1 Ez1 Et1
    have p3 := pL_len Er10 Er11 Er12 Er13
    have k3 := fill3 Etwo Ez1 Ez1
    have kp := fill4 Er10 Er11 Er12 Er13
    have m1 := fill2 Er1 Er2
    have m2 := fill2 Ex1 Ey1
    have m3 := fill2 Er3 Er8
    have Lx1 := Ex1.len
    have Ly1 := Ey1.len
    have Lz1 := Ez1.len
    have Lt1 := Et1.len
    have Ltwo := Etwo.len
    have Lr1 := Er1.len
    have Lr2 := Er2.len
    have Lr3 := Er3.len
    have Lr4 := Er4.len
    have Lr5 := Er5.len
    have Lr6 := Er6.len
    have Lr7 := Er7.len
    have Lr8 := Er8.len
    have Lr9 := Er9.len
    have Lr10 := Er10.len
    have Lr11 := Er11.len
    have Lr12 := Er12.len
    have Lr13 := Er13.len
    apply evVal_ex
    apply Exists.intro
    rw [evFun_fn (fn := a53) rfl]
    simp only [a53, envOf, evCode_skip, evCode_exit, evCode_seq, fs_blockS, fs_blockR, fs_blockC, fs_blockK, fs_blockB, evCode_ret, quiet, keep_nil, keep_cons, fs_cond, fs_region, fs_regionQ, quiet2_eq, lastOf_nil, lastOf_cons, List.take_succ_cons, List.take_zero, List.drop_succ_cons, List.drop_zero, Int.reduceBEq, Int.reduceBNe,  fs_nil, fs_guard, fs_move, fs_pick, fs_alloc, fs_box, fs_load, fs_store, fs_bin, fs_eqv, fs_isNil, fs_un, fs_conv, fs_convStr, fs_field, fs_index, fs_indexStr, fs_build, fs_buildSlice, fs_fieldAddr, fs_indexAddr, fs_indexSl, fs_sliceArr, fs_sliceSl, fs_sliceStr, fs_makeSlice, fs_extract, fs_mkIface, fs_mkFunc, fs_nilCheck, fs_s2ap, fs_len, fs_minmax, fs_s2b, fs_b2s, fs_append, fs_copy, fs_callW, fs_callR, fs_callv, opd_tmp, opd_const, opd_func, opds_nil, opds_cons, opdOpt_none, opdOpt_some, opdParts_nil, opdParts_cons, get_miss, vPick_t, vPick_f, vEq_agg, vEq_aggN, vEq_bool, vEq_boolN, vConv_int, vStr_s, vField_agg, vIndex_agg, vIndexStr_s, vFieldAddr_p, vIndexAddr_p, vIndexSl_s, vSliceArr_p, vSliceSl_s, vSliceSl_n, vSliceStr_s, vExtract_t, vNilCheck_p, vS2ap_s, vLen_s, vLen_str, vMin_i, vMax_i, vLoad_p, vStore_p, baseP_p, vB2s_s, vMake_i, vS2b_s, callee_f, liveAt_eq, storeAt_eq, partL_none, partL_some, natIn_none, natIn_int, bounds3_two, bin_add, bin_sub, bin_mul, bin_quo, bin_rem, bin_and, bin_or, bin_xor, bin_andNot, bin_eql, bin_neq, bin_lss, bin_leq, bin_gtr, bin_geq, bin_shl, bin_shr, bin_sadd, bin_seql, bin_sneq, un_not, un_neg, un_xor, after_some, put_some, put_none, res_nil, res_val, res_var, packed_one, packed_two, merge_nil, merge_ge, rf_tup2, rfIn_int, rfIn_bool, rfIn_u8s, rf_str, rfIn_str, ↓gate_true, ↓guardV_tt, ↓guardV_ff, ↓guardV_tf, ↓guardV_ft, ↓keepV_some, ↓qElse_some, ↓get_hit, ↓Option.bind_some, ↓if_true, ↓if_false, List.nil_append, List.cons_append, List.all_nil, List.all_cons, List.isEmpty_nil, reduceCtorEq, Bool.false_eq_true, Nat.reduceEqDiff, beq_self_eq_true, bne_self_eq_false, Bool.not_true, Bool.not_false, Int.natCast_nonneg, Nat.lt_irrefl, false_and, Int.reduceEq, rf_int, rf_bool, rf_tuple_ints, rf_u8s, arr_list, toList2, Bool.and_self, Nat.not_lt_zero, Nat.sub_zero, Nat.zero_le, Nat.le_add_right, cells_agg, cells_agg_size, cells_int, cells_int_size, okV_int, okV_bool, okV_str, okV_agg, okV_ptr, okV_slice, okV_func, okV_nilFunc, okV_iface, okV_nilIface, cells_bool, cells_bool_size, cells_ptr, cells_ptr_size, cells_slice, cells_slice_size, cells_str, cells_str_size, eq_self, wrapI64_small, Int.natCast_zero, Int.natCast_one, Int.cast_ofNat_Int, List.length_nil, List.length_cons, List.getElem?_cons_zero, List.getElem?_cons_succ, List.set_cons_zero, List.set_cons_succ, Nat.zero_add, Nat.add_zero, Nat.mul_one, Nat.zero_mul, Int.toNat_natCast, Int.toNat_zero, Int.lt_irrefl, Int.le_refl, Nat.le_refl, and_self, true_and, and_true, decide_true, decide_false, Int.reduceLE, Int.reduceLT, Int.reduceAdd, Int.reduceMul, Int.reduceSub, Int.reduceTDiv, Int.reduceTMod, Int.reduceNeg, Int.reduceToNat, Int.reduceGT, Int.reduceGE, Int.reducePow, Nat.reduceAdd, Nat.reduceMul, Nat.reduceSub, Nat.reduceDiv, Nat.reduceMod, Nat.reducePow, Nat.reduceLT, Nat.reduceLeDiff, Nat.min_self, ge_iff_le, gt_iff_lt, Option.isNone_none, Option.isSome_none, Option.isNone_some, Option.isSome_some, Bool.and_true, Bool.true_and, Bool.and_false, Bool.false_and, not_true_eq_false, not_false_eq_true, or_true, true_or, false_or, or_false, hget0, hgetK, hset0, hsetK, splice_single, splice_whole, take_whole, List.getElem?_nil, List.length_append, List.append_assoc, List.length_replicate, take_all, pV_cells, pV_size, pV_ok, pV_fold, rf_pV, eV_cells, eV_size, eV_ok, eV_fold, rf_eV, ns_len, q10, q11, q12, q13, p1, p3, k3, kp, m1, m2, m3, vtwo, hr1, hr2, hr3, hr4, hr5, hr6, hr7, hr8, hr9, hr10, hr11, hr12, hr13, Lx1, Ly1, Lz1, Lt1, Ltwo, Lr1, Lr2, Lr3, Lr4, Lr5, Lr6, Lr7, Lr8, Lr9, Lr10, Lr11, Lr12, Lr13]
    rfl
  · refine ⟨fr1, fr2, by rw [fr3, ftwo], fr4, by rw [fr7, fr6, fr5], fr8, fr9, ?_, ?_, ?_, ?_⟩
    · rw [fr10]
    · rw [fr11]
    · rw [fr12]
    · rw [fr13]

/-- What four elements stand for. -/
structure Rep (x y z t : List Nat) (p : Go.Cv.Pt Go.Fp.P Go.Fp.d) : Prop where
  ex : El x (2 ^ 52)
  ey : El y (2 ^ 52)
  ez : El z (2 ^ 52)
  et : El t (2 ^ 52)
  nz : fe z ≠ 0
  x : fe x = p.x * fe z
  y : fe y = p.y * fe z
  t : fe t = p.x * p.y * fe z
abbrev padd (p q : Go.Cv.Pt Go.Fp.P Go.Fp.d) : Go.Cv.Pt Go.Fp.P Go.Fp.d := Go.Cv.Pt.add Go.Fp.fld p q
abbrev pmul (k : Nat) (p : Go.Cv.Pt Go.Fp.P Go.Fp.d) : Go.Cv.Pt Go.Fp.P Go.Fp.d := Go.Cv.Pt.mul Go.Fp.fld k p
abbrev pzero : Go.Cv.Pt Go.Fp.P Go.Fp.d := Go.Cv.Pt.zero
theorem plus_math {x1 y1 z1 t1 x2 y2 z2 t2 dd a b c e x y z t px py qx qy rx ry : Go.Fp.Fe} (hx1 : x1 = px * z1) (hy1 : y1 = py * z1) (ht1 : t1 = px * py * z1) (hx2 : x2 = qx * z2) (hy2 : y2 = qy * z2) (ht2 : t2 = qx * qy * z2)
    (ha : a = (y1 - x1) * (y2 - x2)) (hb : b = (y1 + x1) * (y2 + x2)) (hc : c = 1 * 2 * dd * t1 * t2) (he : e = 1 * 2 * z1 * z2) (hx : x = (b - a) * (e - c)) (hy : y = (e + c) * (b + a)) (hz : z = (e - c) * (e + c)) (ht : t = (b - a) * (b + a))
    (hrx : rx * (1 + dd * px * qx * py * qy) = px * qy + qx * py) (hry : ry * (1 - dd * px * qx * py * qy) = py * qy + px * qx) :
    x = rx * z ∧ y = ry * z ∧ t = rx * ry * z ∧ z = (2 * z1 * z2) * (2 * z1 * z2) * ((1 - dd * px * qx * py * qy) * (1 + dd * px * qx * py * qy)) := by
  have e1 : b - a = (2 * z1 * z2) * (px * qy + qx * py) := by rw [hb, ha, hx1, hy1, hx2, hy2]; grobner
  have e2 : b + a = (2 * z1 * z2) * (py * qy + px * qx) := by rw [hb, ha, hx1, hy1, hx2, hy2]; grobner
  have e3 : e - c = (2 * z1 * z2) * (1 - dd * px * qx * py * qy) := by rw [he, hc, ht1, ht2]; grobner
  have e4 : e + c = (2 * z1 * z2) * (1 + dd * px * qx * py * qy) := by rw [he, hc, ht1, ht2]; grobner
  rw [e1, ← hrx, e3] at hx
  rw [e4, e2, ← hry] at hy
  rw [e3, e4] at hz
  rw [e1, e2, ← hrx, ← hry] at ht
  clear hx1 hy1 ht1 hx2 hy2 ht2 ha hb hc he hrx hry e1 e2 e3 e4
  generalize 1 + dd * px * qx * py * qy = k at *
  generalize 1 - dd * px * qx * py * qy = m at *
  generalize 2 * z1 * z2 = w at *
  subst hx hy hz ht
  refine ⟨?_, ?_, ?_, ?_⟩ <;> grobner
theorem Rep.plus {x1 y1 z1 t1 x2 y2 z2 t2 d : List Nat} {p q : Go.Cv.Pt Go.Fp.P Go.Fp.d} (h1 : Rep x1 y1 z1 t1 p) (h2 : Rep x2 y2 z2 t2 q) (Ed : El d (2 ^ 52)) (hd : fe d = Go.Fp.d) :
    ∃ x y z t, evVal T 54 [pV x1 y1 z1 t1, pV x2 y2 z2 t2, eV d] = some (pV x y z t) ∧ Rep x y z t (padd p q) := by
  obtain ⟨x, y, z, t, hv, Ex, Ey, Ez, Et, a, b, c, e, ha, hb, hc, he, hx, hy, hz, ht⟩ := plus_v h1.ex h1.ey h1.ez h1.et h2.ex h2.ey h2.ez h2.et Ed
  rw [hd] at hc
  obtain ⟨g1, g2, g3, g4⟩ := plus_math h1.x h1.y h1.t h2.x h2.y h2.t ha hb hc he hx hy hz ht (Go.Cv.add_x Go.Fp.fld p q) (Go.Cv.add_y Go.Fp.fld p q)
  refine ⟨x, y, z, t, hv, Ex, Ey, Ez, Et, ?_, g1, g2, g3⟩
  rw [g4]
  have F := Go.Fp.fld
  have w := F.mul_ne (F.mul_ne F.two h1.nz) h2.nz
  exact F.mul_ne (F.mul_ne w w) (F.mul_ne (F.denM p.on q.on) (F.denP p.on q.on))
theorem twice_math {x1 y1 z1 dd a b c h e g f x y z t px py rx ry : Go.Fp.Fe} (hx1 : x1 = px * z1) (hy1 : y1 = py * z1) (on : -(px * px) + py * py = 1 + dd * (px * px) * (py * py))
    (ha : a = x1 * x1) (hb : b = y1 * y1) (hc : c = 1 * 2 * z1 * z1) (hh : h = a + b) (he : e = h - (x1 + y1) * (x1 + y1)) (hg : g = a - b) (hf : f = c + g) (hx : x = e * f) (hy : y = g * h) (hz : z = f * g) (ht : t = e * h)
    (hrx : rx * (1 + dd * px * px * py * py) = px * py + px * py) (hry : ry * (1 - dd * px * px * py * py) = py * py + px * px) :
    x = rx * z ∧ y = ry * z ∧ t = rx * ry * z ∧ z = -((z1 * z1) * (z1 * z1) * ((1 - dd * px * px * py * py) * (1 + dd * px * px * py * py))) := by
  have e1 : e = -((z1 * z1) * (px * py + px * py)) := by rw [he, hh, ha, hb, hx1, hy1]; grobner
  have e2 : h = (z1 * z1) * (py * py + px * px) := by rw [hh, ha, hb, hx1, hy1]; grobner
  have e3 : g = -((z1 * z1) * (1 + dd * px * px * py * py)) := by
    have : 1 + dd * px * px * py * py = py * py - px * px := by
      clear hx1 hy1 ha hb hc hh he hg hf hx hy hz ht hrx hry e1 e2
      grobner
    rw [this, hg, ha, hb, hx1, hy1]; grobner
  have e4 : f = (z1 * z1) * (1 - dd * px * px * py * py) := by
    rw [hf, e3, hc]
    clear hx1 hy1 on ha hb hc hh he hg hf hx hy hz ht hrx hry e1 e2 e3
    grobner
  rw [← hrx] at e1
  rw [← hry] at e2
  clear hx1 hy1 on ha hb hc hh he hg hf hrx hry
  generalize 1 + dd * px * px * py * py = k at *
  generalize 1 - dd * px * px * py * py = m at *
  generalize z1 * z1 = w at *
  subst e1 e2 e3 e4 hx hy hz ht
  refine ⟨?_, ?_, ?_, ?_⟩ <;> grobner
theorem Rep.twice {x1 y1 z1 t1 : List Nat} {p : Go.Cv.Pt Go.Fp.P Go.Fp.d} (h1 : Rep x1 y1 z1 t1 p) : ∃ x y z t, evVal T 53 [pV x1 y1 z1 t1] = some (pV x y z t) ∧ Rep x y z t (padd p p) := by
  obtain ⟨x, y, z, t, hv, Ex, Ey, Ez, Et, a, b, c, h, e, g, f, ha, hb, hc, hh, he, hg, hf, hx, hy, hz, ht⟩ := twice_v h1.ex h1.ey h1.ez h1.et
  obtain ⟨g1, g2, g3, g4⟩ := twice_math h1.x h1.y p.on ha hb hc hh he hg hf hx hy hz ht (Go.Cv.add_x Go.Fp.fld p p) (Go.Cv.add_y Go.Fp.fld p p)
  refine ⟨x, y, z, t, hv, Ex, Ey, Ez, Et, ?_, g1, g2, g3⟩
  rw [g4]
  have F := Go.Fp.fld
  have w := F.mul_ne h1.nz h1.nz
  have n := F.mul_ne (F.mul_ne w w) (F.mul_ne (F.denM p.on p.on) (F.denP p.on p.on))
  intro h0
  exact n (by grobner)
end Go.Ev.Ytaceeoghjgggjaa

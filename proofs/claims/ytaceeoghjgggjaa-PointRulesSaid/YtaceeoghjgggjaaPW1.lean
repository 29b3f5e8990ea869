/-
  point: two points together; a point and itself together.
-/
import Derived.Test.YtaceeoghjgggjaaFW8
import Derived.Test.YtaceeoghjgggjaaEvQ
set_option linter.unusedSimpArgs false
set_option linter.unusedVariables false
namespace Go.Ev.Ytaceeoghjgggjaa
open Go Go.Ev
attribute [local congr] bind_congr2 ite_congr2 qElse_congr gate_congr guardV_congr
set_option maxRecDepth 100000

theorem take_all {cs : List Value} {n : Nat} (h : cs.length = n) : cs.take n = cs := List.take_of_length_le (by omega)
def pL (x y z t : List Nat) : List Nat := x ++ (y ++ (z ++ t))
def pV (x y z t : List Nat) : Value := .agg (ns .u64 (pL x y z t)).toArray
theorem rf_pV (x y z t : List Nat) : rf (pV x y z t) = true := rf_ns _ _
theorem pV_cells (x y z t : List Nat) : (pV x y z t).cells.toList = ns .u64 (pL x y z t) := rfl
theorem pV_size (x y z t : List Nat) : (pV x y z t).cells.size = (pL x y z t).length := ns_len _ _
theorem pV_ok (x y z t : List Nat) : okVar (pV x y z t) = true := rfl
theorem pV_fold (x y z t : List Nat) : Value.agg (ns .u64 (pL x y z t)).toArray = pV x y z t := rfl
theorem pL_len {x y z t : List Nat} {b : Nat} (hx : El x b) (hy : El y b) (hz : El z b) (ht : El t b) : (pL x y z t).length = 20 := by
  simp [pL, hx.len, hy.len, hz.len, ht.len]
theorem quad {x y z t : List Nat} {b : Nat} (hx : El x b) (hy : El y b) (hz : El z b) (ht : El t b) :
    List.take 5 (ns .u64 (pL x y z t)) = ns .u64 x ∧ List.take 5 (List.drop 5 (ns .u64 (pL x y z t))) = ns .u64 y ∧ List.take 5 (List.drop 10 (ns .u64 (pL x y z t))) = ns .u64 z ∧ List.take 5 (List.drop 15 (ns .u64 (pL x y z t))) = ns .u64 t := by
  obtain ⟨a0, a1, a2, a3, a4, rfl, -⟩ := hx.five
  obtain ⟨b0, b1, b2, b3, b4, rfl, -⟩ := hy.five
  obtain ⟨c0, c1, c2, c3, c4, rfl, -⟩ := hz.five
  obtain ⟨d0, d1, d2, d3, d4, rfl, -⟩ := ht.five
  exact ⟨rfl, rfl, rfl, rfl⟩
theorem fill2 {a b : List Nat} {k : Nat} (ha : El a k) (hb : El b k) : fillL (List.replicate 10 (Value.int .u64 0)) [(0, 5, eV a), (5, 5, eV b)] = some (ns .u64 (a ++ b)) := by
  obtain ⟨a0, a1, a2, a3, a4, rfl, -⟩ := ha.five
  obtain ⟨b0, b1, b2, b3, b4, rfl, -⟩ := hb.five
  rfl
theorem fill3 {a b c : List Nat} {k : Nat} (ha : El a k) (hb : El b k) (hc : El c k) : fillL (List.replicate 15 (Value.int .u64 0)) [(0, 5, eV a), (5, 5, eV b), (10, 5, eV c)] = some (ns .u64 [a, b, c].flatten) := by
  obtain ⟨a0, a1, a2, a3, a4, rfl, -⟩ := ha.five
  obtain ⟨b0, b1, b2, b3, b4, rfl, -⟩ := hb.five
  obtain ⟨c0, c1, c2, c3, c4, rfl, -⟩ := hc.five
  rfl
theorem fill4 {a b c d : List Nat} {k : Nat} (ha : El a k) (hb : El b k) (hc : El c k) (hd : El d k) : fillL (List.replicate 20 (Value.int .u64 0)) [(0, 5, eV a), (5, 5, eV b), (10, 5, eV c), (15, 5, eV d)] = some (ns .u64 (pL a b c d)) := by
  obtain ⟨a0, a1, a2, a3, a4, rfl, -⟩ := ha.five
  obtain ⟨b0, b1, b2, b3, b4, rfl, -⟩ := hb.five
  obtain ⟨c0, c1, c2, c3, c4, rfl, -⟩ := hc.five
  obtain ⟨d0, d1, d2, d3, d4, rfl, -⟩ := hd.five
  rfl
theorem pL_flat (a b c d : List Nat) : pL a b c d = [a, b, c, d].flatten := by simp [pL]
theorem two_E : El [2, 0, 0, 0, 0] (2 ^ 52) := small_el (by decide)
theorem two_v : evVal T 50 [.int .u32 2] = some (eV [2, 0, 0, 0, 0]) := small_v (n := 2) (by decide)
theorem two_fe : fe [2, 0, 0, 0, 0] = 2 := by rw [small_fe]; rfl

theorem plus_v {x1 y1 z1 t1 x2 y2 z2 t2 d : List Nat} (Ex1 : El x1 (2 ^ 52)) (Ey1 : El y1 (2 ^ 52)) (Ez1 : El z1 (2 ^ 52)) (Et1 : El t1 (2 ^ 52)) (Ex2 : El x2 (2 ^ 52)) (Ey2 : El y2 (2 ^ 52)) (Ez2 : El z2 (2 ^ 52)) (Et2 : El t2 (2 ^ 52)) (Ed : El d (2 ^ 52)) :
    ∃ x y z t, evVal T 54 [pV x1 y1 z1 t1, pV x2 y2 z2 t2, eV d] = some (pV x y z t) ∧ El x (2 ^ 52) ∧ El y (2 ^ 52) ∧ El z (2 ^ 52) ∧ El t (2 ^ 52) ∧
      ∃ a b c e : Go.Fp.Fe, a = (fe y1 - fe x1) * (fe y2 - fe x2) ∧ b = (fe y1 + fe x1) * (fe y2 + fe x2) ∧ c = 1 * 2 * fe d * fe t1 * fe t2 ∧ e = 1 * 2 * fe z1 * fe z2 ∧
        fe x = (b - a) * (e - c) ∧ fe y = (e + c) * (b + a) ∧ fe z = (e - c) * (e + c) ∧ fe t = (b - a) * (b + a) := by
  obtain ⟨two, htwo⟩ : ∃ two : List Nat, two = [2, 0, 0, 0, 0] := ⟨_, rfl⟩
  have Etwo : El two (2 ^ 52) := by rw [htwo]; exact two_E
  have vtwo : evVal T 50 [.int .u32 2] = some (eV two) := by rw [htwo]; exact two_v
  have ftwo : fe two = 2 := by rw [htwo]; exact two_fe
  clear htwo
  obtain ⟨r1, hr1, Er1, fr1⟩ := sub_v Ey1 Ex1
  obtain ⟨r2, hr2, Er2, fr2⟩ := sub_v Ey2 Ex2
  obtain ⟨r3, hr3, Er3, fr3⟩ := mul_ev Er1 Er2
  obtain ⟨r4, sr4, hr4, Er4, fr4⟩ := add2_ev (H := [⟨ns .u64 (pL x1 y1 z1 t1), true, true, true, 1⟩, ⟨ns .u64 (pL x2 y2 z2 t2), true, true, true, 1⟩, ⟨ns .u64 d, true, true, true, 1⟩, ⟨List.replicate 20 (.int .u64 0), true, true, true, 1⟩, ⟨ns .u64 r3, true, true, true, 1⟩, ⟨ns .u64 (y1 ++ x1), true, true, true, 1⟩]) (id := 5) Ey1 Ex1 rfl
  simp only [List.cons_append, List.nil_append] at hr4
  obtain ⟨r5, sr5, hr5, Er5, fr5⟩ := add2_ev (H := [⟨ns .u64 (pL x1 y1 z1 t1), true, true, true, 1⟩, ⟨ns .u64 (pL x2 y2 z2 t2), true, true, true, 1⟩, ⟨ns .u64 d, true, true, true, 1⟩, ⟨List.replicate 20 (.int .u64 0), true, true, true, 1⟩, ⟨ns .u64 r3, true, true, true, 1⟩, ⟨ns .u64 (y1 ++ x1), true, true, true, 1⟩, ⟨ns .u64 r4, true, true, true, 1⟩, ⟨ns .u64 sr4, true, true, true, 1⟩, ⟨ns .u64 y1, true, true, true, 1⟩, ⟨ns .u64 x1, true, true, true, 1⟩, ⟨ns .u64 (y2 ++ x2), true, true, true, 1⟩]) (id := 10) Ey2 Ex2 rfl
  simp only [List.cons_append, List.nil_append] at hr5
  obtain ⟨r6, hr6, Er6, fr6⟩ := mul_ev Er4 Er5
  obtain ⟨r7, hr7, Er7, fr7⟩ := prod_ev (H := [⟨ns .u64 (pL x1 y1 z1 t1), true, true, true, 1⟩, ⟨ns .u64 (pL x2 y2 z2 t2), true, true, true, 1⟩, ⟨ns .u64 d, true, true, true, 1⟩, ⟨List.replicate 20 (.int .u64 0), true, true, true, 1⟩, ⟨ns .u64 r3, true, true, true, 1⟩, ⟨ns .u64 (y1 ++ x1), true, true, true, 1⟩, ⟨ns .u64 r4, true, true, true, 1⟩, ⟨ns .u64 sr4, true, true, true, 1⟩, ⟨ns .u64 y1, true, true, true, 1⟩, ⟨ns .u64 x1, true, true, true, 1⟩, ⟨ns .u64 (y2 ++ x2), true, true, true, 1⟩, ⟨ns .u64 r5, true, true, true, 1⟩, ⟨ns .u64 sr5, true, true, true, 1⟩, ⟨ns .u64 y2, true, true, true, 1⟩, ⟨ns .u64 x2, true, true, true, 1⟩, ⟨ns .u64 r6, true, true, true, 1⟩, ⟨ns .u64 [two, d, t1, t2].flatten, true, true, true, 1⟩]) (id := 16) (n := 4) (xs := [two, d, t1, t2]) rfl (by decide) (by intro w hw; simp only [List.mem_cons, List.not_mem_nil, or_false] at hw; rcases hw with rfl | rfl | rfl | rfl <;> assumption) rfl
  simp only [List.cons_append, List.nil_append, List.map_cons, List.map_nil, List.foldl_cons, List.foldl_nil] at hr7 fr7
  obtain ⟨r8, hr8, Er8, fr8⟩ := prod_ev (H := [⟨ns .u64 (pL x1 y1 z1 t1), true, true, true, 1⟩, ⟨ns .u64 (pL x2 y2 z2 t2), true, true, true, 1⟩, ⟨ns .u64 d, true, true, true, 1⟩, ⟨List.replicate 20 (.int .u64 0), true, true, true, 1⟩, ⟨ns .u64 r3, true, true, true, 1⟩, ⟨ns .u64 (y1 ++ x1), true, true, true, 1⟩, ⟨ns .u64 r4, true, true, true, 1⟩, ⟨ns .u64 sr4, true, true, true, 1⟩, ⟨ns .u64 y1, true, true, true, 1⟩, ⟨ns .u64 x1, true, true, true, 1⟩, ⟨ns .u64 (y2 ++ x2), true, true, true, 1⟩, ⟨ns .u64 r5, true, true, true, 1⟩, ⟨ns .u64 sr5, true, true, true, 1⟩, ⟨ns .u64 y2, true, true, true, 1⟩, ⟨ns .u64 x2, true, true, true, 1⟩, ⟨ns .u64 r6, true, true, true, 1⟩, ⟨ns .u64 [two, d, t1, t2].flatten, true, true, true, 1⟩, ⟨ns .u64 r7, true, true, true, 1⟩, ⟨ns .u64 r7, true, true, true, 1⟩, ⟨ns .u64 two, true, true, true, 1⟩, ⟨ns .u64 d, true, true, true, 1⟩, ⟨ns .u64 t1, true, true, true, 1⟩, ⟨ns .u64 t2, true, true, true, 1⟩, ⟨ns .u64 r7, true, true, true, 1⟩, ⟨ns .u64 [two, z1, z2].flatten, true, true, true, 1⟩]) (id := 24) (n := 3) (xs := [two, z1, z2]) rfl (by decide) (by intro w hw; simp only [List.mem_cons, List.not_mem_nil, or_false] at hw; rcases hw with rfl | rfl | rfl <;> assumption) rfl
  simp only [List.cons_append, List.nil_append, List.map_cons, List.map_nil, List.foldl_cons, List.foldl_nil] at hr8 fr8
  obtain ⟨r9, hr9, Er9, fr9⟩ := sub_v Er6 Er3
  obtain ⟨r10, hr10, Er10, fr10⟩ := sub_v Er8 Er7
  obtain ⟨r11, sr11, hr11, Er11, fr11⟩ := add2_ev (H := [⟨ns .u64 (pL x1 y1 z1 t1), true, true, true, 1⟩, ⟨ns .u64 (pL x2 y2 z2 t2), true, true, true, 1⟩, ⟨ns .u64 d, true, true, true, 1⟩, ⟨List.replicate 20 (.int .u64 0), true, true, true, 1⟩, ⟨ns .u64 r3, true, true, true, 1⟩, ⟨ns .u64 (y1 ++ x1), true, true, true, 1⟩, ⟨ns .u64 r4, true, true, true, 1⟩, ⟨ns .u64 sr4, true, true, true, 1⟩, ⟨ns .u64 y1, true, true, true, 1⟩, ⟨ns .u64 x1, true, true, true, 1⟩, ⟨ns .u64 (y2 ++ x2), true, true, true, 1⟩, ⟨ns .u64 r5, true, true, true, 1⟩, ⟨ns .u64 sr5, true, true, true, 1⟩, ⟨ns .u64 y2, true, true, true, 1⟩, ⟨ns .u64 x2, true, true, true, 1⟩, ⟨ns .u64 r6, true, true, true, 1⟩, ⟨ns .u64 [two, d, t1, t2].flatten, true, true, true, 1⟩, ⟨ns .u64 r7, true, true, true, 1⟩, ⟨ns .u64 r7, true, true, true, 1⟩, ⟨ns .u64 two, true, true, true, 1⟩, ⟨ns .u64 d, true, true, true, 1⟩, ⟨ns .u64 t1, true, true, true, 1⟩, ⟨ns .u64 t2, true, true, true, 1⟩, ⟨ns .u64 r7, true, true, true, 1⟩, ⟨ns .u64 [two, z1, z2].flatten, true, true, true, 1⟩, ⟨ns .u64 r8, true, true, true, 1⟩, ⟨ns .u64 r8, true, true, true, 1⟩, ⟨ns .u64 two, true, true, true, 1⟩, ⟨ns .u64 z1, true, true, true, 1⟩, ⟨ns .u64 z2, true, true, true, 1⟩, ⟨ns .u64 r8, true, true, true, 1⟩, ⟨ns .u64 (r8 ++ r7), true, true, true, 1⟩]) (id := 31) Er8 Er7 rfl
  simp only [List.cons_append, List.nil_append] at hr11
  obtain ⟨r12, sr12, hr12, Er12, fr12⟩ := add2_ev (H := [⟨ns .u64 (pL x1 y1 z1 t1), true, true, true, 1⟩, ⟨ns .u64 (pL x2 y2 z2 t2), true, true, true, 1⟩, ⟨ns .u64 d, true, true, true, 1⟩, ⟨List.replicate 20 (.int .u64 0), true, true, true, 1⟩, ⟨ns .u64 r3, true, true, true, 1⟩, ⟨ns .u64 (y1 ++ x1), true, true, true, 1⟩, ⟨ns .u64 r4, true, true, true, 1⟩, ⟨ns .u64 sr4, true, true, true, 1⟩, ⟨ns .u64 y1, true, true, true, 1⟩, ⟨ns .u64 x1, true, true, true, 1⟩, ⟨ns .u64 (y2 ++ x2), true, true, true, 1⟩, ⟨ns .u64 r5, true, true, true, 1⟩, ⟨ns .u64 sr5, true, true, true, 1⟩, ⟨ns .u64 y2, true, true, true, 1⟩, ⟨ns .u64 x2, true, true, true, 1⟩, ⟨ns .u64 r6, true, true, true, 1⟩, ⟨ns .u64 [two, d, t1, t2].flatten, true, true, true, 1⟩, ⟨ns .u64 r7, true, true, true, 1⟩, ⟨ns .u64 r7, true, true, true, 1⟩, ⟨ns .u64 two, true, true, true, 1⟩, ⟨ns .u64 d, true, true, true, 1⟩, ⟨ns .u64 t1, true, true, true, 1⟩, ⟨ns .u64 t2, true, true, true, 1⟩, ⟨ns .u64 r7, true, true, true, 1⟩, ⟨ns .u64 [two, z1, z2].flatten, true, true, true, 1⟩, ⟨ns .u64 r8, true, true, true, 1⟩, ⟨ns .u64 r8, true, true, true, 1⟩, ⟨ns .u64 two, true, true, true, 1⟩, ⟨ns .u64 z1, true, true, true, 1⟩, ⟨ns .u64 z2, true, true, true, 1⟩, ⟨ns .u64 r8, true, true, true, 1⟩, ⟨ns .u64 (r8 ++ r7), true, true, true, 1⟩, ⟨ns .u64 r11, true, true, true, 1⟩, ⟨ns .u64 sr11, true, true, true, 1⟩, ⟨ns .u64 r8, true, true, true, 1⟩, ⟨ns .u64 r7, true, true, true, 1⟩, ⟨ns .u64 (r6 ++ r3), true, true, true, 1⟩]) (id := 36) Er6 Er3 rfl
  simp only [List.cons_append, List.nil_append] at hr12
  obtain ⟨r13, hr13, Er13, fr13⟩ := mul_ev Er9 Er10
  obtain ⟨r14, hr14, Er14, fr14⟩ := mul_ev Er11 Er12
  obtain ⟨r15, hr15, Er15, fr15⟩ := mul_ev Er10 Er11
  obtain ⟨r16, hr16, Er16, fr16⟩ := mul_ev Er9 Er12
  refine ⟨r13, r14, r15, r16, ?_, Er13, Er14, Er15, Er16, fe r3, fe r6, fe r7, fe r8, ?_⟩
  · obtain ⟨q10, q11, q12, q13⟩ := quad Ex1 Ey1 Ez1 Et1
    obtain ⟨q20, q21, q22, q23⟩ := quad Ex2 Ey2 Ez2 Et2
    have p1 := pL_len Ex1 Ey1 Ez1 Et1
    have p2 := pL_len Ex2 Ey2 Ez2 Et2
    have p3 := pL_len Er13 Er14 Er15 Er16
    have k4 := fill4 Etwo Ed Et1 Et2
    rw [pL_flat] at k4
    have k3 := fill3 Etwo Ez1 Ez2
    have kp := fill4 Er13 Er14 Er15 Er16
    have m1 := fill2 Ey1 Ex1
    have m2 := fill2 Ey2 Ex2
    have m3 := fill2 Er8 Er7
    have m4 := fill2 Er6 Er3
    have Lx1 := Ex1.len
    have Ly1 := Ey1.len
    have Lz1 := Ez1.len
    have Lt1 := Et1.len
    have Lx2 := Ex2.len
    have Ly2 := Ey2.len
    have Lz2 := Ez2.len
    have Lt2 := Et2.len
    have Ld := Ed.len
    have Ltwo := Etwo.len
    have Lr1 := Er1.len
    have Lr2 := Er2.len
    have Lr3 := Er3.len
    have Lr4 := Er4.len
    have Lr5 := Er5.len
    have Lr6 := Er6.len
    have Lr7 := Er7.len
    have Lr8 := Er8.len
    have Lr9 := Er9.len
    have Lr10 := Er10.len
    have Lr11 := Er11.len
    have Lr12 := Er12.len
    have Lr13 := Er13.len
    have Lr14 := Er14.len
    have Lr15 := Er15.len
    have Lr16 := Er16.len
    apply evVal_ex
    apply Exists.intro
    rw [evFun_fn (fn := a54) rfl]
    simp only [a54, envOf, evCode_skip, evCode_exit, evCode_seq, fs_blockS, fs_blockR, fs_blockC, fs_blockK, fs_blockB, evCode_ret, quiet, keep_nil, keep_cons, fs_cond, fs_region, fs_regionQ, quiet2_eq, lastOf_nil, lastOf_cons, List.take_succ_cons, List.take_zero, List.drop_succ_cons, List.drop_zero, Int.reduceBEq, Int.reduceBNe,  fs_nil, fs_guard, fs_move, fs_pick, fs_alloc, fs_box, fs_load, fs_store, fs_bin, fs_eqv, fs_isNil, fs_un, fs_conv, fs_convStr, fs_field, fs_index, fs_indexStr, fs_build, fs_buildSlice, fs_fieldAddr, fs_indexAddr, fs_indexSl, fs_sliceArr, fs_sliceSl, fs_sliceStr, fs_makeSlice, fs_extract, fs_mkIface, fs_mkFunc, fs_nilCheck, fs_s2ap, fs_len, fs_minmax, fs_s2b, fs_b2s, fs_append, fs_copy, fs_callW, fs_callR, fs_callv, opd_tmp, opd_const, opd_func, opds_nil, opds_cons, opdOpt_none, opdOpt_some, opdParts_nil, opdParts_cons, get_miss, vPick_t, vPick_f, vEq_agg, vEq_aggN, vEq_bool, vEq_boolN, vConv_int, vStr_s, vField_agg, vIndex_agg, vIndexStr_s, vFieldAddr_p, vIndexAddr_p, vIndexSl_s, vSliceArr_p, vSliceSl_s, vSliceSl_n, vSliceStr_s, vExtract_t, vNilCheck_p, vS2ap_s, vLen_s, vLen_str, vMin_i, vMax_i, vLoad_p, vStore_p, baseP_p, vB2s_s, vMake_i, vS2b_s, callee_f, liveAt_eq, storeAt_eq, partL_none, partL_some, natIn_none, natIn_int, bounds3_two, bin_add, bin_sub, bin_mul, bin_quo, bin_rem, bin_and, bin_or, bin_xor, bin_andNot, bin_eql, bin_neq, bin_lss, bin_leq, bin_gtr, bin_geq, bin_shl, bin_shr, bin_sadd, bin_seql, bin_sneq, un_not, un_neg, un_xor, after_some, put_some, put_none, res_nil, res_val, res_var, packed_one, packed_two, merge_nil, merge_ge, rf_tup2, rfIn_int, rfIn_bool, rfIn_u8s, rf_str, rfIn_str, ↓gate_true, ↓guardV_tt, ↓guardV_ff, ↓guardV_tf, ↓guardV_ft, ↓keepV_some, ↓qElse_some, ↓get_hit, ↓Option.bind_some, ↓if_true, ↓if_false, List.nil_append, List.cons_append, List.all_nil, List.all_cons, List.isEmpty_nil, reduceCtorEq, Bool.false_eq_true, Nat.reduceEqDiff, beq_self_eq_true, bne_self_eq_false, Bool.not_true, Bool.not_false, Int.natCast_nonneg, Nat.lt_irrefl, false_and, Int.reduceEq, rf_int, rf_bool, rf_tuple_ints, rf_u8s, arr_list, toList2, Bool.and_self, Nat.not_lt_zero, Nat.sub_zero, Nat.zero_le, Nat.le_add_right, cells_agg, cells_agg_size, cells_int, cells_int_size, okV_int, okV_bool, okV_str, okV_agg, okV_ptr, okV_slice, okV_func, okV_nilFunc, okV_iface, okV_nilIface, cells_bool, cells_bool_size, cells_ptr, cells_ptr_size, cells_slice, cells_slice_size, cells_str, cells_str_size, eq_self, wrapI64_small, Int.natCast_zero, Int.natCast_one, Int.cast_ofNat_Int, List.length_nil, List.length_cons, List.getElem?_cons_zero, List.getElem?_cons_succ, List.set_cons_zero, List.set_cons_succ, Nat.zero_add, Nat.add_zero, Nat.mul_one, Nat.zero_mul, Int.toNat_natCast, Int.toNat_zero, Int.lt_irrefl, Int.le_refl, Nat.le_refl, and_self, true_and, and_true, decide_true, decide_false, Int.reduceLE, Int.reduceLT, Int.reduceAdd, Int.reduceMul, Int.reduceSub, Int.reduceTDiv, Int.reduceTMod, Int.reduceNeg, Int.reduceToNat, Int.reduceGT, Int.reduceGE, Int.reducePow, Nat.reduceAdd, Nat.reduceMul, Nat.reduceSub, Nat.reduceDiv, Nat.reduceMod, Nat.reducePow, Nat.reduceLT, Nat.reduceLeDiff, Nat.min_self, ge_iff_le, gt_iff_lt, Option.isNone_none, Option.isSome_none, Option.isNone_some, Option.isSome_some, Bool.and_true, Bool.true_and, Bool.and_false, Bool.false_and, not_true_eq_false, not_false_eq_true, or_true, true_or, false_or, or_false, hget0, hgetK, hset0, hsetK, splice_single, splice_whole, take_whole, List.getElem?_nil, List.length_append, List.append_assoc, List.length_replicate, take_all, pV_cells, pV_size, pV_ok, pV_fold, rf_pV, eV_cells, eV_size, eV_ok, eV_fold, rf_eV, ns_len, q10, q11, q12, q13, q20, q21, q22, q23, p1, p2, p3, k4, k3, kp, m1, m2, m3, m4, vtwo, hr1, hr2, hr3, hr4, hr5, hr6, hr7, hr8, hr9, hr10, hr11, hr12, hr13, hr14, hr15, hr16, Lx1, Ly1, Lz1, Lt1, Lx2, Ly2, Lz2, Lt2, Ld, Ltwo, Lr1, Lr2, Lr3, Lr4, Lr5, Lr6, Lr7, Lr8, Lr9, Lr10, Lr11, Lr12, Lr13, Lr14, Lr15, Lr16]
    rfl
  · refine ⟨?_, ?_, ?_, ?_, ?_, ?_, ?_, ?_⟩
    · rw [fr3, fr1, fr2]
    · rw [fr6, fr4, fr5]
    · rw [fr7, ftwo]
    · rw [fr8, ftwo]
    · rw [fr13, fr9, fr10]
    · rw [fr14, fr11, fr12]
    · rw [fr15, fr10, fr11]
    · rw [fr16, fr9, fr12]
end Go.Ev.Ytaceeoghjgggjaa

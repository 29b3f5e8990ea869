/-
  field.Mul: the product.
-/
import Derived.Test.YtaceeoghjgggjaaFW1
set_option linter.unusedSimpArgs false
set_option linter.unusedVariables false
namespace Go.Ev.Ytaceeoghjgggjaa
open Go Go.Ev
attribute [local congr] bind_congr2 ite_congr2 qElse_congr gate_congr guardV_congr
set_option maxRecDepth 100000

theorem mulPoly (B P x0 x1 x2 x3 x4 y0 y1 y2 y3 y4 : Nat) (h : B * B * B * B * B = P + 19) :
  (x0 + B * (x1 + B * (x2 + B * (x3 + B * (x4 + B * 0))))) * (y0 + B * (y1 + B * (y2 + B * (y3 + B * (y4 + B * 0))))) =
   (x0 * y0 + 19 * x1 * y4 + 19 * x2 * y3 + 19 * x3 * y2 + 19 * x4 * y1) + B * ((x0 * y1 + x1 * y0 + 19 * x2 * y4 + 19 * x3 * y3 + 19 * x4 * y2) + B * ((x0 * y2 + x1 * y1 + x2 * y0 + 19 * x3 * y4 + 19 * x4 * y3) + B * ((x0 * y3 + x1 * y2 + x2 * y1 + x3 * y0 + 19 * x4 * y4) + B * (x0 * y4 + x1 * y3 + x2 * y2 + x3 * y1 + x4 * y0)))) +
   (x1 * y4 + x2 * y3 + x3 * y2 + x4 * y1 + B * (x2 * y4 + x3 * y3 + x4 * y2 + B * (x3 * y4 + x4 * y3 + B * (x4 * y4)))) * P := by grind
theorem times_v {x y : Nat} (hx : x < 18446744073709551616) (hy : y < 18446744073709551616) : evVal T 77 [.int .u64 x, .int .u64 y] = some (wV (x * y)) := evVal_ex (times_ev2 hx hy)
theorem wplus_v {n x y : Nat} (hx : x < 18446744073709551616) (hy : y < 18446744073709551616) (hn : n + x * y < 340282366920938463463374607431768211456) : evVal T 78 [wV n, .int .u64 x, .int .u64 y] = some (wV (n + x * y)) := evVal_ex (wplus_ev hx hy hn)
theorem split_v {n : Nat} (hn : n < 41538374868278621028243970633760768) : evVal T 79 [wV n] = some (.tuple #[.int .u64 ((n / 2251799813685248 : Nat) : Int), .int .u64 ((n % 2251799813685248 : Nat) : Int)]) := evVal_ex (split_ev hn)
theorem more_v {n x : Nat} (hn : n + x < 340282366920938463463374607431768211456) (hx : x < 18446744073709551616) : evVal T 80 [wV n, .int .u64 x] = some (wV (n + x)) := evVal_ex (more_ev hn hx)
theorem carried_v {x0 x1 x2 x3 x4 : Nat} (h0 : x0 < 9223372036854775808) (h1 : x1 < 9223372036854775808) (h2 : x2 < 9223372036854775808) (h3 : x3 < 9223372036854775808) (h4 : x4 < 9223372036854775808) : evVal T 81 [eV [x0, x1, x2, x3, x4]] = some (eV (carL x0 x1 x2 x3 x4)) := evVal_ex (carried_ev h0 h1 h2 h3 h4)
/-- A sum of five products is small. -/
theorem five_small {a b c d e : Nat} (ha : a < 2 ^ 109) (hb : b < 2 ^ 109) (hc : c < 2 ^ 109) (hd : d < 2 ^ 109) (he : e < 2 ^ 109) : a + b + c + d + e < 2 ^ 112 := by omega
theorem prod_small {x y : Nat} (hx : x < 2 ^ 57) (hy : y < 2 ^ 52) : x * y < 2 ^ 109 := by
  rw [show (2 : Nat) ^ 109 = 2 ^ 57 * 2 ^ 52 from rfl]
  exact Nat.mul_lt_mul'' hx hy

theorem mul_fin {s0 s1 s2 s3 s4 : Nat} (h0 : s0 < 2 ^ 112) (h1 : s1 < 2 ^ 112) (h2 : s2 < 2 ^ 112) (h3 : s3 < 2 ^ 112) (h4 : s4 < 2 ^ 112) : ∃ r, El r (2 ^ 52) ∧ (∃ k, v51 r + k * Go.Fp.P = s0 + 2251799813685248 * (s1 + 2251799813685248 * (s2 + 2251799813685248 * (s3 + 2251799813685248 * s4)))) ∧
    r = carL ((19 * (s4 / 2251799813685248) + s0 % 2251799813685248) % 2251799813685248) (s1 % 2251799813685248 + s0 / 2251799813685248 + (19 * (s4 / 2251799813685248) + s0 % 2251799813685248) / 2251799813685248) (s2 % 2251799813685248 + s1 / 2251799813685248) (s3 % 2251799813685248 + s2 / 2251799813685248) (s4 % 2251799813685248 + s3 / 2251799813685248) := by
  refine ⟨_, ?_, ?_, rfl⟩
  · simp only [carL]
    apply El.mk5 <;> omega
  · obtain ⟨k, hk⟩ := carL_val (x0 := (19 * (s4 / 2251799813685248) + s0 % 2251799813685248) % 2251799813685248) (x1 := s1 % 2251799813685248 + s0 / 2251799813685248 + (19 * (s4 / 2251799813685248) + s0 % 2251799813685248) / 2251799813685248) (x2 := s2 % 2251799813685248 + s1 / 2251799813685248) (x3 := s3 % 2251799813685248 + s2 / 2251799813685248) (x4 := s4 % 2251799813685248 + s3 / 2251799813685248)
    refine ⟨k + s4 / 2251799813685248, ?_⟩
    rw [Nat.add_mul, ← Nat.add_assoc, hk]
    simp only [v51, num, Go.Fp.P_eq]
    omega
theorem mul_ev {x y : List Nat} (hx : El x (2 ^ 52)) (hy : El y (2 ^ 52)) : ∃ r, evVal T 51 [eV x, eV y] = some (eV r) ∧ El r (2 ^ 52) ∧ fe r = fe x * fe y := by
  obtain ⟨x0, x1, x2, x3, x4, rfl, a0, a1, a2, a3, a4⟩ := hx.five
  obtain ⟨y0, y1, y2, y3, y4, rfl, b0, b1, b2, b3, b4⟩ := hy.five
  have m1 : 19 * x1 % 18446744073709551616 = 19 * x1 := by omega
  have m2 : 19 * x2 % 18446744073709551616 = 19 * x2 := by omega
  have m3 : 19 * x3 % 18446744073709551616 = 19 * x3 := by omega
  have m4 : 19 * x4 % 18446744073709551616 = 19 * x4 := by omega
  have t00 := times_v (x := x0) (y := y0) (by omega) (by omega)
  have p00 : x0 * y0 < 2 ^ 109 := prod_small (by omega) (by omega)
  have p01 : 19 * x1 * y4 < 2 ^ 109 := prod_small (by omega) (by omega)
  have p02 : 19 * x2 * y3 < 2 ^ 109 := prod_small (by omega) (by omega)
  have p03 : 19 * x3 * y2 < 2 ^ 109 := prod_small (by omega) (by omega)
  have p04 : 19 * x4 * y1 < 2 ^ 109 := prod_small (by omega) (by omega)
  have t01 := wplus_v (n := x0 * y0) (x := 19 * x1) (y := y4) (by omega) (by omega) (by omega)
  have t02 := wplus_v (n := x0 * y0 + 19 * x1 * y4) (x := 19 * x2) (y := y3) (by omega) (by omega) (by omega)
  have t03 := wplus_v (n := x0 * y0 + 19 * x1 * y4 + 19 * x2 * y3) (x := 19 * x3) (y := y2) (by omega) (by omega) (by omega)
  have t04 := wplus_v (n := x0 * y0 + 19 * x1 * y4 + 19 * x2 * y3 + 19 * x3 * y2) (x := 19 * x4) (y := y1) (by omega) (by omega) (by omega)
  have q0 := five_small p00 p01 p02 p03 p04
  have t10 := times_v (x := x0) (y := y1) (by omega) (by omega)
  have p10 : x0 * y1 < 2 ^ 109 := prod_small (by omega) (by omega)
  have p11 : x1 * y0 < 2 ^ 109 := prod_small (by omega) (by omega)
  have p12 : 19 * x2 * y4 < 2 ^ 109 := prod_small (by omega) (by omega)
  have p13 : 19 * x3 * y3 < 2 ^ 109 := prod_small (by omega) (by omega)
  have p14 : 19 * x4 * y2 < 2 ^ 109 := prod_small (by omega) (by omega)
  have t11 := wplus_v (n := x0 * y1) (x := x1) (y := y0) (by omega) (by omega) (by omega)
  have t12 := wplus_v (n := x0 * y1 + x1 * y0) (x := 19 * x2) (y := y4) (by omega) (by omega) (by omega)
  have t13 := wplus_v (n := x0 * y1 + x1 * y0 + 19 * x2 * y4) (x := 19 * x3) (y := y3) (by omega) (by omega) (by omega)
  have t14 := wplus_v (n := x0 * y1 + x1 * y0 + 19 * x2 * y4 + 19 * x3 * y3) (x := 19 * x4) (y := y2) (by omega) (by omega) (by omega)
  have q1 := five_small p10 p11 p12 p13 p14
  have t20 := times_v (x := x0) (y := y2) (by omega) (by omega)
  have p20 : x0 * y2 < 2 ^ 109 := prod_small (by omega) (by omega)
  have p21 : x1 * y1 < 2 ^ 109 := prod_small (by omega) (by omega)
  have p22 : x2 * y0 < 2 ^ 109 := prod_small (by omega) (by omega)
  have p23 : 19 * x3 * y4 < 2 ^ 109 := prod_small (by omega) (by omega)
  have p24 : 19 * x4 * y3 < 2 ^ 109 := prod_small (by omega) (by omega)
  have t21 := wplus_v (n := x0 * y2) (x := x1) (y := y1) (by omega) (by omega) (by omega)
  have t22 := wplus_v (n := x0 * y2 + x1 * y1) (x := x2) (y := y0) (by omega) (by omega) (by omega)
  have t23 := wplus_v (n := x0 * y2 + x1 * y1 + x2 * y0) (x := 19 * x3) (y := y4) (by omega) (by omega) (by omega)
  have t24 := wplus_v (n := x0 * y2 + x1 * y1 + x2 * y0 + 19 * x3 * y4) (x := 19 * x4) (y := y3) (by omega) (by omega) (by omega)
  have q2 := five_small p20 p21 p22 p23 p24
  have t30 := times_v (x := x0) (y := y3) (by omega) (by omega)
  have p30 : x0 * y3 < 2 ^ 109 := prod_small (by omega) (by omega)
  have p31 : x1 * y2 < 2 ^ 109 := prod_small (by omega) (by omega)
  have p32 : x2 * y1 < 2 ^ 109 := prod_small (by omega) (by omega)
  have p33 : x3 * y0 < 2 ^ 109 := prod_small (by omega) (by omega)
  have p34 : 19 * x4 * y4 < 2 ^ 109 := prod_small (by omega) (by omega)
  have t31 := wplus_v (n := x0 * y3) (x := x1) (y := y2) (by omega) (by omega) (by omega)
  have t32 := wplus_v (n := x0 * y3 + x1 * y2) (x := x2) (y := y1) (by omega) (by omega) (by omega)
  have t33 := wplus_v (n := x0 * y3 + x1 * y2 + x2 * y1) (x := x3) (y := y0) (by omega) (by omega) (by omega)
  have t34 := wplus_v (n := x0 * y3 + x1 * y2 + x2 * y1 + x3 * y0) (x := 19 * x4) (y := y4) (by omega) (by omega) (by omega)
  have q3 := five_small p30 p31 p32 p33 p34
  have t40 := times_v (x := x0) (y := y4) (by omega) (by omega)
  have p40 : x0 * y4 < 2 ^ 109 := prod_small (by omega) (by omega)
  have p41 : x1 * y3 < 2 ^ 109 := prod_small (by omega) (by omega)
  have p42 : x2 * y2 < 2 ^ 109 := prod_small (by omega) (by omega)
  have p43 : x3 * y1 < 2 ^ 109 := prod_small (by omega) (by omega)
  have p44 : x4 * y0 < 2 ^ 109 := prod_small (by omega) (by omega)
  have t41 := wplus_v (n := x0 * y4) (x := x1) (y := y3) (by omega) (by omega) (by omega)
  have t42 := wplus_v (n := x0 * y4 + x1 * y3) (x := x2) (y := y2) (by omega) (by omega) (by omega)
  have t43 := wplus_v (n := x0 * y4 + x1 * y3 + x2 * y2) (x := x3) (y := y1) (by omega) (by omega) (by omega)
  have t44 := wplus_v (n := x0 * y4 + x1 * y3 + x2 * y2 + x3 * y1) (x := x4) (y := y0) (by omega) (by omega) (by omega)
  have q4 := five_small p40 p41 p42 p43 p44
  obtain ⟨r, hr1, ⟨k, hr2⟩, hr3⟩ := mul_fin q0 q1 q2 q3 q4
  have d0 := split_v (n := x0 * y0 + 19 * x1 * y4 + 19 * x2 * y3 + 19 * x3 * y2 + 19 * x4 * y1) (by omega)
  have d1 := split_v (n := x0 * y1 + x1 * y0 + 19 * x2 * y4 + 19 * x3 * y3 + 19 * x4 * y2) (by omega)
  have d2 := split_v (n := x0 * y2 + x1 * y1 + x2 * y0 + 19 * x3 * y4 + 19 * x4 * y3) (by omega)
  have d3 := split_v (n := x0 * y3 + x1 * y2 + x2 * y1 + x3 * y0 + 19 * x4 * y4) (by omega)
  have d4 := split_v (n := x0 * y4 + x1 * y3 + x2 * y2 + x3 * y1 + x4 * y0) (by omega)
  refine ⟨r, ?_, hr1, ?_⟩
  · rw [hr3]
    clear hr2 hr3
    generalize x0 * y0 + 19 * x1 * y4 + 19 * x2 * y3 + 19 * x3 * y2 + 19 * x4 * y1 = s0 at *
    generalize x0 * y1 + x1 * y0 + 19 * x2 * y4 + 19 * x3 * y3 + 19 * x4 * y2 = s1 at *
    generalize x0 * y2 + x1 * y1 + x2 * y0 + 19 * x3 * y4 + 19 * x4 * y3 = s2 at *
    generalize x0 * y3 + x1 * y2 + x2 * y1 + x3 * y0 + 19 * x4 * y4 = s3 at *
    generalize x0 * y4 + x1 * y3 + x2 * y2 + x3 * y1 + x4 * y0 = s4 at *
    have u1 := times_v (x := 19) (y := s4 / 2251799813685248) (by omega) (by omega)
    have u2 := more_v (n := 19 * (s4 / 2251799813685248)) (x := s0 % 2251799813685248) (by omega) (by omega)
    have u3 := split_v (n := 19 * (s4 / 2251799813685248) + s0 % 2251799813685248) (by omega)
    have w1 : (s1 % 2251799813685248 + s0 / 2251799813685248) % 18446744073709551616 = s1 % 2251799813685248 + s0 / 2251799813685248 := by omega
    have w2 : (s1 % 2251799813685248 + s0 / 2251799813685248 + (19 * (s4 / 2251799813685248) + s0 % 2251799813685248) / 2251799813685248) % 18446744073709551616 = s1 % 2251799813685248 + s0 / 2251799813685248 + (19 * (s4 / 2251799813685248) + s0 % 2251799813685248) / 2251799813685248 := by omega
    have w3 : (s2 % 2251799813685248 + s1 / 2251799813685248) % 18446744073709551616 = s2 % 2251799813685248 + s1 / 2251799813685248 := by omega
    have w4 : (s3 % 2251799813685248 + s2 / 2251799813685248) % 18446744073709551616 = s3 % 2251799813685248 + s2 / 2251799813685248 := by omega
    have w5 : (s4 % 2251799813685248 + s3 / 2251799813685248) % 18446744073709551616 = s4 % 2251799813685248 + s3 / 2251799813685248 := by omega
    have v1 := carried_v (x0 := (19 * (s4 / 2251799813685248) + s0 % 2251799813685248) % 2251799813685248) (x1 := s1 % 2251799813685248 + s0 / 2251799813685248 + (19 * (s4 / 2251799813685248) + s0 % 2251799813685248) / 2251799813685248) (x2 := s2 % 2251799813685248 + s1 / 2251799813685248) (x3 := s3 % 2251799813685248 + s2 / 2251799813685248) (x4 := s4 % 2251799813685248 + s3 / 2251799813685248) (by omega) (by omega) (by omega) (by omega) (by omega)
    simp only [Int.cast_ofNat_Int] at u1
    have hz : List.replicate 5 (Value.int .u64 0) = [.int .u64 0, .int .u64 0, .int .u64 0, .int .u64 0, .int .u64 0] := rfl
    have hf : ∀ a b c d e : Int, fillL [Value.int .u64 0, .int .u64 0, .int .u64 0, .int .u64 0, .int .u64 0] [(0, 1, .int .u64 a), (1, 1, .int .u64 b), (2, 1, .int .u64 c), (3, 1, .int .u64 d), (4, 1, .int .u64 e)] = some [.int .u64 a, .int .u64 b, .int .u64 c, .int .u64 d, .int .u64 e] := fun _ _ _ _ _ => rfl
    have hf5 : ∀ a b c d e : Int, fillL [Value.int .u64 0, .int .u64 0, .int .u64 0, .int .u64 0, .int .u64 0] [(0, 5, .agg [.int .u64 a, .int .u64 b, .int .u64 c, .int .u64 d, .int .u64 e].toArray)] = some [.int .u64 a, .int .u64 b, .int .u64 c, .int .u64 d, .int .u64 e] := fun _ _ _ _ _ => rfl
    have hr5 : ∀ a b c d e : Int, rf (.agg [.int .u64 a, .int .u64 b, .int .u64 c, .int .u64 d, .int .u64 e].toArray) = true := fun _ _ _ _ _ => rfl
    have hw : ∀ n, (wV n).cells.size = 2 := fun _ => rfl
    have hw2 : ∀ n, (wV n).cells.toList = [.int .u64 ((n / 18446744073709551616 : Nat) : Int), .int .u64 ((n % 18446744073709551616 : Nat) : Int)] := fun _ => rfl
    have hw3 : ∀ n, okVar (wV n) = true := fun _ => rfl
    have hw4 : ∀ n, Value.agg [.int .u64 ((n / 18446744073709551616 : Nat) : Int), .int .u64 ((n % 18446744073709551616 : Nat) : Int)].toArray = wV n := fun _ => rfl
    simp only [eV, ns_cons, ns_nil] at v1 ⊢
    generalize hc : ns .u64 (carL ((19 * (s4 / 2251799813685248) + s0 % 2251799813685248) % 2251799813685248) (s1 % 2251799813685248 + s0 / 2251799813685248 + (19 * (s4 / 2251799813685248) + s0 % 2251799813685248) / 2251799813685248) (s2 % 2251799813685248 + s1 / 2251799813685248) (s3 % 2251799813685248 + s2 / 2251799813685248) (s4 % 2251799813685248 + s3 / 2251799813685248)) = C at *
    have hC : C.length = 5 := by rw [← hc]; rfl
    have hCr : rf (.agg C.toArray) = true := by rw [← hc]; exact rf_ns _ _
    apply evVal_ex
    apply Exists.intro
    rw [evFun_fn (fn := a51) rfl]
    simp only [a51, envOf, evCode_skip, evCode_exit, evCode_seq, fs_blockS, fs_blockR, fs_blockC, fs_blockK, fs_blockB, evCode_ret, quiet, keep_nil, keep_cons, fs_cond, fs_region, fs_regionP, fs_nil, fs_guard, fs_move, fs_pick, fs_alloc, fs_box, fs_load, fs_store, fs_bin, fs_eqv, fs_isNil, fs_un, fs_conv, fs_convStr, fs_field, fs_index, fs_indexStr, fs_build, fs_buildSlice, fs_fieldAddr, fs_indexAddr, fs_indexSl, fs_sliceArr, fs_sliceSl, fs_sliceStr, fs_makeSlice, fs_extract, fs_mkIface, fs_mkFunc, fs_nilCheck, fs_s2ap, fs_len, fs_minmax, fs_s2b, fs_b2s, fs_append, fs_copy, fs_callW, fs_callR, fs_callv, opd_tmp, opd_const, opd_func, opds_nil, opds_cons, opdOpt_none, opdOpt_some, opdParts_nil, opdParts_cons, get_miss, vPick_t, vPick_f, vEq_agg, vEq_aggN, vEq_bool, vEq_boolN, vConv_int, vStr_s, vField_agg, vIndex_agg, vIndexStr_s, vFieldAddr_p, vIndexAddr_p, vIndexSl_s, vSliceArr_p, vSliceSl_s, vSliceSl_n, vSliceStr_s, vExtract_t, vNilCheck_p, vS2ap_s, vLen_s, vLen_str, vMin_i, vMax_i, vLoad_p, vStore_p, baseP_p, vB2s_s, vMake_i, vS2b_s, callee_f, liveAt_eq, storeAt_eq, partL_none, partL_some, natIn_none, natIn_int, bounds3_two, bin_add, bin_sub, bin_mul, bin_quo, bin_rem, bin_and, bin_or, bin_xor, bin_andNot, bin_eql, bin_neq, bin_lss, bin_leq, bin_gtr, bin_geq, bin_shl, bin_shr, bin_sadd, bin_seql, bin_sneq, un_not, un_neg, un_xor, after_some, put_some, put_none, res_nil, res_val, res_var, packed_one, packed_two, merge_nil, merge_ge, rf_tup2, rfIn_int, rfIn_bool, rfIn_u8s, rf_str, rfIn_str, ↓gate_true, ↓guardV_tt, ↓guardV_ff, ↓guardV_tf, ↓guardV_ft, ↓keepV_some, ↓qElse_some, ↓get_hit, ↓Option.bind_some, ↓if_true, ↓if_false, List.nil_append, List.cons_append, List.all_nil, List.all_cons, List.isEmpty_nil, reduceCtorEq, Bool.false_eq_true, Nat.reduceEqDiff, beq_self_eq_true, bne_self_eq_false, Bool.not_true, Bool.not_false, Int.natCast_nonneg, Nat.lt_irrefl, false_and, Int.reduceEq, rf_int, rf_bool, rf_tuple_ints, rf_u8s, arr_list, toList2, Bool.and_self, Nat.not_lt_zero, Nat.sub_zero, Nat.zero_le, Nat.le_add_right, cells_agg, cells_agg_size, cells_int, cells_int_size, okV_int, okV_bool, okV_str, okV_agg, okV_ptr, okV_slice, okV_func, okV_nilFunc, okV_iface, okV_nilIface, cells_bool, cells_bool_size, cells_ptr, cells_ptr_size, cells_slice, cells_slice_size, cells_str, cells_str_size, eq_self, wrapI64_small, Int.natCast_zero, Int.natCast_one, Int.cast_ofNat_Int, List.length_nil, List.length_cons, List.getElem?_cons_zero, List.getElem?_cons_succ, List.set_cons_zero, List.set_cons_succ, Nat.zero_add, Nat.add_zero, Nat.mul_one, Nat.zero_mul, Int.toNat_natCast, Int.toNat_zero, Int.lt_irrefl, Int.le_refl, Nat.le_refl, and_self, true_and, and_true, decide_true, decide_false, Int.reduceLE, Int.reduceLT, Int.reduceAdd, Int.reduceMul, Int.reduceSub, Int.reduceTDiv, Int.reduceTMod, Int.reduceNeg, Int.reduceToNat, Int.reduceGT, Int.reduceGE, Int.reducePow, Nat.reduceAdd, Nat.reduceMul, Nat.reduceSub, Nat.reduceDiv, Nat.reduceMod, Nat.reducePow, Nat.reduceLT, Nat.reduceLeDiff, Nat.min_self, ge_iff_le, gt_iff_lt, Option.isNone_none, Option.isSome_none, Option.isNone_some, Option.isSome_some, Bool.and_true, Bool.true_and, Bool.and_false, Bool.false_and, not_true_eq_false, not_false_eq_true, or_true, true_or, false_or, or_false, hget0, hgetK, hset0, hsetK, splice_single, splice_whole, take_whole, List.getElem?_nil, List.length_append, List.append_assoc, n_add, n_mul, n_ladd, n_addl, n_lmul, n_mull, n_fdiv, n_fdivl, n_tdiv, n_tmod, n_w64, n_w32, n_w16, n_w8, n_sub64, n_lsub64, n_subl64, n_m32, n_m51, n_m1, n_m1b, n_m7b, p64_32, p64_51, p64_13, p8_7, hz, m1, m2, m3, m4, t00, t01, t02, t03, t04, t10, t11, t12, t13, t14, t20, t21, t22, t23, t24, t30, t31, t32, t33, t34, t40, t41, t42, t43, t44, d0, d1, d2, d3, d4, u1, u2, u3, w1, w2, w3, w4, w5, hf, hf5, hr5, v1, rf_wV, hw, hw2, hw3, hw4, hC, hCr]
    rfl
  · unfold fe
    rw [← Go.Fp.fp_mul]
    have h := mulPoly 2251799813685248 Go.Fp.P x0 x1 x2 x3 x4 y0 y1 y2 y3 y4 (by rw [Go.Fp.P_eq])
    have e : v51 [x0, x1, x2, x3, x4] * v51 [y0, y1, y2, y3, y4] = v51 r + (k + (x1 * y4 + x2 * y3 + x3 * y2 + x4 * y1 + 2251799813685248 * (x2 * y4 + x3 * y3 + x4 * y2 + 2251799813685248 * (x3 * y4 + x4 * y3 + 2251799813685248 * (x4 * y4))))) * Go.Fp.P := by
      simp only [v51, num] at hr2 h ⊢
      rw [h, ← hr2, Nat.add_assoc, ← Nat.add_mul]
    exact fe_of e.symm
end Go.Ev.Ytaceeoghjgggjaa

/-
  scalar.mod: what is left of a number by the order.
-/
import Derived.Test.YtaceeoghjgggjaaSW5
set_option linter.unusedSimpArgs false
set_option linter.unusedVariables false
namespace Go.Ev.Ytaceeoghjgggjaa
open Go Go.Ev
attribute [local congr] bind_congr1
set_option maxRecDepth 100000

structure RInv (V : Nat) (r nx : List Nat) : Prop where
  len : r.length = 8
  lt : ∀ x ∈ r, x < 4294967296
  len2 : nx.length = 8
  lt2 : ∀ x ∈ nx, x < 4294967296
  eq : num 4294967296 r = V % ell

theorem ell_pow : 2 * ell + 1 < 4294967296 ^ 8 := by decide
theorem ell_pos : 0 < ell := by decide

/-- A bit more: doubled, and the order taken off where it goes. -/
theorem RInv.step {V c c' b : Nat} {r nx r' nx' : List Nat} (h : RInv V r nx) (hc : c ≤ 1) (h1 : ShInv 8 c r r' c') (h2 : SbInv 8 r' nx' b) : (b = 0 → RInv (2 * V + c) nx' r') ∧ (b ≠ 0 → RInv (2 * V + c) r' nx') := by
  have e1 := h1.eq
  have e2 := h2.eq
  have l1 := h.len
  have l2 := h1.len
  have l3 := h2.len
  rw [List.take_of_length_le (by omega)] at e1
  rw [List.take_of_length_le (by omega), List.take_of_length_le (show orderW.length ≤ 8 from Nat.le_refl _), List.take_of_length_le (by omega), ell_num] at e2
  have b1 := num_lt h1.lt
  have b2 := num_lt h2.lt
  rw [l2] at b1
  rw [l3] at b2
  have hp := ell_pow
  have hr : num 4294967296 r < ell := by rw [h.eq]; exact Nat.mod_lt _ ell_pos
  have hV : (2 * V + c) % ell = (2 * num 4294967296 r + c) % ell := by
    rw [h.eq, Nat.add_mod, Nat.mul_mod, Nat.add_mod (2 * (V % ell)), Nat.mul_mod 2 (V % ell), Nat.mod_mod]
  have hle := h1.cle
  have hbe := h2.ble
  generalize 4294967296 ^ 8 = W at *
  have hc0 : c' = 0 := by
    rcases Nat.lt_or_ge 0 c' with hh | hh
    · have : c' = 1 := by omega
      subst this
      omega
    · omega
  subst hc0
  generalize num 4294967296 r = x at *
  generalize hyy : num 4294967296 r' = y at *
  generalize hz : num 4294967296 nx' = z at *
  have hy : y = 2 * x + c := by omega
  subst hy
  refine ⟨fun h0 => ⟨l3, h2.lt, l2, h1.lt, ?_⟩, fun h0 => ⟨l2, h1.lt, l3, h2.lt, ?_⟩⟩
  · subst h0
    rw [hV, show 2 * x + c = z + ell by omega, Nat.add_mod_right, Nat.mod_eq_of_lt (by omega)]
    exact hz
  · have : b = 1 := by omega
    subst this
    have hlt : 2 * x + c < ell := by omega
    rw [hV, Nat.mod_eq_of_lt hlt]
    exact hyy

theorem mod_round0 {H : List Ob} {id off n cap i w V : Nat} {ws r nx : List Nat} (hr : Row .u32 H id off ws) (hn : ws.length = n) (hN : n < 2 ^ 40) (hi : i < 32 * n) (hw : ws[i / 32]? = some w) (hw' : w < 4294967296) (h : RInv V r nx) :
    ∃ r' nx', RInv (2 * V + w / 2 ^ (i % 32) % 2) r' nx' ∧ (evCode T H.length a41_l2 (⟨[(0, (.slice (some ⟨id, off, none⟩) n cap)), (3, (.slice (some ⟨H.length, 0, none⟩) 8 8)), (4, (.slice (some ⟨H.length + 1, 0, none⟩) 8 8)), (5, (.slice (some ⟨(H.length + 2), 0, none⟩) 8 8)), (6, .int .i64 ((i : Nat)))], H ++ [⟨u32s (r), true, true, true, 1⟩, ⟨u32s orderW, true, true, true, 1⟩, ⟨u32s (nx), true, true, true, 1⟩], []⟩ : St) = some (.normal, (⟨[(0, (.slice (some ⟨id, off, none⟩) n cap)), (3, (.slice (some ⟨H.length, 0, none⟩) 8 8)), (4, (.slice (some ⟨H.length + 1, 0, none⟩) 8 8)), (5, (.slice (some ⟨(H.length + 2), 0, none⟩) 8 8)), (6, .int .i64 ((i : Int) - 1))], H ++ [⟨u32s (r'), true, true, true, 1⟩, ⟨u32s orderW, true, true, true, 1⟩, ⟨u32s (nx'), true, true, true, 1⟩], []⟩ : St)) ∨ evCode T H.length a41_l2 (⟨[(0, (.slice (some ⟨id, off, none⟩) n cap)), (3, (.slice (some ⟨H.length, 0, none⟩) 8 8)), (4, (.slice (some ⟨H.length + 1, 0, none⟩) 8 8)), (5, (.slice (some ⟨(H.length + 2), 0, none⟩) 8 8)), (6, .int .i64 ((i : Nat)))], H ++ [⟨u32s (r), true, true, true, 1⟩, ⟨u32s orderW, true, true, true, 1⟩, ⟨u32s (nx), true, true, true, 1⟩], []⟩ : St) = some (.normal, (⟨[(0, (.slice (some ⟨id, off, none⟩) n cap)), (3, (.slice (some ⟨(H.length + 2), 0, none⟩) 8 8)), (4, (.slice (some ⟨H.length + 1, 0, none⟩) 8 8)), (5, (.slice (some ⟨H.length, 0, none⟩) 8 8)), (6, .int .i64 ((i : Int) - 1))], H ++ [⟨u32s (nx'), true, true, true, 1⟩, ⟨u32s orderW, true, true, true, 1⟩, ⟨u32s (r'), true, true, true, 1⟩], []⟩ : St))) := by
  have hc : w / 2 ^ (i % 32) % 2 ≤ 1 := by omega
  obtain ⟨r1, c1, hb1, i1⟩ := sh_loop0 (H := H) (s := (.slice (some ⟨id, off, none⟩) n cap)) (v := .int .i64 (i : Nat)) (nx := nx) h.len h.lt hc
  obtain ⟨nx1, b, hb2, i2⟩ := sb_loop0 (H := H) (s := (.slice (some ⟨id, off, none⟩) n cap)) (v := .int .i64 (i : Nat)) (r := r1) (nx := nx) i1.len i1.lt h.len2 h.lt2
  obtain ⟨o, ho, hcell⟩ := hr
  have ho' := liveAt_app (l := [⟨u32s (r), true, true, true, 1⟩, ⟨u32s orderW, true, true, true, 1⟩, ⟨u32s (nx), true, true, true, 1⟩]) ho
  have hwc := hcell (i / 32) w hw
  have h1 : ((i : Int) ≥ 0) := by omega
  have h2 : ((i / 32 : Nat) : Int) < (n : Int) := by omega
  have h4 : ¬ (((i % 32 : Nat) : Int) < 0) := by omega
  have e1 : IntKind.i64.wrap ((i : Int).tdiv 32) = ((i / 32 : Nat) : Int) := wrap_nat (n := i / 32) (by omega)
  have e2 : ((i : Int).tmod 32) = ((i % 32 : Nat) : Int) := rfl
  have e3 : Int.fdiv (w : Int) (2 ^ min (i % 32) IntKind.u32.bits) = ((w / 2 ^ (i % 32) : Nat) : Int) := by
    rw [Nat.min_eq_left (by show _ ≤ 32; omega), Int.fdiv_eq_ediv_of_nonneg _ (Int.le_of_lt (Int.pow_pos (by decide)))]; simp
  have e4 : bitsOp .and .u32 ((w / 2 ^ (i % 32) : Nat) : Int) 1 = ((w / 2 ^ (i % 32) % 2 : Nat) : Int) := by
    rw [show (1 : Int) = ((1 : Nat) : Int) from rfl, bits_and (k := .u32) (a := w / 2 ^ (i % 32)) (b := 1) rfl (Nat.lt_of_le_of_lt (Nat.div_le_self _ _) hw') (by decide), Nat.and_one_is_mod]
  have e5 : IntKind.i64.wrap ((i : Int) - 1) = (i : Int) - 1 := wrapI64_small (by omega) (by omega)
  have e8 : ((8 : Nat) : Int) = 8 := rfl
  have hst := h.step hc i1 i2
  generalize w / 2 ^ (i % 32) % 2 = c at *
  by_cases hb0 : b = 0
  · subst hb0
    have e6 : (((0 : Nat) : Int) == 0) = true := rfl
    refine ⟨nx1, r1, hst.1 rfl, .inr ?_⟩
    simp only [a41_l2, envOf, evCode_skip, evCode_exit, evCode_seq, evCode_region, evCode_cond, evCode_block, evCode_ret, evOps_cons, evOps_nil, guardOf, simpleOp, opd, opds, opdOpt, opdParts, Env.get, Env.put, pureV, Option.bind_some, List.nil_append, List.cons_append, inMerge, pairsOk, List.all_nil, List.all_cons, St.after, Env.keep, if_true, if_false, ite_true, ite_false, binV, intBin, unV, shiftOp, resultOf, packed, reduceCtorEq, Option.isNone_none, Option.isSome_none, Bool.false_eq_true, Nat.reduceAdd, Nat.reduceEqDiff, Nat.reduceMul, Nat.zero_add, List.length_cons, List.length_nil, beq_self_eq_true, Bool.not_true, Bool.not_false, evOper_move, evOper_pick, evOper_alloc, evOper_box, evOper_load, evOper_store, evOper_bin, evOper_eqv, evOper_isNil, evOper_un, evOper_conv, evOper_convStr, evOper_s2b, evOper_b2s, evOper_field, evOper_index, evOper_indexStr, evOper_build, evOper_buildSlice, evOper_fieldAddr, evOper_indexAddr, evOper_indexSl, evOper_sliceArr, evOper_sliceSl, evOper_sliceStr, evOper_makeSlice, evOper_extract, evOper_mkIface, evOper_mkFunc, evOper_nilCheck, evOper_s2ap, evOper_append, evOper_copy, evOper_len, evOper_minmax, evOper_call, evOper_callVal, Ob.fresh, live0, live1, live2, Int.natCast_nonneg, and_self, true_and, and_true, Int.toNat_natCast, Nat.mul_one, addr_add, partL, cells_int, cells_int_size, okVar, splice_single, Nat.lt_irrefl, false_and, decide_true, decide_false, Nat.add_zero, Int.reduceEq, Int.reduceLT, Int.reduceLE, Int.reduceToNat, Nat.reduceLT, Nat.reduceSub, rf_int, rf_tuple_ints, toList2, Bool.and_true, Bool.true_and, Bool.and_self, List.getElem?_cons_zero, List.getElem?_cons_succ, nlt1, nlt2, nlt3, nlt4, Nat.le_refl, Int.le_refl, Nat.not_lt_zero, Nat.sub_zero, Nat.zero_mul, cells_agg, cells_agg_size, h1, h2, h4, ho', hwc, e1, e2, e3, e4, e5, e6, e8, hb1, hb2]
  · have hb1' : b = 1 := by have := i2.ble; omega
    subst hb1'
    have e6 : (((1 : Nat) : Int) == 0) = false := rfl
    refine ⟨r1, nx1, hst.2 (by decide), .inl ?_⟩
    simp only [a41_l2, envOf, evCode_skip, evCode_exit, evCode_seq, evCode_region, evCode_cond, evCode_block, evCode_ret, evOps_cons, evOps_nil, guardOf, simpleOp, opd, opds, opdOpt, opdParts, Env.get, Env.put, pureV, Option.bind_some, List.nil_append, List.cons_append, inMerge, pairsOk, List.all_nil, List.all_cons, St.after, Env.keep, if_true, if_false, ite_true, ite_false, binV, intBin, unV, shiftOp, resultOf, packed, reduceCtorEq, Option.isNone_none, Option.isSome_none, Bool.false_eq_true, Nat.reduceAdd, Nat.reduceEqDiff, Nat.reduceMul, Nat.zero_add, List.length_cons, List.length_nil, beq_self_eq_true, Bool.not_true, Bool.not_false, evOper_move, evOper_pick, evOper_alloc, evOper_box, evOper_load, evOper_store, evOper_bin, evOper_eqv, evOper_isNil, evOper_un, evOper_conv, evOper_convStr, evOper_s2b, evOper_b2s, evOper_field, evOper_index, evOper_indexStr, evOper_build, evOper_buildSlice, evOper_fieldAddr, evOper_indexAddr, evOper_indexSl, evOper_sliceArr, evOper_sliceSl, evOper_sliceStr, evOper_makeSlice, evOper_extract, evOper_mkIface, evOper_mkFunc, evOper_nilCheck, evOper_s2ap, evOper_append, evOper_copy, evOper_len, evOper_minmax, evOper_call, evOper_callVal, Ob.fresh, live0, live1, live2, Int.natCast_nonneg, and_self, true_and, and_true, Int.toNat_natCast, Nat.mul_one, addr_add, partL, cells_int, cells_int_size, okVar, splice_single, Nat.lt_irrefl, false_and, decide_true, decide_false, Nat.add_zero, Int.reduceEq, Int.reduceLT, Int.reduceLE, Int.reduceToNat, Nat.reduceLT, Nat.reduceSub, rf_int, rf_tuple_ints, toList2, Bool.and_true, Bool.true_and, Bool.and_self, List.getElem?_cons_zero, List.getElem?_cons_succ, nlt1, nlt2, nlt3, nlt4, Nat.le_refl, Int.le_refl, Nat.not_lt_zero, Nat.sub_zero, Nat.zero_mul, cells_agg, cells_agg_size, h1, h2, h4, ho', hwc, e1, e2, e3, e4, e5, e6, e8, hb1, hb2]

theorem mod_round1 {H : List Ob} {id off n cap i w V : Nat} {ws r nx : List Nat} (hr : Row .u32 H id off ws) (hn : ws.length = n) (hN : n < 2 ^ 40) (hi : i < 32 * n) (hw : ws[i / 32]? = some w) (hw' : w < 4294967296) (h : RInv V r nx) :
    ∃ r' nx', RInv (2 * V + w / 2 ^ (i % 32) % 2) r' nx' ∧ (evCode T H.length a41_l2 (⟨[(0, (.slice (some ⟨id, off, none⟩) n cap)), (3, (.slice (some ⟨(H.length + 2), 0, none⟩) 8 8)), (4, (.slice (some ⟨H.length + 1, 0, none⟩) 8 8)), (5, (.slice (some ⟨H.length, 0, none⟩) 8 8)), (6, .int .i64 ((i : Nat)))], H ++ [⟨u32s (nx), true, true, true, 1⟩, ⟨u32s orderW, true, true, true, 1⟩, ⟨u32s (r), true, true, true, 1⟩], []⟩ : St) = some (.normal, (⟨[(0, (.slice (some ⟨id, off, none⟩) n cap)), (3, (.slice (some ⟨(H.length + 2), 0, none⟩) 8 8)), (4, (.slice (some ⟨H.length + 1, 0, none⟩) 8 8)), (5, (.slice (some ⟨H.length, 0, none⟩) 8 8)), (6, .int .i64 ((i : Int) - 1))], H ++ [⟨u32s (nx'), true, true, true, 1⟩, ⟨u32s orderW, true, true, true, 1⟩, ⟨u32s (r'), true, true, true, 1⟩], []⟩ : St)) ∨ evCode T H.length a41_l2 (⟨[(0, (.slice (some ⟨id, off, none⟩) n cap)), (3, (.slice (some ⟨(H.length + 2), 0, none⟩) 8 8)), (4, (.slice (some ⟨H.length + 1, 0, none⟩) 8 8)), (5, (.slice (some ⟨H.length, 0, none⟩) 8 8)), (6, .int .i64 ((i : Nat)))], H ++ [⟨u32s (nx), true, true, true, 1⟩, ⟨u32s orderW, true, true, true, 1⟩, ⟨u32s (r), true, true, true, 1⟩], []⟩ : St) = some (.normal, (⟨[(0, (.slice (some ⟨id, off, none⟩) n cap)), (3, (.slice (some ⟨H.length, 0, none⟩) 8 8)), (4, (.slice (some ⟨H.length + 1, 0, none⟩) 8 8)), (5, (.slice (some ⟨(H.length + 2), 0, none⟩) 8 8)), (6, .int .i64 ((i : Int) - 1))], H ++ [⟨u32s (r'), true, true, true, 1⟩, ⟨u32s orderW, true, true, true, 1⟩, ⟨u32s (nx'), true, true, true, 1⟩], []⟩ : St))) := by
  have hc : w / 2 ^ (i % 32) % 2 ≤ 1 := by omega
  obtain ⟨r1, c1, hb1, i1⟩ := sh_loop1 (H := H) (s := (.slice (some ⟨id, off, none⟩) n cap)) (v := .int .i64 (i : Nat)) (nx := nx) h.len h.lt hc
  obtain ⟨nx1, b, hb2, i2⟩ := sb_loop1 (H := H) (s := (.slice (some ⟨id, off, none⟩) n cap)) (v := .int .i64 (i : Nat)) (r := r1) (nx := nx) i1.len i1.lt h.len2 h.lt2
  obtain ⟨o, ho, hcell⟩ := hr
  have ho' := liveAt_app (l := [⟨u32s (nx), true, true, true, 1⟩, ⟨u32s orderW, true, true, true, 1⟩, ⟨u32s (r), true, true, true, 1⟩]) ho
  have hwc := hcell (i / 32) w hw
  have h1 : ((i : Int) ≥ 0) := by omega
  have h2 : ((i / 32 : Nat) : Int) < (n : Int) := by omega
  have h4 : ¬ (((i % 32 : Nat) : Int) < 0) := by omega
  have e1 : IntKind.i64.wrap ((i : Int).tdiv 32) = ((i / 32 : Nat) : Int) := wrap_nat (n := i / 32) (by omega)
  have e2 : ((i : Int).tmod 32) = ((i % 32 : Nat) : Int) := rfl
  have e3 : Int.fdiv (w : Int) (2 ^ min (i % 32) IntKind.u32.bits) = ((w / 2 ^ (i % 32) : Nat) : Int) := by
    rw [Nat.min_eq_left (by show _ ≤ 32; omega), Int.fdiv_eq_ediv_of_nonneg _ (Int.le_of_lt (Int.pow_pos (by decide)))]; simp
  have e4 : bitsOp .and .u32 ((w / 2 ^ (i % 32) : Nat) : Int) 1 = ((w / 2 ^ (i % 32) % 2 : Nat) : Int) := by
    rw [show (1 : Int) = ((1 : Nat) : Int) from rfl, bits_and (k := .u32) (a := w / 2 ^ (i % 32)) (b := 1) rfl (Nat.lt_of_le_of_lt (Nat.div_le_self _ _) hw') (by decide), Nat.and_one_is_mod]
  have e5 : IntKind.i64.wrap ((i : Int) - 1) = (i : Int) - 1 := wrapI64_small (by omega) (by omega)
  have e8 : ((8 : Nat) : Int) = 8 := rfl
  have hst := h.step hc i1 i2
  generalize w / 2 ^ (i % 32) % 2 = c at *
  by_cases hb0 : b = 0
  · subst hb0
    have e6 : (((0 : Nat) : Int) == 0) = true := rfl
    refine ⟨nx1, r1, hst.1 rfl, .inr ?_⟩
    simp only [a41_l2, envOf, evCode_skip, evCode_exit, evCode_seq, evCode_region, evCode_cond, evCode_block, evCode_ret, evOps_cons, evOps_nil, guardOf, simpleOp, opd, opds, opdOpt, opdParts, Env.get, Env.put, pureV, Option.bind_some, List.nil_append, List.cons_append, inMerge, pairsOk, List.all_nil, List.all_cons, St.after, Env.keep, if_true, if_false, ite_true, ite_false, binV, intBin, unV, shiftOp, resultOf, packed, reduceCtorEq, Option.isNone_none, Option.isSome_none, Bool.false_eq_true, Nat.reduceAdd, Nat.reduceEqDiff, Nat.reduceMul, Nat.zero_add, List.length_cons, List.length_nil, beq_self_eq_true, Bool.not_true, Bool.not_false, evOper_move, evOper_pick, evOper_alloc, evOper_box, evOper_load, evOper_store, evOper_bin, evOper_eqv, evOper_isNil, evOper_un, evOper_conv, evOper_convStr, evOper_s2b, evOper_b2s, evOper_field, evOper_index, evOper_indexStr, evOper_build, evOper_buildSlice, evOper_fieldAddr, evOper_indexAddr, evOper_indexSl, evOper_sliceArr, evOper_sliceSl, evOper_sliceStr, evOper_makeSlice, evOper_extract, evOper_mkIface, evOper_mkFunc, evOper_nilCheck, evOper_s2ap, evOper_append, evOper_copy, evOper_len, evOper_minmax, evOper_call, evOper_callVal, Ob.fresh, live0, live1, live2, Int.natCast_nonneg, and_self, true_and, and_true, Int.toNat_natCast, Nat.mul_one, addr_add, partL, cells_int, cells_int_size, okVar, splice_single, Nat.lt_irrefl, false_and, decide_true, decide_false, Nat.add_zero, Int.reduceEq, Int.reduceLT, Int.reduceLE, Int.reduceToNat, Nat.reduceLT, Nat.reduceSub, rf_int, rf_tuple_ints, toList2, Bool.and_true, Bool.true_and, Bool.and_self, List.getElem?_cons_zero, List.getElem?_cons_succ, nlt1, nlt2, nlt3, nlt4, Nat.le_refl, Int.le_refl, Nat.not_lt_zero, Nat.sub_zero, Nat.zero_mul, cells_agg, cells_agg_size, h1, h2, h4, ho', hwc, e1, e2, e3, e4, e5, e6, e8, hb1, hb2]
  · have hb1' : b = 1 := by have := i2.ble; omega
    subst hb1'
    have e6 : (((1 : Nat) : Int) == 0) = false := rfl
    refine ⟨r1, nx1, hst.2 (by decide), .inl ?_⟩
    simp only [a41_l2, envOf, evCode_skip, evCode_exit, evCode_seq, evCode_region, evCode_cond, evCode_block, evCode_ret, evOps_cons, evOps_nil, guardOf, simpleOp, opd, opds, opdOpt, opdParts, Env.get, Env.put, pureV, Option.bind_some, List.nil_append, List.cons_append, inMerge, pairsOk, List.all_nil, List.all_cons, St.after, Env.keep, if_true, if_false, ite_true, ite_false, binV, intBin, unV, shiftOp, resultOf, packed, reduceCtorEq, Option.isNone_none, Option.isSome_none, Bool.false_eq_true, Nat.reduceAdd, Nat.reduceEqDiff, Nat.reduceMul, Nat.zero_add, List.length_cons, List.length_nil, beq_self_eq_true, Bool.not_true, Bool.not_false, evOper_move, evOper_pick, evOper_alloc, evOper_box, evOper_load, evOper_store, evOper_bin, evOper_eqv, evOper_isNil, evOper_un, evOper_conv, evOper_convStr, evOper_s2b, evOper_b2s, evOper_field, evOper_index, evOper_indexStr, evOper_build, evOper_buildSlice, evOper_fieldAddr, evOper_indexAddr, evOper_indexSl, evOper_sliceArr, evOper_sliceSl, evOper_sliceStr, evOper_makeSlice, evOper_extract, evOper_mkIface, evOper_mkFunc, evOper_nilCheck, evOper_s2ap, evOper_append, evOper_copy, evOper_len, evOper_minmax, evOper_call, evOper_callVal, Ob.fresh, live0, live1, live2, Int.natCast_nonneg, and_self, true_and, and_true, Int.toNat_natCast, Nat.mul_one, addr_add, partL, cells_int, cells_int_size, okVar, splice_single, Nat.lt_irrefl, false_and, decide_true, decide_false, Nat.add_zero, Int.reduceEq, Int.reduceLT, Int.reduceLE, Int.reduceToNat, Nat.reduceLT, Nat.reduceSub, rf_int, rf_tuple_ints, toList2, Bool.and_true, Bool.true_and, Bool.and_self, List.getElem?_cons_zero, List.getElem?_cons_succ, nlt1, nlt2, nlt3, nlt4, Nat.le_refl, Int.le_refl, Nat.not_lt_zero, Nat.sub_zero, Nat.zero_mul, cells_agg, cells_agg_size, h1, h2, h4, ho', hwc, e1, e2, e3, e4, e5, e6, e8, hb1, hb2]

def modSt (H : List Ob) (s : Value) (p : Bool) (v : Int) (r nx : List Nat) : St := match p with
  | false => (⟨[(0, s), (3, (.slice (some ⟨H.length, 0, none⟩) 8 8)), (4, (.slice (some ⟨H.length + 1, 0, none⟩) 8 8)), (5, (.slice (some ⟨(H.length + 2), 0, none⟩) 8 8)), (6, .int .i64 (v))], H ++ [⟨u32s (r), true, true, true, 1⟩, ⟨u32s orderW, true, true, true, 1⟩, ⟨u32s (nx), true, true, true, 1⟩], []⟩ : St)
  | true => (⟨[(0, s), (3, (.slice (some ⟨(H.length + 2), 0, none⟩) 8 8)), (4, (.slice (some ⟨H.length + 1, 0, none⟩) 8 8)), (5, (.slice (some ⟨H.length, 0, none⟩) 8 8)), (6, .int .i64 (v))], H ++ [⟨u32s (nx), true, true, true, 1⟩, ⟨u32s orderW, true, true, true, 1⟩, ⟨u32s (r), true, true, true, 1⟩], []⟩ : St)

def modEnd (H : List Ob) (s : Value) (p : Bool) (r nx : List Nat) : St := match p with
  | false => (⟨[(0, s), (3, (.slice (some ⟨H.length, 0, none⟩) 8 8)), (4, (.slice (some ⟨H.length + 1, 0, none⟩) 8 8)), (5, (.slice (some ⟨(H.length + 2), 0, none⟩) 8 8)), (6, .int .i64 (-1)), (19, .bool false)], H ++ [⟨u32s (r), true, true, true, 1⟩, ⟨u32s orderW, true, true, true, 1⟩, ⟨u32s (nx), true, true, true, 1⟩], []⟩ : St)
  | true => (⟨[(0, s), (3, (.slice (some ⟨(H.length + 2), 0, none⟩) 8 8)), (4, (.slice (some ⟨H.length + 1, 0, none⟩) 8 8)), (5, (.slice (some ⟨H.length, 0, none⟩) 8 8)), (6, .int .i64 (-1)), (19, .bool false)], H ++ [⟨u32s (nx), true, true, true, 1⟩, ⟨u32s orderW, true, true, true, 1⟩, ⟨u32s (r), true, true, true, 1⟩], []⟩ : St)

theorem mod_round {H : List Ob} {id off n cap i w V : Nat} {ws r nx : List Nat} (p : Bool) (hr : Row .u32 H id off ws) (hn : ws.length = n) (hN : n < 2 ^ 40) (hi : i < 32 * n) (hw : ws[i / 32]? = some w) (hw' : w < 4294967296) (h : RInv V r nx) :
    ∃ q r' nx', RInv (2 * V + w / 2 ^ (i % 32) % 2) r' nx' ∧ evCode T H.length a41_l2 (modSt H (.slice (some ⟨id, off, none⟩) n cap) p (i : Nat) r nx) = some (.normal, modSt H (.slice (some ⟨id, off, none⟩) n cap) q ((i : Int) - 1) r' nx') := by
  cases p with
  | false =>
    obtain ⟨r', nx', h1, h2⟩ := mod_round0 (cap := cap) hr hn hN hi hw hw' h
    rcases h2 with h2 | h2
    · exact ⟨false, r', nx', h1, h2⟩
    · exact ⟨true, r', nx', h1, h2⟩
  | true =>
    obtain ⟨r', nx', h1, h2⟩ := mod_round1 (cap := cap) hr hn hN hi hw hw' h
    rcases h2 with h2 | h2
    · exact ⟨true, r', nx', h1, h2⟩
    · exact ⟨false, r', nx', h1, h2⟩

theorem bit_of {ws : List Nat} {i w : Nat} (hws : ∀ x ∈ ws, x < 4294967296) (hw : ws[i / 32]? = some w) : 2 * (num 4294967296 ws / 2 ^ (i + 1)) + w / 2 ^ (i % 32) % 2 = num 4294967296 ws / 2 ^ i := by
  have h1 := num_get (B := 4294967296) (by decide) hws hw
  generalize num 4294967296 ws = v at *
  have h2 : w / 2 ^ (i % 32) % 2 = v / 2 ^ i % 2 := by
    have e1 : (4294967296 : Nat) ^ (i / 32) = 2 ^ (32 * (i / 32)) := by rw [show (4294967296 : Nat) = 2 ^ 32 from rfl, ← Nat.pow_mul]
    rw [← h1, e1]
    have e2 : (2 : Nat) ^ i = 2 ^ (32 * (i / 32)) * 2 ^ (i % 32) := by rw [← Nat.pow_add]; congr 1; omega
    rw [e2, ← Nat.div_div_eq_div_mul]
    generalize v / 2 ^ (32 * (i / 32)) = u
    have e3 : (4294967296 : Nat) = 2 ^ (i % 32) * 2 ^ (32 - i % 32) := by rw [← Nat.pow_add]; rw [show i % 32 + (32 - i % 32) = 32 by omega]
    rw [e3, Nat.mod_mul_right_div_self, Nat.mod_mod_of_dvd]
    exact ⟨2 ^ (31 - i % 32), by rw [← Nat.pow_add_one']; congr 1; omega⟩
  rw [h2, Nat.pow_succ, ← Nat.div_div_eq_div_mul]
  omega

theorem mod_ev {H : List Ob} {id off n cap : Nat} {ws : List Nat} (hr : Row .u32 H id off ws) (hn : ws.length = n) (hn0 : 0 < n) (hN : n < 2 ^ 40) (hws : ∀ x ∈ ws, x < 4294967296) :
    ∃ k l, evFun T 41 [.slice (some ⟨id, off, none⟩) n cap] H = some (.slice (some ⟨k, 0, none⟩) 8 8, H ++ l, []) ∧ Row .u32 (H ++ l) k 0 (dig 4294967296 8 (num 4294967296 ws % ell)) := by
  have h0 : RInv (num 4294967296 ws / 2 ^ (32 * n)) (dig 4294967296 8 0) (dig 4294967296 8 0) := by
    refine ⟨dig_len _ _ _, fun x hx => dig_lt (by decide) hx, dig_len _ _ _, fun x hx => dig_lt (by decide) hx, ?_⟩
    have h1 := num_lt hws
    rw [hn, show (4294967296 : Nat) = 2 ^ 32 from rfl, ← Nat.pow_mul] at h1
    rw [num_dig (by decide), show (4294967296 : Nat) = 2 ^ 32 from rfl, Nat.div_eq_of_lt h1]
    simp
  obtain ⟨s', hb, q, r, nx, rfl, hinv⟩ := block_inv (T := T) (base := H.length) (id := 0) (body := a41_l2)
    (fun j s => ∃ p r nx, s = modSt H (.slice (some ⟨id, off, none⟩) n cap) p (((32 * n - j : Nat) : Int) - 1) r nx ∧ RInv (num 4294967296 ws / 2 ^ (32 * n - j)) r nx)
    (Q := fun s => ∃ p r nx, s = modEnd H (.slice (some ⟨id, off, none⟩) n cap) p r nx ∧ RInv (num 4294967296 ws) r nx)
    (32 * n) (s := modSt H (.slice (some ⟨id, off, none⟩) n cap) false (((32 * n - 0 : Nat) : Int) - 1) (dig 4294967296 8 0) (dig 4294967296 8 0)) ⟨false, _, _, rfl, h0⟩
    (fun j s hj hs => by
      obtain ⟨p, r, nx, rfl, hI⟩ := hs
      obtain ⟨i, hi⟩ : ∃ i, 32 * n - j = i + 1 := ⟨32 * n - j - 1, by omega⟩
      obtain ⟨w, hw⟩ : ∃ w, ws[i / 32]? = some w := ⟨_, List.getElem?_eq_getElem (by omega)⟩
      rw [hi] at hI
      obtain ⟨q, r', nx', g1, g2⟩ := mod_round (cap := cap) p hr hn hN (by omega) hw (hws w (List.mem_of_getElem? hw)) hI
      rw [bit_of hws hw] at g1
      refine ⟨_, ?_, q, r', nx', rfl, by rw [show 32 * n - (j + 1) = i by omega]; exact g1⟩
      rw [hi, show 32 * n - (j + 1) = i by omega, show (((i + 1 : Nat) : Int) - 1) = (i : Nat) by omega]
      exact g2)
    (fun s hs => by
      obtain ⟨p, r, nx, rfl, hI⟩ := hs
      rw [Nat.sub_self, Nat.pow_zero, Nat.div_one] at hI
      refine ⟨_, ?_, p, r, nx, rfl, hI⟩
      rw [Nat.sub_self]
      have h1 : ¬ ((-1 : Int) ≥ 0) := by decide
      cases p with
      | false =>
        rw [show modSt H (.slice (some ⟨id, off, none⟩) n cap) false (((0 : Nat) : Int) - 1) r nx = (⟨[(0, .slice (some ⟨id, off, none⟩) n cap), (3, (.slice (some ⟨H.length, 0, none⟩) 8 8)), (4, (.slice (some ⟨H.length + 1, 0, none⟩) 8 8)), (5, (.slice (some ⟨(H.length + 2), 0, none⟩) 8 8)), (6, .int .i64 (-1))], H ++ [⟨u32s (r), true, true, true, 1⟩, ⟨u32s orderW, true, true, true, 1⟩, ⟨u32s (nx), true, true, true, 1⟩], []⟩ : St) from rfl]
        simp only [a41_l2, envOf, evCode_skip, evCode_exit, evCode_seq, evCode_region, evCode_cond, evCode_block, evCode_ret, evOps_cons, evOps_nil, guardOf, simpleOp, opd, opds, opdOpt, opdParts, Env.get, Env.put, pureV, Option.bind_some, List.nil_append, List.cons_append, inMerge, pairsOk, List.all_nil, List.all_cons, St.after, Env.keep, if_true, if_false, ite_true, ite_false, binV, intBin, unV, shiftOp, resultOf, packed, reduceCtorEq, Option.isNone_none, Option.isSome_none, Bool.false_eq_true, Nat.reduceAdd, Nat.reduceEqDiff, Nat.reduceMul, Nat.zero_add, List.length_cons, List.length_nil, beq_self_eq_true, Bool.not_true, Bool.not_false, evOper_move, evOper_pick, evOper_alloc, evOper_box, evOper_load, evOper_store, evOper_bin, evOper_eqv, evOper_isNil, evOper_un, evOper_conv, evOper_convStr, evOper_s2b, evOper_b2s, evOper_field, evOper_index, evOper_indexStr, evOper_build, evOper_buildSlice, evOper_fieldAddr, evOper_indexAddr, evOper_indexSl, evOper_sliceArr, evOper_sliceSl, evOper_sliceStr, evOper_makeSlice, evOper_extract, evOper_mkIface, evOper_mkFunc, evOper_nilCheck, evOper_s2ap, evOper_append, evOper_copy, evOper_len, evOper_minmax, evOper_call, evOper_callVal, Ob.fresh, live0, live1, live2, Int.natCast_nonneg, and_self, true_and, and_true, Int.toNat_natCast, Nat.mul_one, addr_add, partL, cells_int, cells_int_size, okVar, splice_single, Nat.lt_irrefl, false_and, decide_true, decide_false, Nat.add_zero, Int.reduceEq, Int.reduceLT, Int.reduceLE, Int.reduceToNat, Nat.reduceLT, Nat.reduceSub, rf_int, rf_tuple_ints, toList2, Bool.and_true, Bool.true_and, Bool.and_self, List.getElem?_cons_zero, List.getElem?_cons_succ, nlt1, nlt2, nlt3, nlt4, Nat.le_refl, Int.le_refl, Nat.not_lt_zero, Nat.sub_zero, Nat.zero_mul, cells_agg, cells_agg_size, h1, modEnd]
      | true =>
        rw [show modSt H (.slice (some ⟨id, off, none⟩) n cap) true (((0 : Nat) : Int) - 1) r nx = (⟨[(0, .slice (some ⟨id, off, none⟩) n cap), (3, (.slice (some ⟨(H.length + 2), 0, none⟩) 8 8)), (4, (.slice (some ⟨H.length + 1, 0, none⟩) 8 8)), (5, (.slice (some ⟨H.length, 0, none⟩) 8 8)), (6, .int .i64 (-1))], H ++ [⟨u32s (nx), true, true, true, 1⟩, ⟨u32s orderW, true, true, true, 1⟩, ⟨u32s (r), true, true, true, 1⟩], []⟩ : St) from rfl]
        simp only [a41_l2, envOf, evCode_skip, evCode_exit, evCode_seq, evCode_region, evCode_cond, evCode_block, evCode_ret, evOps_cons, evOps_nil, guardOf, simpleOp, opd, opds, opdOpt, opdParts, Env.get, Env.put, pureV, Option.bind_some, List.nil_append, List.cons_append, inMerge, pairsOk, List.all_nil, List.all_cons, St.after, Env.keep, if_true, if_false, ite_true, ite_false, binV, intBin, unV, shiftOp, resultOf, packed, reduceCtorEq, Option.isNone_none, Option.isSome_none, Bool.false_eq_true, Nat.reduceAdd, Nat.reduceEqDiff, Nat.reduceMul, Nat.zero_add, List.length_cons, List.length_nil, beq_self_eq_true, Bool.not_true, Bool.not_false, evOper_move, evOper_pick, evOper_alloc, evOper_box, evOper_load, evOper_store, evOper_bin, evOper_eqv, evOper_isNil, evOper_un, evOper_conv, evOper_convStr, evOper_s2b, evOper_b2s, evOper_field, evOper_index, evOper_indexStr, evOper_build, evOper_buildSlice, evOper_fieldAddr, evOper_indexAddr, evOper_indexSl, evOper_sliceArr, evOper_sliceSl, evOper_sliceStr, evOper_makeSlice, evOper_extract, evOper_mkIface, evOper_mkFunc, evOper_nilCheck, evOper_s2ap, evOper_append, evOper_copy, evOper_len, evOper_minmax, evOper_call, evOper_callVal, Ob.fresh, live0, live1, live2, Int.natCast_nonneg, and_self, true_and, and_true, Int.toNat_natCast, Nat.mul_one, addr_add, partL, cells_int, cells_int_size, okVar, splice_single, Nat.lt_irrefl, false_and, decide_true, decide_false, Nat.add_zero, Int.reduceEq, Int.reduceLT, Int.reduceLE, Int.reduceToNat, Nat.reduceLT, Nat.reduceSub, rf_int, rf_tuple_ints, toList2, Bool.and_true, Bool.true_and, Bool.and_self, List.getElem?_cons_zero, List.getElem?_cons_succ, nlt1, nlt2, nlt3, nlt4, Nat.le_refl, Int.le_refl, Nat.not_lt_zero, Nat.sub_zero, Nat.zero_mul, cells_agg, cells_agg_size, h1, modEnd])
  obtain ⟨m, hm⟩ : ∃ m : Int, m = ((32 * n - 0 : Nat) : Int) - 1 := ⟨_, rfl⟩
  rw [← hm, show modSt H (.slice (some ⟨id, off, none⟩) n cap) false m (dig 4294967296 8 0) (dig 4294967296 8 0) = (⟨[(0, .slice (some ⟨id, off, none⟩) n cap), (3, (.slice (some ⟨H.length, 0, none⟩) 8 8)), (4, (.slice (some ⟨H.length + 1, 0, none⟩) 8 8)), (5, (.slice (some ⟨(H.length + 2), 0, none⟩) 8 8)), (6, .int .i64 (m))], H ++ [⟨u32s (dig 4294967296 8 0), true, true, true, 1⟩, ⟨u32s orderW, true, true, true, 1⟩, ⟨u32s (dig 4294967296 8 0), true, true, true, 1⟩], []⟩ : St) from rfl] at hb
  have e1 : IntKind.i64.wrap (IntKind.i64.wrap (32 * (n : Int)) - 1) = m := by rw [wrapI64_small (x := 32 * (n : Int)) (by omega) (by omega), wrapI64_small (by omega) (by omega)]; omega
  have h1 : ((8 : Int) * ((4 : Nat) : Int) ≤ 2 ^ 47) := by decide
  have h2 : (0 : Nat) < 4 := by decide
  have h3 : ((0 : Int) ≤ 8) := by decide
  have hz : List.replicate 8 (Value.int .u32 0) = u32s (dig 4294967296 8 0) := rfl
  have horder := order_ev (H ++ [⟨u32s (dig 4294967296 8 0), true, true, true, 1⟩])
  simp only [List.length_append, List.length_cons, List.length_nil, Nat.zero_add, List.append_assoc, List.cons_append, List.nil_append, Ob.fresh] at horder
  have hdig : r = dig 4294967296 8 (num 4294967296 ws % ell) := by rw [← hinv.eq, ← hinv.len, dig_num (by decide) hinv.lt]
  cases q with
  | false =>
    refine ⟨H.length, [⟨u32s r, true, true, true, 1⟩, ⟨u32s orderW, true, true, true, 1⟩, ⟨u32s nx, true, true, true, 1⟩], ?_, ?_⟩
    · rw [evFun_fn (fn := a41) rfl]
      simp only [a41, envOf, evCode_skip, evCode_exit, evCode_seq, evCode_region, evCode_cond, evCode_block, evCode_ret, evOps_cons, evOps_nil, guardOf, simpleOp, opd, opds, opdOpt, opdParts, Env.get, Env.put, pureV, Option.bind_some, List.nil_append, List.cons_append, inMerge, pairsOk, List.all_nil, List.all_cons, St.after, Env.keep, if_true, if_false, ite_true, ite_false, binV, intBin, unV, shiftOp, resultOf, packed, reduceCtorEq, Option.isNone_none, Option.isSome_none, Bool.false_eq_true, Nat.reduceAdd, Nat.reduceEqDiff, Nat.reduceMul, Nat.zero_add, List.length_cons, List.length_nil, beq_self_eq_true, Bool.not_true, Bool.not_false, evOper_move, evOper_pick, evOper_alloc, evOper_box, evOper_load, evOper_store, evOper_bin, evOper_eqv, evOper_isNil, evOper_un, evOper_conv, evOper_convStr, evOper_s2b, evOper_b2s, evOper_field, evOper_index, evOper_indexStr, evOper_build, evOper_buildSlice, evOper_fieldAddr, evOper_indexAddr, evOper_indexSl, evOper_sliceArr, evOper_sliceSl, evOper_sliceStr, evOper_makeSlice, evOper_extract, evOper_mkIface, evOper_mkFunc, evOper_nilCheck, evOper_s2ap, evOper_append, evOper_copy, evOper_len, evOper_minmax, evOper_call, evOper_callVal, Ob.fresh, live0, live1, live2, Int.natCast_nonneg, and_self, true_and, and_true, Int.toNat_natCast, Nat.mul_one, addr_add, partL, cells_int, cells_int_size, okVar, splice_single, Nat.lt_irrefl, false_and, decide_true, decide_false, Nat.add_zero, Int.reduceEq, Int.reduceLT, Int.reduceLE, Int.reduceToNat, Nat.reduceLT, Nat.reduceSub, rf_int, rf_tuple_ints, toList2, Bool.and_true, Bool.true_and, Bool.and_self, List.getElem?_cons_zero, List.getElem?_cons_succ, nlt1, nlt2, nlt3, nlt4, Nat.le_refl, Int.le_refl, Nat.not_lt_zero, Nat.sub_zero, Nat.zero_mul, cells_agg, cells_agg_size, e1, h1, h2, h3, Int.le_refl, flat_one, hz, horder, List.length_append, List.append_assoc, hb, modEnd]
    · exact ⟨_, live0, fun i x hx => by rw [Nat.zero_add]; exact u32s_get (by rw [hdig]; exact hx)⟩
  | true =>
    refine ⟨H.length + 2, [⟨u32s nx, true, true, true, 1⟩, ⟨u32s orderW, true, true, true, 1⟩, ⟨u32s r, true, true, true, 1⟩], ?_, ?_⟩
    · rw [evFun_fn (fn := a41) rfl]
      simp only [a41, envOf, evCode_skip, evCode_exit, evCode_seq, evCode_region, evCode_cond, evCode_block, evCode_ret, evOps_cons, evOps_nil, guardOf, simpleOp, opd, opds, opdOpt, opdParts, Env.get, Env.put, pureV, Option.bind_some, List.nil_append, List.cons_append, inMerge, pairsOk, List.all_nil, List.all_cons, St.after, Env.keep, if_true, if_false, ite_true, ite_false, binV, intBin, unV, shiftOp, resultOf, packed, reduceCtorEq, Option.isNone_none, Option.isSome_none, Bool.false_eq_true, Nat.reduceAdd, Nat.reduceEqDiff, Nat.reduceMul, Nat.zero_add, List.length_cons, List.length_nil, beq_self_eq_true, Bool.not_true, Bool.not_false, evOper_move, evOper_pick, evOper_alloc, evOper_box, evOper_load, evOper_store, evOper_bin, evOper_eqv, evOper_isNil, evOper_un, evOper_conv, evOper_convStr, evOper_s2b, evOper_b2s, evOper_field, evOper_index, evOper_indexStr, evOper_build, evOper_buildSlice, evOper_fieldAddr, evOper_indexAddr, evOper_indexSl, evOper_sliceArr, evOper_sliceSl, evOper_sliceStr, evOper_makeSlice, evOper_extract, evOper_mkIface, evOper_mkFunc, evOper_nilCheck, evOper_s2ap, evOper_append, evOper_copy, evOper_len, evOper_minmax, evOper_call, evOper_callVal, Ob.fresh, live0, live1, live2, Int.natCast_nonneg, and_self, true_and, and_true, Int.toNat_natCast, Nat.mul_one, addr_add, partL, cells_int, cells_int_size, okVar, splice_single, Nat.lt_irrefl, false_and, decide_true, decide_false, Nat.add_zero, Int.reduceEq, Int.reduceLT, Int.reduceLE, Int.reduceToNat, Nat.reduceLT, Nat.reduceSub, rf_int, rf_tuple_ints, toList2, Bool.and_true, Bool.true_and, Bool.and_self, List.getElem?_cons_zero, List.getElem?_cons_succ, nlt1, nlt2, nlt3, nlt4, Nat.le_refl, Int.le_refl, Nat.not_lt_zero, Nat.sub_zero, Nat.zero_mul, cells_agg, cells_agg_size, e1, h1, h2, h3, Int.le_refl, flat_one, hz, horder, List.length_append, List.append_assoc, hb, modEnd]
    · exact ⟨_, live2, fun i x hx => by rw [Nat.zero_add]; exact u32s_get (by rw [hdig]; exact hx)⟩
end Go.Ev.Ytaceeoghjgggjaa

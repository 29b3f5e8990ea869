/-
  ScalarClamps, as the evaluator reads it, answers true for every key.
-/
import Derived.Test.YtaceeoghjgggjaaSW9
set_option linter.unusedSimpArgs false
set_option linter.unusedVariables false
namespace Go.Ev.Ytaceeoghjgggjaa
open Go Go.Ev
attribute [local congr] bind_congr1
set_option maxRecDepth 100000

theorem byte_facts : ∀ x : Nat, x < 256 → (x &&& 248) % 8 = 0 ∧ (x &&& 248) = x - x % 8 ∧ (x &&& 248) &&& 248 = x &&& 248 ∧ (x &&& 248) < 256 ∧ 64 ≤ ((x &&& 127) ||| 64) ∧ ((x &&& 127) ||| 64) ≤ 127 ∧ ((x &&& 127) ||| 64) % 64 = x % 64 ∧ ((((x &&& 127) ||| 64) &&& 127) ||| 64) = ((x &&& 127) ||| 64) := by decide +kernel

def clI (a c : List Nat) (i : Int) (ex : Env) : St := ⟨[(1, .pointer (some ⟨0, 0, none⟩)), (3, .pointer (some ⟨1, 0, none⟩)), (4, .int .i64 i)] ++ ex, [⟨u8s a, true, true, true, 1⟩, ⟨u8s c, true, true, true, 1⟩], []⟩

def a3_r : ACode := (.region [(AOper.mk (some 9) (.indexAddr 32 1 (.tmp 3) (.const (.int .i64 0))) none), (AOper.mk (some 10) (.load none (.tmp 9)) none), (AOper.mk (some 11) (.bin .rem (.tmp 10) (.const (.int .u8 8))) none), (AOper.mk (some 12) (.bin .neq (.tmp 11) (.const (.int .u8 0))) none), (AOper.mk (some 13) (.move (.tmp 12)) none), (AOper.mk (some 14) (.indexAddr 32 1 (.tmp 3) (.const (.int .i64 31))) (some (13, false))), (AOper.mk (some 15) (.load none (.tmp 14)) (some (13, false))), (AOper.mk (some 16) (.bin .lss (.tmp 15) (.const (.int .u8 64))) (some (13, false))), (AOper.mk (some 17) (.pick (.tmp 13) (.const (.bool true)) (.tmp 16)) none), (AOper.mk (some 18) (.move (.tmp 17)) none), (AOper.mk (some 19) (.indexAddr 32 1 (.tmp 3) (.const (.int .i64 31))) (some (18, false))), (AOper.mk (some 20) (.load none (.tmp 19)) (some (18, false))), (AOper.mk (some 21) (.bin .gtr (.tmp 20) (.const (.int .u8 127))) (some (18, false))), (AOper.mk (some 22) (.pick (.tmp 18) (.const (.bool true)) (.tmp 21)) none), (AOper.mk (some 23) (.move (.tmp 22)) none), (AOper.mk (some 24) (.load (some 32) (.tmp 3)) (some (23, false))), (AOper.mk (some 25) (.call 16 [(.tmp 24)] true) (some (23, false))), (AOper.mk (some 26) (.load (some 32) (.tmp 3)) (some (23, false))), (AOper.mk (some 27) (.eqv (some (List.replicate 32 true)) true (.tmp 25) (.tmp 26)) (some (23, false))), (AOper.mk (some 28) (.pick (.tmp 23) (.const (.bool true)) (.tmp 27)) none), (AOper.mk (some 29) (.move (.tmp 28)) none), (AOper.mk (some 30) (.indexAddr 32 1 (.tmp 3) (.const (.int .i64 0))) (some (29, false))), (AOper.mk (some 31) (.load none (.tmp 30)) (some (29, false))), (AOper.mk (some 32) (.indexAddr 32 1 (.tmp 1) (.const (.int .i64 0))) (some (29, false))), (AOper.mk (some 33) (.load none (.tmp 32)) (some (29, false))), (AOper.mk (some 34) (.indexAddr 32 1 (.tmp 1) (.const (.int .i64 0))) (some (29, false))), (AOper.mk (some 35) (.load none (.tmp 34)) (some (29, false))), (AOper.mk (some 36) (.bin .rem (.tmp 35) (.const (.int .u8 8))) (some (29, false))), (AOper.mk (some 37) (.bin .sub (.tmp 33) (.tmp 36)) (some (29, false))), (AOper.mk (some 38) (.bin .neq (.tmp 31) (.tmp 37)) (some (29, false))), (AOper.mk (some 39) (.pick (.tmp 29) (.const (.bool true)) (.tmp 38)) none), (AOper.mk (some 40) (.move (.tmp 39)) none), (AOper.mk (some 41) (.indexAddr 32 1 (.tmp 3) (.const (.int .i64 31))) (some (40, false))), (AOper.mk (some 42) (.load none (.tmp 41)) (some (40, false))), (AOper.mk (some 43) (.bin .rem (.tmp 42) (.const (.int .u8 64))) (some (40, false))), (AOper.mk (some 44) (.indexAddr 32 1 (.tmp 1) (.const (.int .i64 31))) (some (40, false))), (AOper.mk (some 45) (.load none (.tmp 44)) (some (40, false))), (AOper.mk (some 46) (.bin .rem (.tmp 45) (.const (.int .u8 64))) (some (40, false))), (AOper.mk (some 47) (.bin .neq (.tmp 43) (.tmp 46)) (some (40, false))), (AOper.mk (some 48) (.pick (.tmp 40) (.const (.bool true)) (.tmp 47)) none)] (some [1, 3, 48]) [])
def a3p : AFun := ⟨(.seq (.region [(AOper.mk (some 1) (.box (.tmp 0)) none), (AOper.mk (some 2) (.move (.const (.bool false))) none)] (some [1]) []) (.seq (.seq (.region [(AOper.mk (some 5) (.call 15 [] true) none), (AOper.mk (some 6) (.un .not (.tmp 5)) none)] (some [1, 6]) []) (.cond (.tmp 6) (.seq (.region [(AOper.mk (some 2) (.move (.const (.bool false))) none)] (some [2]) []) .ret) .skip)) (.seq (.region [(AOper.mk (some 7) (.load (some 32) (.tmp 1)) none), (AOper.mk (some 8) (.call 16 [(.tmp 7)] true) none), (AOper.mk (some 3) (.alloc (List.replicate 32 (.int .u8 0))) none), (AOper.mk none (.store 32 (.tmp 3) (.tmp 8)) none)] (some [1, 3]) []) (.seq (.seq a3_r (.cond (.tmp 48) (.seq (.region [(AOper.mk (some 2) (.move (.const (.bool false))) none)] (some [2]) []) .ret) .skip)) (.seq (.seq (.region [(AOper.mk (some 4) (.move (.const (.int .i64 1))) none)] (some [1, 3, 4]) []) (.block 0 (.loop a3_l0))) (.seq (.region [(AOper.mk (some 2) (.move (.const (.bool true))) none)] (some [2]) []) .ret)))))), [(2, none)]⟩

theorem rf_bool (b : Bool) : rf (.bool b) = true := rfl
theorem v0 (p q : List Value) : liveAt [⟨p, true, true, true, 1⟩, ⟨q, true, true, true, 1⟩] 0 = some ⟨p, true, true, true, 1⟩ := rfl
theorem v1 (p q : List Value) : liveAt [⟨p, true, true, true, 1⟩, ⟨q, true, true, true, 1⟩] 1 = some ⟨q, true, true, true, 1⟩ := rfl
theorem v00 (p : List Value) : liveAt [⟨p, true, true, true, 1⟩] 0 = some ⟨p, true, true, true, 1⟩ := rfl

theorem cl_body {a c : List Nat} {i x : Nat} (hi : i < 31) (hx : a[i]? = some x) (hy : c[i]? = some x) :
    evCode T 0 a3_l0 (clI a c (i : Nat) []) = some (.normal, clI a c ((i + 1 : Nat) : Int) []) := by
  have hxc := u8s_get hx
  have hyc := u8s_get hy
  have h1 : ((i : Int) < 31) := by omega
  have h2 : ((i : Int) < ((32 : Nat) : Int)) := by omega
  have e6 : IntKind.i64.wrap ((i : Int) + 1) = ((i + 1 : Nat) : Int) := wrap_nat (n := i + 1) (by omega)
  have e7 : (((x : Nat) : Int) != ((x : Nat) : Int)) = false := by simp
  simp only [clI, a3_l0, envOf, evCode_skip, evCode_exit, evCode_seq, evCode_region, evCode_cond, evCode_block, evCode_ret, evOps_cons, evOps_nil, guardOf, simpleOp, opd, opds, opdOpt, opdParts, Env.get, Env.put, pureV, Option.bind_some, List.nil_append, List.cons_append, inMerge, pairsOk, List.all_nil, List.all_cons, St.after, Env.keep, if_true, if_false, ite_true, ite_false, binV, intBin, unV, shiftOp, resultOf, packed, reduceCtorEq, Option.isNone_none, Option.isSome_none, Bool.false_eq_true, Nat.reduceAdd, Nat.reduceEqDiff, Nat.reduceMul, Nat.zero_add, List.length_cons, List.length_nil, beq_self_eq_true, Bool.not_true, Bool.not_false, evOper_move, evOper_pick, evOper_alloc, evOper_box, evOper_load, evOper_store, evOper_bin, evOper_eqv, evOper_isNil, evOper_un, evOper_conv, evOper_convStr, evOper_s2b, evOper_b2s, evOper_field, evOper_index, evOper_indexStr, evOper_build, evOper_buildSlice, evOper_fieldAddr, evOper_indexAddr, evOper_indexSl, evOper_sliceArr, evOper_sliceSl, evOper_sliceStr, evOper_makeSlice, evOper_extract, evOper_mkIface, evOper_mkFunc, evOper_nilCheck, evOper_s2ap, evOper_append, evOper_copy, evOper_len, evOper_minmax, evOper_call, evOper_callVal, Ob.fresh, live0, live1, live2, Int.natCast_nonneg, and_self, true_and, and_true, Int.toNat_natCast, Nat.mul_one, addr_add, partL, cells_int, cells_int_size, okVar, splice_single, Nat.lt_irrefl, false_and, decide_true, decide_false, Nat.add_zero, Int.reduceEq, Int.reduceLT, Int.reduceLE, Int.reduceToNat, Nat.reduceLT, Nat.reduceSub, rf_int, rf_tuple_ints, toList2, Bool.and_true, Bool.true_and, Bool.and_self, List.getElem?_cons_zero, List.getElem?_cons_succ, nlt1, nlt2, nlt3, nlt4, Nat.le_refl, Int.le_refl, Nat.not_lt_zero, Nat.sub_zero, Nat.zero_mul, cells_agg, cells_agg_size, h1, h2, v0, v1, hxc, hyc, e6, e7]

theorem clamps_ev {a : List Nat} (la : a.length = 32) (xa : ∀ x ∈ a, x < 256) : ∃ l, evFun T 3 [.agg (u8s a).toArray] [] = some (.bool true, l, []) := by
  obtain ⟨x, hx⟩ : ∃ x, a[0]? = some x := ⟨_, List.getElem?_eq_getElem (by omega)⟩
  obtain ⟨y, hy⟩ : ∃ y, a[31]? = some y := ⟨_, List.getElem?_eq_getElem (by omega)⟩
  have hx' := xa x (List.mem_of_getElem? hx)
  have hy' := xa y (List.mem_of_getElem? hy)
  obtain ⟨b1, b2, b3, b4, -⟩ := byte_facts x hx'
  obtain ⟨-, -, -, -, b5, b6, b7, b8⟩ := byte_facts y hy'
  obtain ⟨c, hc⟩ : ∃ c, c = clampL a x y := ⟨_, rfl⟩
  have lc : c.length = 32 := by rw [hc, clampL, List.length_set, List.length_set, la]
  have c0 : c[0]? = some (x &&& 248) := by rw [hc, clampL, List.getElem?_set_ne (by decide), List.getElem?_set_self (by omega)]
  have c31 : c[31]? = some ((y &&& 127) ||| 64) := by rw [hc, clampL, List.getElem?_set_self (by rw [List.length_set]; omega)]
  have cm : ∀ i, 1 ≤ i → i < 31 → c[i]? = a[i]? := fun i h1 h2 => by rw [hc, clampL, List.getElem?_set_ne (by omega), List.getElem?_set_ne (by omega)]
  obtain ⟨l1, h1⟩ := clamp_ev la hx hy hx' hy'
  rw [← hc] at h1
  obtain ⟨l2, h2⟩ := clamp_ev lc c0 c31 b4 (by omega)
  have hcc : clampL c (x &&& 248) ((y &&& 127) ||| 64) = c := by
    rw [clampL, b3, b8]
    apply List.ext_getElem?
    intro i
    by_cases hi : i = 31
    · subst hi; rw [List.getElem?_set_self (by rw [List.length_set]; omega), c31]
    · rw [List.getElem?_set_ne (Ne.symm hi)]
      by_cases h0 : i = 0
      · subst h0; rw [List.getElem?_set_self (by omega), c0]
      · rw [List.getElem?_set_ne (Ne.symm h0)]
  rw [hcc] at h2
  generalize (x &&& 248) = p at *
  generalize ((y &&& 127) ||| 64) = q at *
  obtain ⟨s', hb, rfl⟩ := block_inv (T := T) (base := 0) (id := 0) (body := a3_l0)
    (fun i s => s = clI a c ((i + 1 : Nat) : Int) [])
    (Q := fun s => s = clI a c 31 [(50, .bool false)]) 30 (s := clI a c ((0 + 1 : Nat) : Int) []) rfl
    (fun i s hi hs => by
      subst hs
      obtain ⟨z, hz⟩ : ∃ z, a[i + 1]? = some z := ⟨_, List.getElem?_eq_getElem (by omega)⟩
      exact ⟨_, cl_body (by omega) hz (by rw [cm (i + 1) (by omega) (by omega)]; exact hz), rfl⟩)
    (fun s hs => by
      subst hs
      have h1 : ¬ (((30 + 1 : Nat) : Int) < (31 : Int)) := by omega
      refine ⟨_, ?_, rfl⟩
      simp only [clI, a3_l0, envOf, evCode_skip, evCode_exit, evCode_seq, evCode_region, evCode_cond, evCode_block, evCode_ret, evOps_cons, evOps_nil, guardOf, simpleOp, opd, opds, opdOpt, opdParts, Env.get, Env.put, pureV, Option.bind_some, List.nil_append, List.cons_append, inMerge, pairsOk, List.all_nil, List.all_cons, St.after, Env.keep, if_true, if_false, ite_true, ite_false, binV, intBin, unV, shiftOp, resultOf, packed, reduceCtorEq, Option.isNone_none, Option.isSome_none, Bool.false_eq_true, Nat.reduceAdd, Nat.reduceEqDiff, Nat.reduceMul, Nat.zero_add, List.length_cons, List.length_nil, beq_self_eq_true, Bool.not_true, Bool.not_false, evOper_move, evOper_pick, evOper_alloc, evOper_box, evOper_load, evOper_store, evOper_bin, evOper_eqv, evOper_isNil, evOper_un, evOper_conv, evOper_convStr, evOper_s2b, evOper_b2s, evOper_field, evOper_index, evOper_indexStr, evOper_build, evOper_buildSlice, evOper_fieldAddr, evOper_indexAddr, evOper_indexSl, evOper_sliceArr, evOper_sliceSl, evOper_sliceStr, evOper_makeSlice, evOper_extract, evOper_mkIface, evOper_mkFunc, evOper_nilCheck, evOper_s2ap, evOper_append, evOper_copy, evOper_len, evOper_minmax, evOper_call, evOper_callVal, Ob.fresh, live0, live1, live2, Int.natCast_nonneg, and_self, true_and, and_true, Int.toNat_natCast, Nat.mul_one, addr_add, partL, cells_int, cells_int_size, okVar, splice_single, Nat.lt_irrefl, false_and, decide_true, decide_false, Nat.add_zero, Int.reduceEq, Int.reduceLT, Int.reduceLE, Int.reduceToNat, Nat.reduceLT, Nat.reduceSub, rf_int, rf_tuple_ints, toList2, Bool.and_true, Bool.true_and, Bool.and_self, List.getElem?_cons_zero, List.getElem?_cons_succ, nlt1, nlt2, nlt3, nlt4, Nat.le_refl, Int.le_refl, Nat.not_lt_zero, Nat.sub_zero, Nat.zero_mul, cells_agg, cells_agg_size, h1]
      rfl)
  rw [show clI a c ((0 + 1 : Nat) : Int) [] = ⟨[(1, .pointer (some ⟨0, 0, none⟩)), (3, .pointer (some ⟨1, 0, none⟩)), (4, .int .i64 1)], [⟨u8s a, true, true, true, 1⟩, ⟨u8s c, true, true, true, 1⟩], []⟩ from rfl] at hb
  have hz : List.replicate 32 (Value.int .u8 0) = u8s (dig 256 32 0) := rfl
  have la' : (u8s a).length = 32 := by rw [u8s_len, la]
  have lc' : (u8s c).length = 32 := by rw [u8s_len, lc]
  have ta : ((u8s a).drop 0).take 32 = u8s a := by rw [List.drop_zero, List.take_of_length_le (by omega)]
  have tc : ((u8s c).drop 0).take 32 = u8s c := by rw [List.drop_zero, List.take_of_length_le (by omega)]
  have s3 := storeAt1 (H := []) (a := ⟨u8s a, true, true, true, 1⟩) (r := []) (cs := u8s (dig 256 32 0)) (e := true) (s := 1) (off := 0) (v := u8s c) (by rw [lc', u8s_len, dig_len]; decide)
  rw [splice_all (by rw [lc', u8s_len, dig_len])] at s3
  simp only [List.nil_append, List.length_nil, Nat.zero_add] at s3
  have i0 : ((0 : Int) < ((32 : Nat) : Int)) := by decide
  have i31 : ((31 : Int) < ((32 : Nat) : Int)) := by decide
  have a0c := u8s_get hx
  have a31c := u8s_get hy
  have c0c := u8s_get c0
  have c31c := u8s_get c31
  have d0 : (((p : Nat) : Int).tmod 8 != 0) = false := by
    have : ((p : Nat) : Int).tmod 8 = ((p % 8 : Nat) : Int) := rfl
    rw [this, b1]; rfl
  have d1 : ¬ (((q : Nat) : Int) < 64) := by omega
  have d2 : ¬ (((q : Nat) : Int) > 127) := by omega
  have d3 : (((p : Nat) : Int) != IntKind.u8.wrap ((x : Int) - (x : Int).tmod 8)) = false := by
    have : ((x : Nat) : Int).tmod 8 = ((x % 8 : Nat) : Int) := rfl
    rw [this, wrap_u8]
    have : ((x : Int) - ((x % 8 : Nat) : Int)) % 256 = (p : Nat) := by omega
    rw [this]; simp
  have d4 : (((q : Nat) : Int).tmod 64 != ((y : Nat) : Int).tmod 64) = false := by
    have e1 : ((q : Nat) : Int).tmod 64 = ((q % 64 : Nat) : Int) := rfl
    have e2 : ((y : Nat) : Int).tmod 64 = ((y % 64 : Nat) : Int) := rfl
    rw [e1, e2, b7]; simp
  have d5 : cellsEq (List.replicate 32 true) (u8s c) (u8s c) = some true := by rw [← lc]; exact cellsEq_same c
  have hreg : evCode T 0 a3_r ⟨[(1, .pointer (some ⟨0, 0, none⟩)), (3, .pointer (some ⟨1, 0, none⟩))], [⟨u8s a, true, true, true, 1⟩, ⟨u8s c, true, true, true, 1⟩], []⟩ = some (.normal, ⟨[(1, .pointer (some ⟨0, 0, none⟩)), (3, .pointer (some ⟨1, 0, none⟩)), (48, .bool false)], [⟨u8s a, true, true, true, 1⟩, ⟨u8s c, true, true, true, 1⟩], []⟩) := by
    simp only [a3_r, envOf, evCode_skip, evCode_exit, evCode_seq, evCode_region, evCode_cond, evCode_block, evCode_ret, evOps_cons, evOps_nil, guardOf, simpleOp, opd, opds, opdOpt, opdParts, Env.get, Env.put, pureV, Option.bind_some, List.nil_append, List.cons_append, inMerge, pairsOk, List.all_nil, List.all_cons, St.after, Env.keep, if_true, if_false, ite_true, ite_false, binV, intBin, unV, shiftOp, resultOf, packed, reduceCtorEq, Option.isNone_none, Option.isSome_none, Bool.false_eq_true, Nat.reduceAdd, Nat.reduceEqDiff, Nat.reduceMul, Nat.zero_add, List.length_cons, List.length_nil, beq_self_eq_true, Bool.not_true, Bool.not_false, evOper_move, evOper_pick, evOper_alloc, evOper_box, evOper_load, evOper_store, evOper_bin, evOper_eqv, evOper_isNil, evOper_un, evOper_conv, evOper_convStr, evOper_s2b, evOper_b2s, evOper_field, evOper_index, evOper_indexStr, evOper_build, evOper_buildSlice, evOper_fieldAddr, evOper_indexAddr, evOper_indexSl, evOper_sliceArr, evOper_sliceSl, evOper_sliceStr, evOper_makeSlice, evOper_extract, evOper_mkIface, evOper_mkFunc, evOper_nilCheck, evOper_s2ap, evOper_append, evOper_copy, evOper_len, evOper_minmax, evOper_call, evOper_callVal, Ob.fresh, live0, live1, live2, Int.natCast_nonneg, and_self, true_and, and_true, Int.toNat_natCast, Nat.mul_one, addr_add, partL, cells_int, cells_int_size, okVar, splice_single, Nat.lt_irrefl, false_and, decide_true, decide_false, Nat.add_zero, Int.reduceEq, Int.reduceLT, Int.reduceLE, Int.reduceToNat, Nat.reduceLT, Nat.reduceSub, rf_int, rf_tuple_ints, toList2, Bool.and_true, Bool.true_and, Bool.and_self, List.getElem?_cons_zero, List.getElem?_cons_succ, nlt1, nlt2, nlt3, nlt4, Nat.le_refl, Int.le_refl, Nat.not_lt_zero, Nat.sub_zero, Nat.zero_mul, cells_agg, cells_agg_size, la', lc', ta, tc, v0, v1, v00, rf_key, h1, h2, s3, i0, i31, a0c, a31c, c0c, c31c, d0, d1, d2, d3, d4, d5, toList_toArray']
  refine ⟨[⟨u8s a, true, true, true, 1⟩, ⟨u8s c, true, true, true, 1⟩], ?_⟩
  rw [evFun_fn (fn := a3p) rfl]
  simp only [a3p, envOf, evCode_skip, evCode_exit, evCode_seq, evCode_region, evCode_cond, evCode_block, evCode_ret, evOps_cons, evOps_nil, guardOf, simpleOp, opd, opds, opdOpt, opdParts, Env.get, Env.put, pureV, Option.bind_some, List.nil_append, List.cons_append, inMerge, pairsOk, List.all_nil, List.all_cons, St.after, Env.keep, if_true, if_false, ite_true, ite_false, binV, intBin, unV, shiftOp, resultOf, packed, reduceCtorEq, Option.isNone_none, Option.isSome_none, Bool.false_eq_true, Nat.reduceAdd, Nat.reduceEqDiff, Nat.reduceMul, Nat.zero_add, List.length_cons, List.length_nil, beq_self_eq_true, Bool.not_true, Bool.not_false, evOper_move, evOper_pick, evOper_alloc, evOper_box, evOper_load, evOper_store, evOper_bin, evOper_eqv, evOper_isNil, evOper_un, evOper_conv, evOper_convStr, evOper_s2b, evOper_b2s, evOper_field, evOper_index, evOper_indexStr, evOper_build, evOper_buildSlice, evOper_fieldAddr, evOper_indexAddr, evOper_indexSl, evOper_sliceArr, evOper_sliceSl, evOper_sliceStr, evOper_makeSlice, evOper_extract, evOper_mkIface, evOper_mkFunc, evOper_nilCheck, evOper_s2ap, evOper_append, evOper_copy, evOper_len, evOper_minmax, evOper_call, evOper_callVal, Ob.fresh, live0, live1, live2, Int.natCast_nonneg, and_self, true_and, and_true, Int.toNat_natCast, Nat.mul_one, addr_add, partL, cells_int, cells_int_size, okVar, splice_single, Nat.lt_irrefl, false_and, decide_true, decide_false, Nat.add_zero, Int.reduceEq, Int.reduceLT, Int.reduceLE, Int.reduceToNat, Nat.reduceLT, Nat.reduceSub, rf_int, rf_tuple_ints, toList2, Bool.and_true, Bool.true_and, Bool.and_self, List.getElem?_cons_zero, List.getElem?_cons_succ, nlt1, nlt2, nlt3, nlt4, Nat.le_refl, Int.le_refl, Nat.not_lt_zero, Nat.sub_zero, Nat.zero_mul, cells_agg, cells_agg_size, counts_ev, rf_bool, List.nil_append, hz, la', lc', ta, tc, v0, v1, v00, rf_key, h1, s3, toList_toArray', hreg, hb, clI]
end Go.Ev.Ytaceeoghjgggjaa

/-
  counts answers true; scalar.Clamp.
-/
import Derived.Test.YtaceeoghjgggjaaSW8
set_option linter.unusedSimpArgs false
set_option linter.unusedVariables false
namespace Go.Ev.Ytaceeoghjgggjaa
open Go Go.Ev
attribute [local congr] bind_congr1
set_option maxRecDepth 100000

theorem toList_toArray'' (l : List Value) : l.toArray.toList = l := rfl
theorem rf_key (l : List Nat) : rf (.agg (u8s l).toArray) = true := by
  show (u8s l).toArray.toList.all scalarRf = true
  rw [toList_toArray'']
  simp [u8s, scalarRf]
def k1 (n : Nat) : List Nat := n :: List.replicate 31 0
theorem cellsEq_same : ∀ (l : List Nat), cellsEq (List.replicate l.length true) (u8s l) (u8s l) = some true
  | [] => rfl
  | x :: r => by
    have := cellsEq_same r
    simp only [u8s, List.map_cons, List.length_cons, List.replicate_succ, cellsEq, cellEq, if_true, beq_self_eq_true, Option.bind_some] at this ⊢
    rw [this]; rfl
theorem toList_toArray' (l : List Value) : l.toArray.toList = l := rfl

theorem counts_ev : evFun T 15 [] [] = some (.bool true, [], []) := by
  have f2 : fillL (List.replicate 32 (Value.int .u8 0)) [(0, 1, .int .u8 2)] = some (u8s (k1 2)) := rfl
  have f3 : fillL (List.replicate 32 (Value.int .u8 0)) [(0, 1, .int .u8 3)] = some (u8s (k1 3)) := rfl
  have f1 : fillL (List.replicate 32 (Value.int .u8 0)) [(0, 1, .int .u8 1)] = some (u8s (k1 1)) := rfl
  have f7 : fillL (List.replicate 32 (Value.int .u8 0)) [(0, 1, .int .u8 7)] = some (u8s (k1 7)) := rfl
  obtain ⟨l, hm⟩ := mulAdd_ev (a := k1 2) (b := k1 3) (c := k1 1) rfl rfl rfl (by decide) (by decide) (by decide)
  have hd : dig 256 32 ((num 256 (k1 2) * num 256 (k1 3) + num 256 (k1 1)) % ell) = k1 7 := by decide +kernel
  rw [hd] at hm
  simp only [keyV] at hm
  have hc : cellsEq (List.replicate 32 true) (u8s (k1 7)) (u8s (k1 7)) = some true := cellsEq_same (k1 7)
  rw [evFun_fn (fn := a15) rfl]
  simp only [a15, envOf, evCode_skip, evCode_exit, evCode_seq, evCode_region, evCode_cond, evCode_block, evCode_ret, evOps_cons, evOps_nil, guardOf, simpleOp, opd, opds, opdOpt, opdParts, Env.get, Env.put, pureV, Option.bind_some, List.nil_append, List.cons_append, inMerge, pairsOk, List.all_nil, List.all_cons, St.after, Env.keep, if_true, if_false, ite_true, ite_false, binV, intBin, unV, shiftOp, resultOf, packed, reduceCtorEq, Option.isNone_none, Option.isSome_none, Bool.false_eq_true, Nat.reduceAdd, Nat.reduceEqDiff, Nat.reduceMul, Nat.zero_add, List.length_cons, List.length_nil, beq_self_eq_true, Bool.not_true, Bool.not_false, evOper_move, evOper_pick, evOper_alloc, evOper_box, evOper_load, evOper_store, evOper_bin, evOper_eqv, evOper_isNil, evOper_un, evOper_conv, evOper_convStr, evOper_s2b, evOper_b2s, evOper_field, evOper_index, evOper_indexStr, evOper_build, evOper_buildSlice, evOper_fieldAddr, evOper_indexAddr, evOper_indexSl, evOper_sliceArr, evOper_sliceSl, evOper_sliceStr, evOper_makeSlice, evOper_extract, evOper_mkIface, evOper_mkFunc, evOper_nilCheck, evOper_s2ap, evOper_append, evOper_copy, evOper_len, evOper_minmax, evOper_call, evOper_callVal, Ob.fresh, live0, live1, live2, Int.natCast_nonneg, and_self, true_and, and_true, Int.toNat_natCast, Nat.mul_one, addr_add, partL, cells_int, cells_int_size, okVar, splice_single, Nat.lt_irrefl, false_and, decide_true, decide_false, Nat.add_zero, Int.reduceEq, Int.reduceLT, Int.reduceLE, Int.reduceToNat, Nat.reduceLT, Nat.reduceSub, rf_int, rf_tuple_ints, toList2, Bool.and_true, Bool.true_and, Bool.and_self, List.getElem?_cons_zero, List.getElem?_cons_succ, nlt1, nlt2, nlt3, nlt4, Nat.le_refl, Int.le_refl, Nat.not_lt_zero, Nat.sub_zero, Nat.zero_mul, cells_agg, cells_agg_size, f1, f2, f3, f7, rf_key, hm, toList_toArray', hc]

def clampL (a : List Nat) (x y : Nat) : List Nat := (a.set 0 (x &&& 248)).set 31 ((y &&& 127) ||| 64)
theorem and_lt8 {a b : Nat} (h : a < 256) : a &&& b < 256 := Nat.lt_of_le_of_lt Nat.and_le_left h
theorem clamp_ev {a : List Nat} {x y : Nat} (la : a.length = 32) (hx : a[0]? = some x) (hy : a[31]? = some y) (hx' : x < 256) (hy' : y < 256) :
    ∃ l, evFun T 16 [.agg (u8s a).toArray] [] = some (.agg (u8s (clampL a x y)).toArray, l, []) := by
  have hz : List.replicate 32 (Value.int .u8 0) = u8s (dig 256 32 0) := rfl
  have hxc := u8s_get hx
  have hyc := u8s_get (l := a.set 0 (x &&& 248)) (i := 31) (x := y) (by rw [List.getElem?_set_ne (by decide)]; exact hy)
  have e1 : bitsOp .and .u8 (x : Int) 248 = ((x &&& 248 : Nat) : Int) := bits_and (k := .u8) (a := x) (b := 248) rfl hx' (by decide)
  have e2 : bitsOp .and .u8 (y : Int) 127 = ((y &&& 127 : Nat) : Int) := bits_and (k := .u8) (a := y) (b := 127) rfl hy' (by decide)
  have e3 : bitsOp .or .u8 ((y &&& 127 : Nat) : Int) 64 = (((y &&& 127) ||| 64 : Nat) : Int) := bits_or (k := .u8) (a := y &&& 127) (b := 64) rfl (and_lt8 hy') (by decide)
  have l1 : (u8s a).length = 32 := by rw [u8s_len, la]
  have l2 : (u8s (a.set 0 (x &&& 248))).length = 32 := by rw [u8s_len, List.length_set, la]
  have l3 : (u8s (clampL a x y)).length = 32 := by rw [u8s_len, clampL, List.length_set, List.length_set, la]
  have s1 := storeAt0 (H := []) (r := [⟨u8s (dig 256 32 0), true, true, true, 1⟩]) (cs := u8s a) (e := true) (s := 1) (off := 0) (v := [.int .u8 ((x &&& 248 : Nat) : Int)]) (by rw [l1]; simp)
  rw [splice_single, u8s_set] at s1
  have s2 := storeAt0 (H := []) (r := [⟨u8s (dig 256 32 0), true, true, true, 1⟩]) (cs := u8s (a.set 0 (x &&& 248))) (e := true) (s := 1) (off := 31) (v := [.int .u8 (((y &&& 127) ||| 64 : Nat) : Int)]) (by rw [l2]; simp)
  rw [splice_single, u8s_set] at s2
  have s3 := storeAt1 (H := []) (a := ⟨u8s (clampL a x y), true, true, true, 1⟩) (r := []) (cs := u8s (dig 256 32 0)) (e := true) (s := 1) (off := 0) (v := u8s (clampL a x y)) (by rw [l3, u8s_len, dig_len]; decide)
  rw [splice_all (by rw [l3, u8s_len, dig_len])] at s3
  have t3 : ((u8s (clampL a x y)).drop 0).take 32 = u8s (clampL a x y) := by rw [List.drop_zero, List.take_of_length_le (by omega)]
  have v0 : ∀ (p q : List Value), liveAt [⟨p, true, true, true, 1⟩, ⟨q, true, true, true, 1⟩] 0 = some ⟨p, true, true, true, 1⟩ := fun _ _ => rfl
  have v1 : ∀ (p q : List Value), liveAt [⟨p, true, true, true, 1⟩, ⟨q, true, true, true, 1⟩] 1 = some ⟨q, true, true, true, 1⟩ := fun _ _ => rfl
  have i0 : ((0 : Int) < ((32 : Nat) : Int)) := by decide
  have i31 : ((31 : Int) < ((32 : Nat) : Int)) := by decide
  simp only [List.nil_append, List.length_nil] at s1 s2 s3
  rw [show (a.set 0 (x &&& 248)).set 31 ((y &&& 127) ||| 64) = clampL a x y from rfl] at s2
  simp only [Nat.zero_add] at s3
  refine ⟨[⟨u8s (clampL a x y), true, true, true, 1⟩, ⟨u8s (clampL a x y), true, true, true, 1⟩], ?_⟩
  rw [evFun_fn (fn := a16) rfl]
  simp only [a16, envOf, evCode_skip, evCode_exit, evCode_seq, evCode_region, evCode_cond, evCode_block, evCode_ret, evOps_cons, evOps_nil, guardOf, simpleOp, opd, opds, opdOpt, opdParts, Env.get, Env.put, pureV, Option.bind_some, List.nil_append, List.cons_append, inMerge, pairsOk, List.all_nil, List.all_cons, St.after, Env.keep, if_true, if_false, ite_true, ite_false, binV, intBin, unV, shiftOp, resultOf, packed, reduceCtorEq, Option.isNone_none, Option.isSome_none, Bool.false_eq_true, Nat.reduceAdd, Nat.reduceEqDiff, Nat.reduceMul, Nat.zero_add, List.length_cons, List.length_nil, beq_self_eq_true, Bool.not_true, Bool.not_false, evOper_move, evOper_pick, evOper_alloc, evOper_box, evOper_load, evOper_store, evOper_bin, evOper_eqv, evOper_isNil, evOper_un, evOper_conv, evOper_convStr, evOper_s2b, evOper_b2s, evOper_field, evOper_index, evOper_indexStr, evOper_build, evOper_buildSlice, evOper_fieldAddr, evOper_indexAddr, evOper_indexSl, evOper_sliceArr, evOper_sliceSl, evOper_sliceStr, evOper_makeSlice, evOper_extract, evOper_mkIface, evOper_mkFunc, evOper_nilCheck, evOper_s2ap, evOper_append, evOper_copy, evOper_len, evOper_minmax, evOper_call, evOper_callVal, Ob.fresh, live0, live1, live2, Int.natCast_nonneg, and_self, true_and, and_true, Int.toNat_natCast, Nat.mul_one, addr_add, partL, cells_int, cells_int_size, okVar, splice_single, Nat.lt_irrefl, false_and, decide_true, decide_false, Nat.add_zero, Int.reduceEq, Int.reduceLT, Int.reduceLE, Int.reduceToNat, Nat.reduceLT, Nat.reduceSub, rf_int, rf_tuple_ints, toList2, Bool.and_true, Bool.true_and, Bool.and_self, List.getElem?_cons_zero, List.getElem?_cons_succ, nlt1, nlt2, nlt3, nlt4, Nat.le_refl, Int.le_refl, Nat.not_lt_zero, Nat.sub_zero, Nat.zero_mul, cells_agg, cells_agg_size, hz, hxc, hyc, e1, e2, e3, i0, i31, v0, v1, s1, s2, l3, t3, s3]
end Go.Ev.Ytaceeoghjgggjaa

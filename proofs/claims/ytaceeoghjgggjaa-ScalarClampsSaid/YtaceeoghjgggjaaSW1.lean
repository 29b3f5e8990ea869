/-
  scalar: what the small functions answer.
-/
import Derived.Test.YtaceeoghjgggjaaEvLoop
import Derived.Test.YtaceeoghjgggjaaCodeS
set_option linter.unusedSimpArgs false
set_option linter.unusedVariables false
namespace Go.Ev.Ytaceeoghjgggjaa
open Go Go.Ev
def T : Tab := ⟨fnS, fun _ _ => none⟩
attribute [local congr] bind_congr1
set_option maxRecDepth 100000

def subB (x y c : Nat) : Nat := if x < y + c then 1 else 0
def subD (x y c : Nat) : Nat := if x < y + c then x + 4294967296 - (y + c) else x - (y + c)
theorem sub32_ev {x y c : Nat} (hx : x < 4294967296) (hy : y < 4294967296) (hc : c ≤ 1) :
    evFun T 75 [.int .u32 x, .int .u32 y, .int .u32 c] [] = some (.tuple #[.int .u32 (subD x y c : Nat), .int .u32 (subB x y c : Nat)], [], []) := by
  have e1 : IntKind.u32.wrap (IntKind.u32.wrap ((x : Int) - y) - c) = ((x : Int) - y - c) % 4294967296 := by rw [wrap_u32, wrap_u32]; omega
  have e2 := borrow32 hx hy hc
  have e3 : (31 : Int).toNat = 31 := rfl
  have e4 : min 31 IntKind.u32.bits = 31 := rfl
  have e5 : ((x : Int) - y - c) % 4294967296 = (subD x y c : Nat) := by unfold subD; split <;> omega
  have e6 : (if x < y + c then 1 else 0 : Int) = (subB x y c : Nat) := by unfold subB; split <;> rfl
  rw [evFun_fn (fn := a75) rfl]
  simp only [a75, envOf, evCode_skip, evCode_exit, evCode_seq, evCode_region, evCode_cond, evCode_block, evCode_ret, evOps_cons, evOps_nil, guardOf, simpleOp, opd, opds, opdOpt, opdParts, Env.get, Env.put, pureV, Option.bind_some, List.nil_append, List.cons_append, inMerge, pairsOk, List.all_nil, List.all_cons, St.after, Env.keep, if_true, if_false, ite_true, ite_false, binV, intBin, unV, shiftOp, resultOf, packed, reduceCtorEq, Option.isNone_none, Option.isSome_none, Bool.false_eq_true, Nat.reduceAdd, Nat.reduceEqDiff, Nat.reduceMul, Nat.zero_add, List.length_cons, List.length_nil, beq_self_eq_true, Bool.not_true, Bool.not_false, evOper_move, evOper_pick, evOper_alloc, evOper_box, evOper_load, evOper_store, evOper_bin, evOper_eqv, evOper_isNil, evOper_un, evOper_conv, evOper_convStr, evOper_s2b, evOper_b2s, evOper_field, evOper_index, evOper_indexStr, evOper_build, evOper_buildSlice, evOper_fieldAddr, evOper_indexAddr, evOper_indexSl, evOper_sliceArr, evOper_sliceSl, evOper_sliceStr, evOper_makeSlice, evOper_extract, evOper_mkIface, evOper_mkFunc, evOper_nilCheck, evOper_s2ap, evOper_append, evOper_copy, evOper_len, evOper_minmax, evOper_call, evOper_callVal, Ob.fresh, live0, live1, live2, Int.natCast_nonneg, and_self, true_and, and_true, Int.toNat_natCast, Nat.mul_one, addr_add, partL, cells_int, cells_int_size, okVar, splice_single, Nat.lt_irrefl, false_and, decide_true, decide_false, Nat.add_zero, Int.reduceEq, Int.reduceLT, Int.reduceLE, Int.reduceToNat, Nat.reduceLT, Nat.reduceSub, rf_int, rf_tuple_ints, toList2, Bool.and_true, Bool.true_and, Bool.and_self, List.getElem?_cons_zero, List.getElem?_cons_succ, nlt1, nlt2, nlt3, nlt4, Nat.le_refl, Int.le_refl, Nat.not_lt_zero, Nat.sub_zero, Nat.zero_mul, cells_agg, cells_agg_size, show (if IntKind.u32.signed = true then (-1:Int) else IntKind.u32.max) = IntKind.u32.max from rfl, e1, e3, e4, show ¬ ((31 : Int) < 0) by decide, List.length_nil]
  rw [e2, e6, e5]

def addC (x y c : Nat) : Nat := (x + y + c) / 4294967296
def addS (x y c : Nat) : Nat := (x + y + c) % 4294967296
theorem add32_ev {x y c : Nat} (hx : x < 4294967296) (hy : y < 4294967296) (hc : c ≤ 1) :
    evFun T 76 [.int .u32 x, .int .u32 y, .int .u32 c] [] = some (.tuple #[.int .u32 (addS x y c : Nat), .int .u32 (addC x y c : Nat)], [], []) := by
  have e1 : IntKind.u64.wrap (IntKind.u64.wrap (IntKind.u64.wrap (x : Int) + IntKind.u64.wrap (y : Int)) + IntKind.u64.wrap (c : Int)) = ((x + y + c : Nat) : Int) := by simp only [wrap_u64]; omega
  have e3 : (32 : Int).toNat = 32 := rfl
  have e4 : min 32 IntKind.u64.bits = 32 := rfl
  have e5 : IntKind.u32.wrap ((x + y + c : Nat) : Int) = (addS x y c : Nat) := by rw [wrap_u32]; unfold addS; omega
  have e6 : IntKind.u32.wrap (Int.fdiv ((x + y + c : Nat) : Int) (2 ^ 32)) = (addC x y c : Nat) := by
    rw [wrap_u32, Int.fdiv_eq_ediv_of_nonneg _ (by decide)]; unfold addC; omega
  rw [evFun_fn (fn := a76) rfl]
  simp only [a76, envOf, evCode_skip, evCode_exit, evCode_seq, evCode_region, evCode_cond, evCode_block, evCode_ret, evOps_cons, evOps_nil, guardOf, simpleOp, opd, opds, opdOpt, opdParts, Env.get, Env.put, pureV, Option.bind_some, List.nil_append, List.cons_append, inMerge, pairsOk, List.all_nil, List.all_cons, St.after, Env.keep, if_true, if_false, ite_true, ite_false, binV, intBin, unV, shiftOp, resultOf, packed, reduceCtorEq, Option.isNone_none, Option.isSome_none, Bool.false_eq_true, Nat.reduceAdd, Nat.reduceEqDiff, Nat.reduceMul, Nat.zero_add, List.length_cons, List.length_nil, beq_self_eq_true, Bool.not_true, Bool.not_false, evOper_move, evOper_pick, evOper_alloc, evOper_box, evOper_load, evOper_store, evOper_bin, evOper_eqv, evOper_isNil, evOper_un, evOper_conv, evOper_convStr, evOper_s2b, evOper_b2s, evOper_field, evOper_index, evOper_indexStr, evOper_build, evOper_buildSlice, evOper_fieldAddr, evOper_indexAddr, evOper_indexSl, evOper_sliceArr, evOper_sliceSl, evOper_sliceStr, evOper_makeSlice, evOper_extract, evOper_mkIface, evOper_mkFunc, evOper_nilCheck, evOper_s2ap, evOper_append, evOper_copy, evOper_len, evOper_minmax, evOper_call, evOper_callVal, Ob.fresh, live0, live1, live2, Int.natCast_nonneg, and_self, true_and, and_true, Int.toNat_natCast, Nat.mul_one, addr_add, partL, cells_int, cells_int_size, okVar, splice_single, Nat.lt_irrefl, false_and, decide_true, decide_false, Nat.add_zero, Int.reduceEq, Int.reduceLT, Int.reduceLE, Int.reduceToNat, Nat.reduceLT, Nat.reduceSub, rf_int, rf_tuple_ints, toList2, Bool.and_true, Bool.true_and, Bool.and_self, List.getElem?_cons_zero, List.getElem?_cons_succ, nlt1, nlt2, nlt3, nlt4, Nat.le_refl, Int.le_refl, Nat.not_lt_zero, Nat.sub_zero, Nat.zero_mul, cells_agg, cells_agg_size, e1, e3, e4, e5, e6, show ¬ ((32 : Int) < 0) by decide, List.length_nil]

def orderW : List Nat := [1559614445, 1477600026, 2734136534, 350157278, 0, 0, 0, 268435456]
theorem order_ev (H : List Ob) : evFun T 47 [] H = some (.slice (some ⟨H.length, 0, none⟩) 8 8, H ++ [Ob.fresh (u32s orderW)], []) := by
  rw [evFun_fn (fn := a47) rfl]
  simp only [a47, envOf, evCode_skip, evCode_exit, evCode_seq, evCode_region, evCode_cond, evCode_block, evCode_ret, evOps_cons, evOps_nil, guardOf, simpleOp, opd, opds, opdOpt, opdParts, Env.get, Env.put, pureV, Option.bind_some, List.nil_append, List.cons_append, inMerge, pairsOk, List.all_nil, List.all_cons, St.after, Env.keep, if_true, if_false, ite_true, ite_false, binV, intBin, unV, shiftOp, resultOf, packed, reduceCtorEq, Option.isNone_none, Option.isSome_none, Bool.false_eq_true, Nat.reduceAdd, Nat.reduceEqDiff, Nat.reduceMul, Nat.zero_add, List.length_cons, List.length_nil, beq_self_eq_true, Bool.not_true, Bool.not_false, evOper_move, evOper_pick, evOper_alloc, evOper_box, evOper_load, evOper_store, evOper_bin, evOper_eqv, evOper_isNil, evOper_un, evOper_conv, evOper_convStr, evOper_s2b, evOper_b2s, evOper_field, evOper_index, evOper_indexStr, evOper_build, evOper_buildSlice, evOper_fieldAddr, evOper_indexAddr, evOper_indexSl, evOper_sliceArr, evOper_sliceSl, evOper_sliceStr, evOper_makeSlice, evOper_extract, evOper_mkIface, evOper_mkFunc, evOper_nilCheck, evOper_s2ap, evOper_append, evOper_copy, evOper_len, evOper_minmax, evOper_call, evOper_callVal, Ob.fresh, live0, live1, live2, Int.natCast_nonneg, and_self, true_and, and_true, Int.toNat_natCast, Nat.mul_one, addr_add, partL, cells_int, cells_int_size, okVar, splice_single, Nat.lt_irrefl, false_and, decide_true, decide_false, Nat.add_zero, Int.reduceEq, Int.reduceLT, Int.reduceLE, Int.reduceToNat, Nat.reduceLT, Nat.reduceSub, rf_int, rf_tuple_ints, toList2, Bool.and_true, Bool.true_and, Bool.and_self, List.getElem?_cons_zero, List.getElem?_cons_succ, nlt1, nlt2, nlt3, nlt4, Nat.le_refl, Int.le_refl, Nat.not_lt_zero, Nat.sub_zero, Nat.zero_mul, cells_agg, cells_agg_size]
  rfl
end Go.Ev.Ytaceeoghjgggjaa

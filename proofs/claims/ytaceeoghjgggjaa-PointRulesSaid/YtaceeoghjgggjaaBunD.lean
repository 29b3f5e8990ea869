/-
  scalar: what the small functions answer.
-/
import Derived.Test.YtaceeoghjgggjaaBunC
import Derived.Test.YtaceeoghjgggjaaCodeS
set_option linter.unusedSimpArgs false
set_option linter.unusedVariables false
namespace Go.Ev.Ytaceeoghjgggjaa
open Go Go.Ev
def extS (f : Nat) (args : List Value) : Option Value :=
  match f, args with
  | 92, [.int .u64 x, .int .u64 y, .int .u64 c] => if c.toNat ≤ 1 then some (.tuple #[.int .u64 ((x.toNat + y.toNat + c.toNat) % 18446744073709551616 : Nat), .int .u64 ((x.toNat + y.toNat + c.toNat) / 18446744073709551616 : Nat)]) else none
  | _, _ => none
def T : Tab := ⟨fnS, extS⟩
attribute [local congr] bind_congr1
set_option maxRecDepth 100000

def subB (x y c : Nat) : Nat := if x < y + c then 1 else 0
def subD (x y c : Nat) : Nat := if x < y + c then x + 4294967296 - (y + c) else x - (y + c)
theorem sub32_ev {x y c : Nat} (hx : x < 4294967296) (hy : y < 4294967296) (hc : c ≤ 1) :
    evFun T 75 [.int .u32 x, .int .u32 y, .int .u32 c] [] = some (.tuple #[.int .u32 (subD x y c : Nat), .int .u32 (subB x y c : Nat)], [], []) := by
  have e1 : IntKind.u32.wrap (IntKind.u32.wrap ((x : Int) - y) - c) = ((x : Int) - y - c) % 4294967296 := by rw [wrap_u32, wrap_u32]; omega
  have e2 := borrow32 hx hy hc
  have e3 : (31 : Int).toNat = 31 := rfl
  have e4 : min 31 IntKind.u32.bits = 31 := rfl
  have e5 : ((x : Int) - y - c) % 4294967296 = (subD x y c : Nat) := by unfold subD; split <;> omega
  have e6 : (if x < y + c then 1 else 0 : Int) = (subB x y c : Nat) := by unfold subB; split <;> rfl
  rw [evFun_fn (fn := a75) rfl]
  simp only [a75, envOf, evCode_skip, evCode_exit, evCode_seq, evCode_region, evCode_cond, evCode_block, evCode_ret, evOps_cons, evOps_nil, guardOf, simpleOp, opd, opds, opdOpt, opdParts, Env.get, Env.put, pureV, Option.bind_some, List.nil_append, List.cons_append, inMerge, pairsOk, List.all_nil, List.all_cons, St.after, Env.keep, if_true, if_false, ite_true, ite_false, binV, intBin, unV, shiftOp, resultOf, packed, reduceCtorEq, Option.isNone_none, Option.isSome_none, Bool.false_eq_true, Nat.reduceAdd, Nat.reduceEqDiff, Nat.reduceMul, Nat.zero_add, List.length_cons, List.length_nil, beq_self_eq_true, Bool.not_true, Bool.not_false, evOper_move, evOper_pick, evOper_alloc, evOper_box, evOper_load, evOper_store, evOper_bin, evOper_eqv, evOper_isNil, evOper_un, evOper_conv, evOper_convStr, evOper_s2b, evOper_b2s, evOper_field, evOper_index, evOper_indexStr, evOper_build, evOper_buildSlice, evOper_fieldAddr, evOper_indexAddr, evOper_indexSl, evOper_sliceArr, evOper_sliceSl, evOper_sliceStr, evOper_makeSlice, evOper_extract, evOper_mkIface, evOper_mkFunc, evOper_nilCheck, evOper_s2ap, evOper_append, evOper_copy, evOper_len, evOper_minmax, evOper_call, evOper_callVal, Ob.fresh, live0, live1, live2, Int.natCast_nonneg, and_self, true_and, and_true, Int.toNat_natCast, Nat.mul_one, addr_add, partL, cells_int, cells_int_size, okVar, splice_single, Nat.lt_irrefl, false_and, decide_true, decide_false, Nat.add_zero, Int.reduceEq, Int.reduceLT, Int.reduceLE, Int.reduceToNat, Nat.reduceLT, Nat.reduceSub, rf_int, rf_tuple_ints, toList2, Bool.and_true, Bool.true_and, Bool.and_self, List.getElem?_cons_zero, List.getElem?_cons_succ, nlt1, nlt2, nlt3, nlt4, Nat.le_refl, Int.le_refl, Nat.not_lt_zero, Nat.sub_zero, Nat.zero_mul, cells_agg, cells_agg_size, show (if IntKind.u32.signed = true then (-1:Int) else IntKind.u32.max) = IntKind.u32.max from rfl, e1, e3, e4, show ¬ ((31 : Int) < 0) by decide, List.length_nil]
  rw [e2, e6, e5]

def addC (x y c : Nat) : Nat := (x + y + c) / 4294967296
def addS (x y c : Nat) : Nat := (x + y + c) % 4294967296
theorem add32_ev {x y c : Nat} (hx : x < 4294967296) (hy : y < 4294967296) (hc : c ≤ 1) :
    evFun T 76 [.int .u32 x, .int .u32 y, .int .u32 c] [] = some (.tuple #[.int .u32 (addS x y c : Nat), .int .u32 (addC x y c : Nat)], [], []) := by
  have e1 : IntKind.u64.wrap (IntKind.u64.wrap (IntKind.u64.wrap (x : Int) + IntKind.u64.wrap (y : Int)) + IntKind.u64.wrap (c : Int)) = ((x + y + c : Nat) : Int) := by simp only [wrap_u64]; omega
  have e3 : (32 : Int).toNat = 32 := rfl
  have e4 : min 32 IntKind.u64.bits = 32 := rfl
  have e5 : IntKind.u32.wrap ((x + y + c : Nat) : Int) = (addS x y c : Nat) := by rw [wrap_u32]; unfold addS; omega
  have e6 : IntKind.u32.wrap (Int.fdiv ((x + y + c : Nat) : Int) (2 ^ 32)) = (addC x y c : Nat) := by
    rw [wrap_u32, Int.fdiv_eq_ediv_of_nonneg _ (by decide)]; unfold addC; omega
  rw [evFun_fn (fn := a76) rfl]
  simp only [a76, envOf, evCode_skip, evCode_exit, evCode_seq, evCode_region, evCode_cond, evCode_block, evCode_ret, evOps_cons, evOps_nil, guardOf, simpleOp, opd, opds, opdOpt, opdParts, Env.get, Env.put, pureV, Option.bind_some, List.nil_append, List.cons_append, inMerge, pairsOk, List.all_nil, List.all_cons, St.after, Env.keep, if_true, if_false, ite_true, ite_false, binV, intBin, unV, shiftOp, resultOf, packed, reduceCtorEq, Option.isNone_none, Option.isSome_none, Bool.false_eq_true, Nat.reduceAdd, Nat.reduceEqDiff, Nat.reduceMul, Nat.zero_add, List.length_cons, List.length_nil, beq_self_eq_true, Bool.not_true, Bool.not_false, evOper_move, evOper_pick, evOper_alloc, evOper_box, evOper_load, evOper_store, evOper_bin, evOper_eqv, evOper_isNil, evOper_un, evOper_conv, evOper_convStr, evOper_s2b, evOper_b2s, evOper_field, evOper_index, evOper_indexStr, evOper_build, evOper_buildSlice, evOper_fieldAddr, evOper_indexAddr, evOper_indexSl, evOper_sliceArr, evOper_sliceSl, evOper_sliceStr, evOper_makeSlice, evOper_extract, evOper_mkIface, evOper_mkFunc, evOper_nilCheck, evOper_s2ap, evOper_append, evOper_copy, evOper_len, evOper_minmax, evOper_call, evOper_callVal, Ob.fresh, live0, live1, live2, Int.natCast_nonneg, and_self, true_and, and_true, Int.toNat_natCast, Nat.mul_one, addr_add, partL, cells_int, cells_int_size, okVar, splice_single, Nat.lt_irrefl, false_and, decide_true, decide_false, Nat.add_zero, Int.reduceEq, Int.reduceLT, Int.reduceLE, Int.reduceToNat, Nat.reduceLT, Nat.reduceSub, rf_int, rf_tuple_ints, toList2, Bool.and_true, Bool.true_and, Bool.and_self, List.getElem?_cons_zero, List.getElem?_cons_succ, nlt1, nlt2, nlt3, nlt4, Nat.le_refl, Int.le_refl, Nat.not_lt_zero, Nat.sub_zero, Nat.zero_mul, cells_agg, cells_agg_size, e1, e3, e4, e5, e6, show ¬ ((32 : Int) < 0) by decide, List.length_nil]

def orderW : List Nat := [1559614445, 1477600026, 2734136534, 350157278, 0, 0, 0, 268435456]
theorem order_ev (H : List Ob) : evFun T 47 [] H = some (.slice (some ⟨H.length, 0, none⟩) 8 8, H ++ [Ob.fresh (u32s orderW)], []) := by
  rw [evFun_fn (fn := a47) rfl]
  simp only [a47, envOf, evCode_skip, evCode_exit, evCode_seq, evCode_region, evCode_cond, evCode_block, evCode_ret, evOps_cons, evOps_nil, guardOf, simpleOp, opd, opds, opdOpt, opdParts, Env.get, Env.put, pureV, Option.bind_some, List.nil_append, List.cons_append, inMerge, pairsOk, List.all_nil, List.all_cons, St.after, Env.keep, if_true, if_false, ite_true, ite_false, binV, intBin, unV, shiftOp, resultOf, packed, reduceCtorEq, Option.isNone_none, Option.isSome_none, Bool.false_eq_true, Nat.reduceAdd, Nat.reduceEqDiff, Nat.reduceMul, Nat.zero_add, List.length_cons, List.length_nil, beq_self_eq_true, Bool.not_true, Bool.not_false, evOper_move, evOper_pick, evOper_alloc, evOper_box, evOper_load, evOper_store, evOper_bin, evOper_eqv, evOper_isNil, evOper_un, evOper_conv, evOper_convStr, evOper_s2b, evOper_b2s, evOper_field, evOper_index, evOper_indexStr, evOper_build, evOper_buildSlice, evOper_fieldAddr, evOper_indexAddr, evOper_indexSl, evOper_sliceArr, evOper_sliceSl, evOper_sliceStr, evOper_makeSlice, evOper_extract, evOper_mkIface, evOper_mkFunc, evOper_nilCheck, evOper_s2ap, evOper_append, evOper_copy, evOper_len, evOper_minmax, evOper_call, evOper_callVal, Ob.fresh, live0, live1, live2, Int.natCast_nonneg, and_self, true_and, and_true, Int.toNat_natCast, Nat.mul_one, addr_add, partL, cells_int, cells_int_size, okVar, splice_single, Nat.lt_irrefl, false_and, decide_true, decide_false, Nat.add_zero, Int.reduceEq, Int.reduceLT, Int.reduceLE, Int.reduceToNat, Nat.reduceLT, Nat.reduceSub, rf_int, rf_tuple_ints, toList2, Bool.and_true, Bool.true_and, Bool.and_self, List.getElem?_cons_zero, List.getElem?_cons_succ, nlt1, nlt2, nlt3, nlt4, Nat.le_refl, Int.le_refl, Nat.not_lt_zero, Nat.sub_zero, Nat.zero_mul, cells_agg, cells_agg_size]
  rfl
end Go.Ev.Ytaceeoghjgggjaa

/-
  scalar.of: the words of bytes are the digits of their number.
-/
set_option linter.unusedSimpArgs false
set_option linter.unusedVariables false
namespace Go.Ev.Ytaceeoghjgggjaa
open Go Go.Ev
attribute [local congr] bind_congr1
set_option maxRecDepth 100000

def ofStep (ws : List Nat) (j x : Nat) : List Nat := ws.set (j / 4) (ws.getD (j / 4) 0 ||| x * 2 ^ (8 * (j % 4)))
def ofI (H : List Ob) (id off n c m : Nat) (log : List Nat) (W : Nat → List Nat) (j : Nat) : St :=
  ⟨[(3, .slice (some ⟨H.length, 0, none⟩) m m), (11, .slice (some ⟨id, off, none⟩) n c), (12, .int .i64 n), (13, .int .i64 j)], H ++ [Ob.fresh (u32s (W j))], log⟩

theorem of_body {H : List Ob} {id off n c m : Nat} {bs : List Nat} (hr : Row .u8 H id off bs) (hn : bs.length = n) (hm : m = (n + 3) / 4) (hN : n < 2 ^ 40) (hb : ∀ x ∈ bs, x < 256)
    (W : Nat → List Nat) (hW : ∀ j, (W j).length = m ∧ ∀ x ∈ W j, x < 4294967296) (hstep : ∀ j x, bs[j]? = some x → W (j + 1) = ofStep (W j) j x) {j : Nat} (hj : j < n) :
    evCode T H.length a40_l0 (ofI H id off n c m [] W j) = some (.normal, ofI H id off n c m [] W (j + 1)) := by
  obtain ⟨x, hx⟩ : ∃ x, bs[j]? = some x := ⟨_, List.getElem?_eq_getElem (by omega)⟩
  have h1 : ((j : Int) < (n : Int)) := by omega
  have hq : j / 4 < m := by omega
  obtain ⟨y, hy⟩ : ∃ y, (W j)[j / 4]? = some y := ⟨_, List.getElem?_eq_getElem (by rw [(hW j).1]; exact hq)⟩
  obtain ⟨o, ho, hc⟩ := hr
  have ho' := liveAt_app (l := [⟨u32s (W j), true, true, true, 1⟩]) ho
  have hxc := hc j x hx
  have hyc := u32s_get hy
  have hx256 : x < 256 := hb x (List.mem_of_getElem? hx)
  have e1 : IntKind.i64.wrap ((j : Int).tdiv 4) = ((j / 4 : Nat) : Int) := wrap_nat (n := j / 4) (by omega)
  have e2 : ((j : Int).tmod 4) = ((j % 4 : Nat) : Int) := rfl
  have e3 : IntKind.i64.wrap (8 * ((j % 4 : Nat) : Int)) = ((8 * (j % 4) : Nat) : Int) := wrap_nat (n := 8 * (j % 4)) (by omega)
  have e4 : min (8 * (j % 4)) IntKind.u32.bits = 8 * (j % 4) := Nat.min_eq_left (by show _ ≤ 32; omega)
  have e5 : IntKind.u32.wrap (x : Int) = (x : Nat) := wrap_small rfl (by show x < 2 ^ 32; omega)
  have h3 : ((j / 4 : Nat) : Int) < (m : Int) := by omega
  have h4 : ¬ (((8 * (j % 4) : Nat) : Int) < 0) := by omega
  have hp : x * 2 ^ (8 * (j % 4)) < 4294967296 := by
    have h5 : (2 : Nat) ^ (8 * (j % 4)) ≤ 2 ^ 24 := Nat.pow_le_pow_right (by decide) (by omega)
    have h6 : x * 2 ^ (8 * (j % 4)) ≤ 255 * 2 ^ 24 := Nat.mul_le_mul (by omega) h5
    omega
  have hy32 : y < 4294967296 := (hW j).2 y (List.mem_of_getElem? hy)
  have e6 : bitsOp .or .u32 (y : Nat) (IntKind.u32.wrap ((x : Int) * 2 ^ (8 * (j % 4)))) = ((y ||| x * 2 ^ (8 * (j % 4)) : Nat) : Int) := by
    have : ((x : Int) * 2 ^ (8 * (j % 4))) = ((x * 2 ^ (8 * (j % 4)) : Nat) : Int) := by simp
    rw [this, wrap_small rfl hp, bits_or rfl hy32 hp]
  have e7 : IntKind.i64.wrap ((j : Int) + 1) = ((j + 1 : Nat) : Int) := wrap_nat (n := j + 1) (by omega)
  have h5 : j / 4 + 1 ≤ (u32s (W j)).length := by rw [u32s_len, (hW j).1]; omega
  have hs : W (j + 1) = (W j).set (j / 4) (y ||| x * 2 ^ (8 * (j % 4))) := by rw [hstep j x hx, ofStep, List.getD_eq_getElem?_getD, hy]; rfl
  simp only [ofI, a40_l0, envOf, evCode_skip, evCode_exit, evCode_seq, evCode_region, evCode_cond, evCode_block, evCode_ret, evOps_cons, evOps_nil, guardOf, simpleOp, opd, opds, opdOpt, opdParts, Env.get, Env.put, pureV, Option.bind_some, List.nil_append, List.cons_append, inMerge, pairsOk, List.all_nil, List.all_cons, St.after, Env.keep, if_true, if_false, ite_true, ite_false, binV, intBin, unV, shiftOp, resultOf, packed, reduceCtorEq, Option.isNone_none, Option.isSome_none, Bool.false_eq_true, Nat.reduceAdd, Nat.reduceEqDiff, Nat.reduceMul, Nat.zero_add, List.length_cons, List.length_nil, beq_self_eq_true, Bool.not_true, Bool.not_false, evOper_move, evOper_pick, evOper_alloc, evOper_box, evOper_load, evOper_store, evOper_bin, evOper_eqv, evOper_isNil, evOper_un, evOper_conv, evOper_convStr, evOper_s2b, evOper_b2s, evOper_field, evOper_index, evOper_indexStr, evOper_build, evOper_buildSlice, evOper_fieldAddr, evOper_indexAddr, evOper_indexSl, evOper_sliceArr, evOper_sliceSl, evOper_sliceStr, evOper_makeSlice, evOper_extract, evOper_mkIface, evOper_mkFunc, evOper_nilCheck, evOper_s2ap, evOper_append, evOper_copy, evOper_len, evOper_minmax, evOper_call, evOper_callVal, Ob.fresh, live0, live1, live2, Int.natCast_nonneg, and_self, true_and, and_true, Int.toNat_natCast, Nat.mul_one, addr_add, partL, cells_int, cells_int_size, okVar, splice_single, Nat.lt_irrefl, false_and, decide_true, decide_false, Nat.add_zero, Int.reduceEq, Int.reduceLT, Int.reduceLE, Int.reduceToNat, Nat.reduceLT, Nat.reduceSub, rf_int, rf_tuple_ints, toList2, Bool.and_true, Bool.true_and, Bool.and_self, List.getElem?_cons_zero, List.getElem?_cons_succ, nlt1, nlt2, nlt3, nlt4, Nat.le_refl, Int.le_refl, Nat.not_lt_zero, Nat.sub_zero, Nat.zero_mul, cells_agg, cells_agg_size, h1, ho', hxc, hyc, e1, e2, e3, e4, e5, h3, h4, e6, e7, h5, storeAt0, hs, u32s_set]

theorem flat_one (v : Value) : ∀ n, (List.replicate n [v]).flatten = List.replicate n v
  | 0 => rfl
  | n + 1 => by rw [List.replicate_succ, List.flatten_cons, flat_one v n]; rfl
theorem dig_zero (B n : Nat) : dig B n 0 = List.replicate n 0 := by
  symm
  exact dig_ext (by simp) fun i hi => by simp [hi]
theorem u32s_zero (n : Nat) : List.replicate n (Value.int .u32 0) = u32s (dig 4294967296 n 0) := by simp [dig_zero, u32s]

theorem of_ev {H : List Ob} {id off n c : Nat} {bs : List Nat} (hr : Row .u8 H id off bs) (hn : bs.length = n) (hN : n < 2 ^ 40) (hb : ∀ x ∈ bs, x < 256) :
    evFun T 40 [.slice (some ⟨id, off, none⟩) n c] H = some (.slice (some ⟨H.length, 0, none⟩) ((n + 3) / 4) ((n + 3) / 4), H ++ [Ob.fresh (u32s (dig 4294967296 ((n + 3) / 4) (num 256 bs)))], []) := by
  have hbody := block_loop (T := T) (base := H.length) (id := 0) (body := a40_l0) (ofI H id off n c ((n + 3) / 4) [] fun j => dig 4294967296 ((n + 3) / 4) (num 256 (bs.take j))) n
    (s' := ⟨[(3, .slice (some ⟨H.length, 0, none⟩) ((n + 3) / 4) ((n + 3) / 4)), (11, .slice (some ⟨id, off, none⟩) n c), (12, .int .i64 n), (13, .int .i64 n), (14, .bool false)], H ++ [Ob.fresh (u32s (dig 4294967296 ((n + 3) / 4) (num 256 bs)))], []⟩)
    (fun j hj => of_body hr hn rfl hN hb _ (fun j => ⟨dig_len _ _ _, fun x hx => dig_lt (by decide) hx⟩) (fun j x hx => by
      have hj : j < bs.length := (List.getElem?_eq_some_iff.1 hx).1
      have hlt : num 256 (bs.take j) < 256 ^ j := by
        have := num_lt (B := 256) (l := bs.take j) fun y hy => hb y (List.mem_of_mem_take hy)
        rwa [List.length_take, Nat.min_eq_left (Nat.le_of_lt hj)] at this
      rw [num_take hx, ofStep, dig_byte (by omega) hlt (hb x (List.mem_of_getElem? hx))]) hj)
    (by
      have h1 : ¬ ((n : Int) < (n : Int)) := by omega
      have h2 : bs.take n = bs := by rw [← hn]; exact List.take_length
      simp only [ofI, a40_l0, envOf, evCode_skip, evCode_exit, evCode_seq, evCode_region, evCode_cond, evCode_block, evCode_ret, evOps_cons, evOps_nil, guardOf, simpleOp, opd, opds, opdOpt, opdParts, Env.get, Env.put, pureV, Option.bind_some, List.nil_append, List.cons_append, inMerge, pairsOk, List.all_nil, List.all_cons, St.after, Env.keep, if_true, if_false, ite_true, ite_false, binV, intBin, unV, shiftOp, resultOf, packed, reduceCtorEq, Option.isNone_none, Option.isSome_none, Bool.false_eq_true, Nat.reduceAdd, Nat.reduceEqDiff, Nat.reduceMul, Nat.zero_add, List.length_cons, List.length_nil, beq_self_eq_true, Bool.not_true, Bool.not_false, evOper_move, evOper_pick, evOper_alloc, evOper_box, evOper_load, evOper_store, evOper_bin, evOper_eqv, evOper_isNil, evOper_un, evOper_conv, evOper_convStr, evOper_s2b, evOper_b2s, evOper_field, evOper_index, evOper_indexStr, evOper_build, evOper_buildSlice, evOper_fieldAddr, evOper_indexAddr, evOper_indexSl, evOper_sliceArr, evOper_sliceSl, evOper_sliceStr, evOper_makeSlice, evOper_extract, evOper_mkIface, evOper_mkFunc, evOper_nilCheck, evOper_s2ap, evOper_append, evOper_copy, evOper_len, evOper_minmax, evOper_call, evOper_callVal, Ob.fresh, live0, live1, live2, Int.natCast_nonneg, and_self, true_and, and_true, Int.toNat_natCast, Nat.mul_one, addr_add, partL, cells_int, cells_int_size, okVar, splice_single, Nat.lt_irrefl, false_and, decide_true, decide_false, Nat.add_zero, Int.reduceEq, Int.reduceLT, Int.reduceLE, Int.reduceToNat, Nat.reduceLT, Nat.reduceSub, rf_int, rf_tuple_ints, toList2, Bool.and_true, Bool.true_and, Bool.and_self, List.getElem?_cons_zero, List.getElem?_cons_succ, nlt1, nlt2, nlt3, nlt4, Nat.le_refl, Int.le_refl, Nat.not_lt_zero, Nat.sub_zero, Nat.zero_mul, cells_agg, cells_agg_size, h1, h2])
  have e1 : IntKind.i64.wrap ((n : Int) + 3) = ((n + 3 : Nat) : Int) := wrap_nat (n := n + 3) (by omega)
  have e2 : IntKind.i64.wrap (((n + 3 : Nat) : Int).tdiv 4) = (((n + 3) / 4 : Nat) : Int) := wrap_nat (n := (n + 3) / 4) (by omega)
  have h1 : ((((n + 3) / 4 : Nat) : Int) * ((4 : Nat) : Int) ≤ 2 ^ 47) := by omega
  have h2 : (0 : Nat) < 4 := by decide
  rw [evFun_fn (fn := a40) rfl]
  have hz : ofI H id off n c ((n + 3) / 4) [] (fun j => dig 4294967296 ((n + 3) / 4) (num 256 (bs.take j))) 0 = ⟨[(3, .slice (some ⟨H.length, 0, none⟩) ((n + 3) / 4) ((n + 3) / 4)), (11, .slice (some ⟨id, off, none⟩) n c), (12, .int .i64 n), (13, .int .i64 0)], H ++ [Ob.fresh (u32s (dig 4294967296 ((n + 3) / 4) 0))], []⟩ := by simp [ofI, num]
  rw [hz] at hbody
  simp only [Ob.fresh] at hbody
  simp only [a40, envOf, evCode_skip, evCode_exit, evCode_seq, evCode_region, evCode_cond, evCode_block, evCode_ret, evOps_cons, evOps_nil, guardOf, simpleOp, opd, opds, opdOpt, opdParts, Env.get, Env.put, pureV, Option.bind_some, List.nil_append, List.cons_append, inMerge, pairsOk, List.all_nil, List.all_cons, St.after, Env.keep, if_true, if_false, ite_true, ite_false, binV, intBin, unV, shiftOp, resultOf, packed, reduceCtorEq, Option.isNone_none, Option.isSome_none, Bool.false_eq_true, Nat.reduceAdd, Nat.reduceEqDiff, Nat.reduceMul, Nat.zero_add, List.length_cons, List.length_nil, beq_self_eq_true, Bool.not_true, Bool.not_false, evOper_move, evOper_pick, evOper_alloc, evOper_box, evOper_load, evOper_store, evOper_bin, evOper_eqv, evOper_isNil, evOper_un, evOper_conv, evOper_convStr, evOper_s2b, evOper_b2s, evOper_field, evOper_index, evOper_indexStr, evOper_build, evOper_buildSlice, evOper_fieldAddr, evOper_indexAddr, evOper_indexSl, evOper_sliceArr, evOper_sliceSl, evOper_sliceStr, evOper_makeSlice, evOper_extract, evOper_mkIface, evOper_mkFunc, evOper_nilCheck, evOper_s2ap, evOper_append, evOper_copy, evOper_len, evOper_minmax, evOper_call, evOper_callVal, Ob.fresh, live0, live1, live2, Int.natCast_nonneg, and_self, true_and, and_true, Int.toNat_natCast, Nat.mul_one, addr_add, partL, cells_int, cells_int_size, okVar, splice_single, Nat.lt_irrefl, false_and, decide_true, decide_false, Nat.add_zero, Int.reduceEq, Int.reduceLT, Int.reduceLE, Int.reduceToNat, Nat.reduceLT, Nat.reduceSub, rf_int, rf_tuple_ints, toList2, Bool.and_true, Bool.true_and, Bool.and_self, List.getElem?_cons_zero, List.getElem?_cons_succ, nlt1, nlt2, nlt3, nlt4, Nat.le_refl, Int.le_refl, Nat.not_lt_zero, Nat.sub_zero, Nat.zero_mul, cells_agg, cells_agg_size, e1, e2, h1, h2, Int.le_refl, flat_one, u32s_zero, hbody]
end Go.Ev.Ytaceeoghjgggjaa

/-
  scalar.times: the words of a product.
-/
set_option linter.unusedSimpArgs false
set_option linter.unusedVariables false
namespace Go.Ev.Ytaceeoghjgggjaa
open Go Go.Ev
attribute [local congr] bind_congr1
set_option maxRecDepth 100000

/-- What the inner loop of 'times' does to the words and the carry. -/
structure MulInv (n m i k A a : Nat) (os out : List Nat) (c : Nat) : Prop where
  len : out.length = n + m
  lt : ∀ x ∈ out, x < 4294967296
  clt : c < 4294967296
  eq : num 4294967296 out + c * 4294967296 ^ (i + k) = A + a * 4294967296 ^ i * num 4294967296 (os.take k)
  top : ∀ j, i + m ≤ j → j < n + m → out[j]? = some 0

theorem MulInv.step {n m i k A a b y c : Nat} {os out : List Nat} (h : MulInv n m i k A a os out c) (ha : a < 4294967296) (hb : os[k]? = some b) (hb' : b < 4294967296) (hy : out[i + k]? = some y) (hk : k < m) :
    MulInv n m i (k + 1) A a os (out.set (i + k) ((c + (y + a * b)) % 4294967296)) ((c + (y + a * b)) / 4294967296) := by
  have hy' : y < 4294967296 := h.lt y (List.mem_of_getElem? hy)
  have hc := h.clt
  refine ⟨by rw [List.length_set]; exact h.len, set_lt h.lt (Nat.mod_lt _ (by decide)), ?_, ?_, ?_⟩
  · have : a * b ≤ 4294967295 * 4294967295 := Nat.mul_le_mul (by omega) (by omega)
    rw [Nat.div_lt_iff_lt_mul (by decide)]
    show _ < 4294967296 * 4294967296
    omega
  · have h1 := num_set (B := 4294967296) ((c + (y + a * b)) % 4294967296) hy
    have h2 := h.eq
    rw [num_take hb]
    have h3 := Nat.div_add_mod (c + (y + a * b)) 4294967296
    generalize (c + (y + a * b)) / 4294967296 = q at *
    generalize (c + (y + a * b)) % 4294967296 = r at *
    have e1 : a * 4294967296 ^ i * (num 4294967296 (os.take k) + b * 4294967296 ^ k) = a * 4294967296 ^ i * num 4294967296 (os.take k) + a * b * 4294967296 ^ (i + k) := by
      rw [Nat.mul_add, Nat.pow_add]; congr 1; simp only [Nat.mul_assoc, Nat.mul_left_comm, Nat.mul_comm]
    have e2 : q * 4294967296 ^ (i + (k + 1)) = 4294967296 * q * 4294967296 ^ (i + k) := by
      rw [← Nat.add_assoc, Nat.pow_succ]; simp only [Nat.mul_assoc, Nat.mul_left_comm, Nat.mul_comm]
    rw [e1, e2]
    have e3 : (4294967296 * q + r) * 4294967296 ^ (i + k) = (c + (y + a * b)) * 4294967296 ^ (i + k) := by rw [h3]
    rw [Nat.add_mul, Nat.add_mul, Nat.add_mul] at e3
    omega
  · intro j h1 h2
    rw [List.getElem?_set_ne (by omega)]
    exact h.top j h1 h2

def mulI (H : List Ob) (s1 s2 : Value) (n m i a k c : Nat) (out : List Nat) : St :=
  ⟨[(1, s2), (5, .slice (some ⟨H.length, 0, none⟩) (n + m) (n + m)), (6, .int .i64 i), (7, .int .u32 a), (8, .int .u64 c), (17, s1), (18, .int .i64 n), (19, .int .i64 i), (24, s2), (25, .int .i64 m), (26, .int .i64 k)], H ++ [Ob.fresh (u32s out)], []⟩

theorem mul_inner {H : List Ob} {s1 : Value} {id2 off2 c2 n m i a k c b y : Nat} {os out : List Nat} (hr : Row .u32 H id2 off2 os) (hN : n + m < 2 ^ 40) (hi : i < n) (hk : k < m) (ha : a < 4294967296) (hb : os[k]? = some b) (hb' : b < 4294967296) (hl : out.length = n + m) (hy : out[i + k]? = some y) (hy' : y < 4294967296) (hc : c < 4294967296) :
    evCode T H.length a44_l0 (mulI H s1 (.slice (some ⟨id2, off2, none⟩) m c2) n m i a k c out) = some (.normal, mulI H s1 (.slice (some ⟨id2, off2, none⟩) m c2) n m i a (k + 1) ((c + (y + a * b)) / 4294967296) (out.set (i + k) ((c + (y + a * b)) % 4294967296))) := by
  obtain ⟨o, ho, hcell⟩ := hr
  have ho' := liveAt_app (l := [⟨u32s out, true, true, true, 1⟩]) ho
  have hxc := hcell k b hb
  have hyc := u32s_get hy
  have hab : a * b ≤ 4294967295 * 4294967295 := Nat.mul_le_mul (by omega) (by omega)
  have h1 : ((k : Int) < (m : Int)) := by omega
  have h2 : ((i + k : Nat) : Int) < ((n + m : Nat) : Int) := by omega
  have e1 : IntKind.i64.wrap ((i : Int) + (k : Int)) = ((i + k : Nat) : Int) := wrap_nat (n := i + k) (by omega)
  have e2 : IntKind.u64.wrap (y : Int) = (y : Nat) := wrap_small rfl (by show y < 2 ^ 64; omega)
  have e3 : IntKind.u64.wrap (a : Int) = (a : Nat) := wrap_small rfl (by show a < 2 ^ 64; omega)
  have e4 : IntKind.u64.wrap (b : Int) = (b : Nat) := wrap_small rfl (by show b < 2 ^ 64; omega)
  have e5 : IntKind.u64.wrap ((a : Int) * (b : Int)) = ((a * b : Nat) : Int) := wrap_small (n := a * b) rfl (by show _ < 2 ^ 64; omega)
  have e6 : IntKind.u64.wrap ((y : Int) + ((a * b : Nat) : Int)) = ((y + a * b : Nat) : Int) := wrap_small (n := y + a * b) rfl (by show _ < 2 ^ 64; omega)
  have e7 : IntKind.u64.wrap ((c : Int) + ((y + a * b : Nat) : Int)) = ((c + (y + a * b) : Nat) : Int) := wrap_small (n := c + (y + a * b)) rfl (by show _ < 2 ^ 64; omega)
  have e8 : IntKind.u32.wrap ((c + (y + a * b) : Nat) : Int) = (((c + (y + a * b)) % 4294967296 : Nat) : Int) := by rw [wrap_u32]; rfl
  have e9 : Int.fdiv ((c + (y + a * b) : Nat) : Int) (2 ^ min 32 IntKind.u64.bits) = (((c + (y + a * b)) / 4294967296 : Nat) : Int) := by
    rw [Int.fdiv_eq_ediv_of_nonneg _ (by decide)]; rfl
  have e10 : IntKind.i64.wrap ((k : Int) + 1) = ((k + 1 : Nat) : Int) := wrap_nat (n := k + 1) (by omega)
  have h5 : i + k + 1 ≤ (u32s out).length := by rw [u32s_len, hl]; omega
  simp only [mulI, a44_l0, envOf, evCode_skip, evCode_exit, evCode_seq, evCode_region, evCode_cond, evCode_block, evCode_ret, evOps_cons, evOps_nil, guardOf, simpleOp, opd, opds, opdOpt, opdParts, Env.get, Env.put, pureV, Option.bind_some, List.nil_append, List.cons_append, inMerge, pairsOk, List.all_nil, List.all_cons, St.after, Env.keep, if_true, if_false, ite_true, ite_false, binV, intBin, unV, shiftOp, resultOf, packed, reduceCtorEq, Option.isNone_none, Option.isSome_none, Bool.false_eq_true, Nat.reduceAdd, Nat.reduceEqDiff, Nat.reduceMul, Nat.zero_add, List.length_cons, List.length_nil, beq_self_eq_true, Bool.not_true, Bool.not_false, evOper_move, evOper_pick, evOper_alloc, evOper_box, evOper_load, evOper_store, evOper_bin, evOper_eqv, evOper_isNil, evOper_un, evOper_conv, evOper_convStr, evOper_s2b, evOper_b2s, evOper_field, evOper_index, evOper_indexStr, evOper_build, evOper_buildSlice, evOper_fieldAddr, evOper_indexAddr, evOper_indexSl, evOper_sliceArr, evOper_sliceSl, evOper_sliceStr, evOper_makeSlice, evOper_extract, evOper_mkIface, evOper_mkFunc, evOper_nilCheck, evOper_s2ap, evOper_append, evOper_copy, evOper_len, evOper_minmax, evOper_call, evOper_callVal, Ob.fresh, live0, live1, live2, Int.natCast_nonneg, and_self, true_and, and_true, Int.toNat_natCast, Nat.mul_one, addr_add, partL, cells_int, cells_int_size, okVar, splice_single, Nat.lt_irrefl, false_and, decide_true, decide_false, Nat.add_zero, Int.reduceEq, Int.reduceLT, Int.reduceLE, Int.reduceToNat, Nat.reduceLT, Nat.reduceSub, rf_int, rf_tuple_ints, toList2, Bool.and_true, Bool.true_and, Bool.and_self, List.getElem?_cons_zero, List.getElem?_cons_succ, nlt1, nlt2, nlt3, nlt4, Nat.le_refl, Int.le_refl, Nat.not_lt_zero, Nat.sub_zero, Nat.zero_mul, cells_agg, cells_agg_size, h1, h2, ho', hxc, hyc, e1, e2, e3, e4, e5, e6, e7, e8, e9, e10, h5, storeAt0, u32s_set]

structure TimesInv (n m i : Nat) (ws os out : List Nat) : Prop where
  len : out.length = n + m
  lt : ∀ x ∈ out, x < 4294967296
  eq : num 4294967296 out = num 4294967296 (ws.take i) * num 4294967296 os
  top : ∀ j, i + m ≤ j → j < n + m → out[j]? = some 0

def timesI (H : List Ob) (s1 s2 : Value) (n m i : Nat) (out : List Nat) : St :=
  ⟨[(1, s2), (5, .slice (some ⟨H.length, 0, none⟩) (n + m) (n + m)), (17, s1), (18, .int .i64 n), (19, .int .i64 i)], H ++ [Ob.fresh (u32s out)], []⟩

theorem times_outer {H : List Ob} {id1 off1 c1 id2 off2 c2 n m i a : Nat} {ws os out : List Nat} (hr1 : Row .u32 H id1 off1 ws) (hr2 : Row .u32 H id2 off2 os) (hm : os.length = m) (hN : n + m < 2 ^ 40) (hi : i < n) (ha : ws[i]? = some a) (ha' : a < 4294967296) (hos : ∀ x ∈ os, x < 4294967296) (h : TimesInv n m i ws os out) :
    ∃ out', evCode T H.length a44_l1 (timesI H (.slice (some ⟨id1, off1, none⟩) n c1) (.slice (some ⟨id2, off2, none⟩) m c2) n m i out) = some (.normal, timesI H (.slice (some ⟨id1, off1, none⟩) n c1) (.slice (some ⟨id2, off2, none⟩) m c2) n m (i + 1) out') ∧ TimesInv n m (i + 1) ws os out' := by
  have h0 : MulInv n m i 0 (num 4294967296 out) a os out 0 := ⟨h.len, h.lt, by decide, by simp [num], h.top⟩
  obtain ⟨s', hb, out1, c, rfl, hinv⟩ := block_inv (T := T) (base := H.length) (id := 2) (body := a44_l0)
    (fun k s => ∃ out1 c, s = mulI H (.slice (some ⟨id1, off1, none⟩) n c1) (.slice (some ⟨id2, off2, none⟩) m c2) n m i a k c out1 ∧ MulInv n m i k (num 4294967296 out) a os out1 c)
    (Q := fun s => ∃ out1 c, s = ⟨[(1, .slice (some ⟨id2, off2, none⟩) m c2), (5, .slice (some ⟨H.length, 0, none⟩) (n + m) (n + m)), (6, .int .i64 i), (7, .int .u32 a), (8, .int .u64 (c : Nat)), (17, .slice (some ⟨id1, off1, none⟩) n c1), (18, .int .i64 n), (19, .int .i64 i), (24, .slice (some ⟨id2, off2, none⟩) m c2), (25, .int .i64 m), (26, .int .i64 m), (27, .bool false)], H ++ [⟨u32s out1, true, true, true, 1⟩], []⟩ ∧ MulInv n m i m (num 4294967296 out) a os out1 c)
    m ⟨out, 0, rfl, h0⟩
    (fun k s hk hs => by
      obtain ⟨out1, c, rfl, hI⟩ := hs
      obtain ⟨b, hbk⟩ : ∃ b, os[k]? = some b := ⟨_, List.getElem?_eq_getElem (by omega)⟩
      obtain ⟨y, hy⟩ : ∃ y, out1[i + k]? = some y := ⟨_, List.getElem?_eq_getElem (by rw [hI.len]; omega)⟩
      have hb' := hos b (List.mem_of_getElem? hbk)
      exact ⟨_, mul_inner hr2 hN hi hk ha' hbk hb' hI.len hy (hI.lt y (List.mem_of_getElem? hy)) hI.clt, _, _, rfl, hI.step ha' hbk hb' hy hk⟩)
    (fun s hs => by
      obtain ⟨out1, c, rfl, hI⟩ := hs
      have h1 : ¬ ((m : Int) < (m : Int)) := by omega
      refine ⟨_, ?_, out1, c, rfl, hI⟩
      simp only [mulI, a44_l0, envOf, evCode_skip, evCode_exit, evCode_seq, evCode_region, evCode_cond, evCode_block, evCode_ret, evOps_cons, evOps_nil, guardOf, simpleOp, opd, opds, opdOpt, opdParts, Env.get, Env.put, pureV, Option.bind_some, List.nil_append, List.cons_append, inMerge, pairsOk, List.all_nil, List.all_cons, St.after, Env.keep, if_true, if_false, ite_true, ite_false, binV, intBin, unV, shiftOp, resultOf, packed, reduceCtorEq, Option.isNone_none, Option.isSome_none, Bool.false_eq_true, Nat.reduceAdd, Nat.reduceEqDiff, Nat.reduceMul, Nat.zero_add, List.length_cons, List.length_nil, beq_self_eq_true, Bool.not_true, Bool.not_false, evOper_move, evOper_pick, evOper_alloc, evOper_box, evOper_load, evOper_store, evOper_bin, evOper_eqv, evOper_isNil, evOper_un, evOper_conv, evOper_convStr, evOper_s2b, evOper_b2s, evOper_field, evOper_index, evOper_indexStr, evOper_build, evOper_buildSlice, evOper_fieldAddr, evOper_indexAddr, evOper_indexSl, evOper_sliceArr, evOper_sliceSl, evOper_sliceStr, evOper_makeSlice, evOper_extract, evOper_mkIface, evOper_mkFunc, evOper_nilCheck, evOper_s2ap, evOper_append, evOper_copy, evOper_len, evOper_minmax, evOper_call, evOper_callVal, Ob.fresh, live0, live1, live2, Int.natCast_nonneg, and_self, true_and, and_true, Int.toNat_natCast, Nat.mul_one, addr_add, partL, cells_int, cells_int_size, okVar, splice_single, Nat.lt_irrefl, false_and, decide_true, decide_false, Nat.add_zero, Int.reduceEq, Int.reduceLT, Int.reduceLE, Int.reduceToNat, Nat.reduceLT, Nat.reduceSub, rf_int, rf_tuple_ints, toList2, Bool.and_true, Bool.true_and, Bool.and_self, List.getElem?_cons_zero, List.getElem?_cons_succ, nlt1, nlt2, nlt3, nlt4, Nat.le_refl, Int.le_refl, Nat.not_lt_zero, Nat.sub_zero, Nat.zero_mul, cells_agg, cells_agg_size, h1])
  rw [show mulI H (.slice (some ⟨id1, off1, none⟩) n c1) (.slice (some ⟨id2, off2, none⟩) m c2) n m i a 0 0 out = ⟨[(1, .slice (some ⟨id2, off2, none⟩) m c2), (5, .slice (some ⟨H.length, 0, none⟩) (n + m) (n + m)), (6, .int .i64 i), (7, .int .u32 a), (8, .int .u64 0), (17, .slice (some ⟨id1, off1, none⟩) n c1), (18, .int .i64 n), (19, .int .i64 i), (24, .slice (some ⟨id2, off2, none⟩) m c2), (25, .int .i64 m), (26, .int .i64 0)], H ++ [⟨u32s out, true, true, true, 1⟩], []⟩ from rfl] at hb
  obtain ⟨o, ho, hcell⟩ := hr1
  have ho' := liveAt_app (l := [⟨u32s out, true, true, true, 1⟩]) ho
  have hxc := hcell i a ha
  have hz : out1[i + m]? = some 0 := hinv.top (i + m) (Nat.le_refl _) (by omega)
  have h1 : ((i : Int) < (n : Int)) := by omega
  have h2 : ((i + m : Nat) : Int) < ((n + m : Nat) : Int) := by omega
  have e1 : IntKind.i64.wrap ((i : Int) + (m : Int)) = ((i + m : Nat) : Int) := wrap_nat (n := i + m) (by omega)
  have e2 : IntKind.u32.wrap (c : Int) = (c : Nat) := wrap_small rfl hinv.clt
  have e10 : IntKind.i64.wrap ((i : Int) + 1) = ((i + 1 : Nat) : Int) := wrap_nat (n := i + 1) (by omega)
  have h5 : i + m + 1 ≤ (u32s out1).length := by rw [u32s_len, hinv.len]; omega
  refine ⟨out1.set (i + m) c, ?_, ?_⟩
  · simp only [timesI, a44_l1, envOf, evCode_skip, evCode_exit, evCode_seq, evCode_region, evCode_cond, evCode_block, evCode_ret, evOps_cons, evOps_nil, guardOf, simpleOp, opd, opds, opdOpt, opdParts, Env.get, Env.put, pureV, Option.bind_some, List.nil_append, List.cons_append, inMerge, pairsOk, List.all_nil, List.all_cons, St.after, Env.keep, if_true, if_false, ite_true, ite_false, binV, intBin, unV, shiftOp, resultOf, packed, reduceCtorEq, Option.isNone_none, Option.isSome_none, Bool.false_eq_true, Nat.reduceAdd, Nat.reduceEqDiff, Nat.reduceMul, Nat.zero_add, List.length_cons, List.length_nil, beq_self_eq_true, Bool.not_true, Bool.not_false, evOper_move, evOper_pick, evOper_alloc, evOper_box, evOper_load, evOper_store, evOper_bin, evOper_eqv, evOper_isNil, evOper_un, evOper_conv, evOper_convStr, evOper_s2b, evOper_b2s, evOper_field, evOper_index, evOper_indexStr, evOper_build, evOper_buildSlice, evOper_fieldAddr, evOper_indexAddr, evOper_indexSl, evOper_sliceArr, evOper_sliceSl, evOper_sliceStr, evOper_makeSlice, evOper_extract, evOper_mkIface, evOper_mkFunc, evOper_nilCheck, evOper_s2ap, evOper_append, evOper_copy, evOper_len, evOper_minmax, evOper_call, evOper_callVal, Ob.fresh, live0, live1, live2, Int.natCast_nonneg, and_self, true_and, and_true, Int.toNat_natCast, Nat.mul_one, addr_add, partL, cells_int, cells_int_size, okVar, splice_single, Nat.lt_irrefl, false_and, decide_true, decide_false, Nat.add_zero, Int.reduceEq, Int.reduceLT, Int.reduceLE, Int.reduceToNat, Nat.reduceLT, Nat.reduceSub, rf_int, rf_tuple_ints, toList2, Bool.and_true, Bool.true_and, Bool.and_self, List.getElem?_cons_zero, List.getElem?_cons_succ, nlt1, nlt2, nlt3, nlt4, Nat.le_refl, Int.le_refl, Nat.not_lt_zero, Nat.sub_zero, Nat.zero_mul, cells_agg, cells_agg_size, h1, h2, ho', hxc, hb, e1, e2, e10, h5, storeAt0, u32s_set]
  · refine ⟨by rw [List.length_set]; exact hinv.len, set_lt hinv.lt hinv.clt, ?_, ?_⟩
    · have h6 := num_set (B := 4294967296) c hz
      have h7 := hinv.eq
      rw [show os.take m = os by rw [← hm]; exact List.take_length, h.eq] at h7
      rw [num_take ha, Nat.add_mul]
      omega
    · intro j h6 h7
      rw [List.getElem?_set_ne (by omega)]
      exact hinv.top j (by omega) h7

theorem times_ev {H : List Ob} {id1 off1 c1 id2 off2 c2 n m : Nat} {ws os : List Nat} (hr1 : Row .u32 H id1 off1 ws) (hr2 : Row .u32 H id2 off2 os) (hn : ws.length = n) (hm : os.length = m) (hN : n + m < 2 ^ 40) (hws : ∀ x ∈ ws, x < 4294967296) (hos : ∀ x ∈ os, x < 4294967296) :
    evFun T 44 [.slice (some ⟨id1, off1, none⟩) n c1, .slice (some ⟨id2, off2, none⟩) m c2] H = some (.slice (some ⟨H.length, 0, none⟩) (n + m) (n + m), H ++ [Ob.fresh (u32s (dig 4294967296 (n + m) (num 4294967296 ws * num 4294967296 os)))], []) := by
  have h0 : TimesInv n m 0 ws os (dig 4294967296 (n + m) 0) := ⟨dig_len _ _ _, fun x hx => dig_lt (by decide) hx, by rw [num_dig (by decide)]; simp [num], fun j _ h => by rw [dig_get h]; simp⟩
  obtain ⟨s', hb, out, rfl, hinv⟩ := block_inv (T := T) (base := H.length) (id := 0) (body := a44_l1)
    (fun i s => ∃ out, s = timesI H (.slice (some ⟨id1, off1, none⟩) n c1) (.slice (some ⟨id2, off2, none⟩) m c2) n m i out ∧ TimesInv n m i ws os out)
    (Q := fun s => ∃ out, s = ⟨[(1, .slice (some ⟨id2, off2, none⟩) m c2), (5, .slice (some ⟨H.length, 0, none⟩) (n + m) (n + m)), (17, .slice (some ⟨id1, off1, none⟩) n c1), (18, .int .i64 n), (19, .int .i64 n), (20, .bool false)], H ++ [⟨u32s out, true, true, true, 1⟩], []⟩ ∧ TimesInv n m n ws os out)
    n ⟨_, rfl, h0⟩
    (fun i s hi hs => by
      obtain ⟨out, rfl, hI⟩ := hs
      obtain ⟨a, ha⟩ : ∃ a, ws[i]? = some a := ⟨_, List.getElem?_eq_getElem (by omega)⟩
      obtain ⟨out', g1, g2⟩ := times_outer (c1 := c1) (c2 := c2) hr1 hr2 hm hN hi ha (hws a (List.mem_of_getElem? ha)) hos hI
      exact ⟨_, g1, _, rfl, g2⟩)
    (fun s hs => by
      obtain ⟨out, rfl, hI⟩ := hs
      have h1 : ¬ ((n : Int) < (n : Int)) := by omega
      refine ⟨_, ?_, out, rfl, hI⟩
      simp only [timesI, a44_l1, envOf, evCode_skip, evCode_exit, evCode_seq, evCode_region, evCode_cond, evCode_block, evCode_ret, evOps_cons, evOps_nil, guardOf, simpleOp, opd, opds, opdOpt, opdParts, Env.get, Env.put, pureV, Option.bind_some, List.nil_append, List.cons_append, inMerge, pairsOk, List.all_nil, List.all_cons, St.after, Env.keep, if_true, if_false, ite_true, ite_false, binV, intBin, unV, shiftOp, resultOf, packed, reduceCtorEq, Option.isNone_none, Option.isSome_none, Bool.false_eq_true, Nat.reduceAdd, Nat.reduceEqDiff, Nat.reduceMul, Nat.zero_add, List.length_cons, List.length_nil, beq_self_eq_true, Bool.not_true, Bool.not_false, evOper_move, evOper_pick, evOper_alloc, evOper_box, evOper_load, evOper_store, evOper_bin, evOper_eqv, evOper_isNil, evOper_un, evOper_conv, evOper_convStr, evOper_s2b, evOper_b2s, evOper_field, evOper_index, evOper_indexStr, evOper_build, evOper_buildSlice, evOper_fieldAddr, evOper_indexAddr, evOper_indexSl, evOper_sliceArr, evOper_sliceSl, evOper_sliceStr, evOper_makeSlice, evOper_extract, evOper_mkIface, evOper_mkFunc, evOper_nilCheck, evOper_s2ap, evOper_append, evOper_copy, evOper_len, evOper_minmax, evOper_call, evOper_callVal, Ob.fresh, live0, live1, live2, Int.natCast_nonneg, and_self, true_and, and_true, Int.toNat_natCast, Nat.mul_one, addr_add, partL, cells_int, cells_int_size, okVar, splice_single, Nat.lt_irrefl, false_and, decide_true, decide_false, Nat.add_zero, Int.reduceEq, Int.reduceLT, Int.reduceLE, Int.reduceToNat, Nat.reduceLT, Nat.reduceSub, rf_int, rf_tuple_ints, toList2, Bool.and_true, Bool.true_and, Bool.and_self, List.getElem?_cons_zero, List.getElem?_cons_succ, nlt1, nlt2, nlt3, nlt4, Nat.le_refl, Int.le_refl, Nat.not_lt_zero, Nat.sub_zero, Nat.zero_mul, cells_agg, cells_agg_size, h1])
  rw [show timesI H (.slice (some ⟨id1, off1, none⟩) n c1) (.slice (some ⟨id2, off2, none⟩) m c2) n m 0 (dig 4294967296 (n + m) 0) = ⟨[(1, .slice (some ⟨id2, off2, none⟩) m c2), (5, .slice (some ⟨H.length, 0, none⟩) (n + m) (n + m)), (17, .slice (some ⟨id1, off1, none⟩) n c1), (18, .int .i64 n), (19, .int .i64 0)], H ++ [⟨u32s (dig 4294967296 (n + m) 0), true, true, true, 1⟩], []⟩ from rfl] at hb
  have hout : dig 4294967296 (n + m) (num 4294967296 ws * num 4294967296 os) = out := by
    have h1 := hinv.eq
    rw [show ws.take n = ws by rw [← hn]; exact List.take_length] at h1
    rw [← h1, ← hinv.len, dig_num (by decide) hinv.lt]
  have e1 : IntKind.i64.wrap ((n : Int) + (m : Int)) = ((n + m : Nat) : Int) := wrap_nat (n := n + m) (by omega)
  have h1 : (((n + m : Nat) : Int) * ((4 : Nat) : Int) ≤ 2 ^ 47) := by omega
  have h2 : (0 : Nat) < 4 := by decide
  rw [evFun_fn (fn := a44) rfl, hout]
  simp only [a44, envOf, evCode_skip, evCode_exit, evCode_seq, evCode_region, evCode_cond, evCode_block, evCode_ret, evOps_cons, evOps_nil, guardOf, simpleOp, opd, opds, opdOpt, opdParts, Env.get, Env.put, pureV, Option.bind_some, List.nil_append, List.cons_append, inMerge, pairsOk, List.all_nil, List.all_cons, St.after, Env.keep, if_true, if_false, ite_true, ite_false, binV, intBin, unV, shiftOp, resultOf, packed, reduceCtorEq, Option.isNone_none, Option.isSome_none, Bool.false_eq_true, Nat.reduceAdd, Nat.reduceEqDiff, Nat.reduceMul, Nat.zero_add, List.length_cons, List.length_nil, beq_self_eq_true, Bool.not_true, Bool.not_false, evOper_move, evOper_pick, evOper_alloc, evOper_box, evOper_load, evOper_store, evOper_bin, evOper_eqv, evOper_isNil, evOper_un, evOper_conv, evOper_convStr, evOper_s2b, evOper_b2s, evOper_field, evOper_index, evOper_indexStr, evOper_build, evOper_buildSlice, evOper_fieldAddr, evOper_indexAddr, evOper_indexSl, evOper_sliceArr, evOper_sliceSl, evOper_sliceStr, evOper_makeSlice, evOper_extract, evOper_mkIface, evOper_mkFunc, evOper_nilCheck, evOper_s2ap, evOper_append, evOper_copy, evOper_len, evOper_minmax, evOper_call, evOper_callVal, Ob.fresh, live0, live1, live2, Int.natCast_nonneg, and_self, true_and, and_true, Int.toNat_natCast, Nat.mul_one, addr_add, partL, cells_int, cells_int_size, okVar, splice_single, Nat.lt_irrefl, false_and, decide_true, decide_false, Nat.add_zero, Int.reduceEq, Int.reduceLT, Int.reduceLE, Int.reduceToNat, Nat.reduceLT, Nat.reduceSub, rf_int, rf_tuple_ints, toList2, Bool.and_true, Bool.true_and, Bool.and_self, List.getElem?_cons_zero, List.getElem?_cons_succ, nlt1, nlt2, nlt3, nlt4, Nat.le_refl, Int.le_refl, Nat.not_lt_zero, Nat.sub_zero, Nat.zero_mul, cells_agg, cells_agg_size, e1, h1, h2, Int.le_refl, flat_one, u32s_zero, hb]
end Go.Ev.Ytaceeoghjgggjaa

/-
  scalar.plus: the words of a sum.
-/
set_option linter.unusedSimpArgs false
set_option linter.unusedVariables false
namespace Go.Ev.Ytaceeoghjgggjaa
open Go Go.Ev
attribute [local congr] bind_congr1
set_option maxRecDepth 100000

structure PlusInv (n i A : Nat) (os out : List Nat) (c : Nat) : Prop where
  len : out.length = n + 1
  lt : ∀ x ∈ out, x < 4294967296
  cle : c ≤ 1
  eq : num 4294967296 out + c * 4294967296 ^ i = A + num 4294967296 (os.take i)

theorem num_take_getD {B : Nat} (l : List Nat) (i : Nat) : num B (l.take (i + 1)) = num B (l.take i) + l.getD i 0 * B ^ i := by
  cases h : l[i]? with
  | some x => rw [num_take h, List.getD_eq_getElem?_getD, h]; rfl
  | none =>
    have := List.getElem?_eq_none_iff.1 h
    rw [List.getD_eq_getElem?_getD, h, List.take_of_length_le this, List.take_of_length_le (by omega)]
    simp

theorem PlusInv.step {n i A c y : Nat} {os out : List Nat} (h : PlusInv n i A os out c) (hos : ∀ x ∈ os, x < 4294967296) (hy : out[i]? = some y) : PlusInv n (i + 1) A os (out.set i (addS y (os.getD i 0) c)) (addC y (os.getD i 0) c) := by
  have hy' : y < 4294967296 := h.lt y (List.mem_of_getElem? hy)
  have hc := h.cle
  have hx : os.getD i 0 < 4294967296 := by
    rw [List.getD_eq_getElem?_getD]
    cases hh : os[i]? with
    | some x => exact hos x (List.mem_of_getElem? hh)
    | none => decide
  refine ⟨by rw [List.length_set]; exact h.len, set_lt h.lt (Nat.mod_lt _ (by decide)), ?_, ?_⟩
  · unfold addC; omega
  · have h1 := num_set (B := 4294967296) (addS y (os.getD i 0) c) hy
    have h2 := h.eq
    rw [num_take_getD]
    have h3 : 4294967296 * addC y (os.getD i 0) c + addS y (os.getD i 0) c = y + os.getD i 0 + c := Nat.div_add_mod _ _
    generalize addC y (os.getD i 0) c = q at *
    generalize addS y (os.getD i 0) c = r at *
    have e2 : q * 4294967296 ^ (i + 1) = 4294967296 * q * 4294967296 ^ i := by
      rw [Nat.pow_succ]; simp only [Nat.mul_assoc, Nat.mul_left_comm, Nat.mul_comm]
    have e3 : (4294967296 * q + r) * 4294967296 ^ i = (y + os.getD i 0 + c) * 4294967296 ^ i := by rw [h3]
    rw [Nat.add_mul, Nat.add_mul, Nat.add_mul] at e3
    rw [e2]
    omega

def plusI (H : List Ob) (s2 : Value) (n i c : Nat) (out : List Nat) : St :=
  ⟨[(1, s2), (5, .slice (some ⟨H.length, 0, none⟩) (n + 1) (n + 1)), (6, .int .u32 c), (19, .int .i64 ((n + 1 : Nat) : Int)), (20, .int .i64 i)], H ++ [⟨u32s out, true, true, true, 1⟩, ⟨[.int .u32 0], true, true, true, 1⟩], []⟩

theorem plus_body {H : List Ob} {id2 off2 c2 n m i c y : Nat} {os out : List Nat} (hr : Row .u32 H id2 off2 os) (hm : os.length = m) (hN : n < 2 ^ 40) (hmn : m < 2 ^ 40) (hi : i < n + 1) (hos : ∀ x ∈ os, x < 4294967296) (hl : out.length = n + 1) (hy : out[i]? = some y) (hy' : y < 4294967296) (hc : c ≤ 1) :
    evCode T H.length a45_l0 (plusI H (.slice (some ⟨id2, off2, none⟩) m c2) n i c out) = some (.normal, plusI H (.slice (some ⟨id2, off2, none⟩) m c2) n (i + 1) (addC y (os.getD i 0) c) (out.set i (addS y (os.getD i 0) c))) := by
  obtain ⟨o, ho, hcell⟩ := hr
  have ho' := liveAt_app (l := [⟨u32s out, true, true, true, 1⟩, ⟨[.int .u32 0], true, true, true, 1⟩]) ho
  have hyc := u32s_get hy
  have h1 : ((i : Int) < ((n + 1 : Nat) : Int)) := by omega
  have e10 : IntKind.i64.wrap ((i : Int) + 1) = ((i + 1 : Nat) : Int) := wrap_nat (n := i + 1) (by omega)
  have h5 : i + 1 ≤ (u32s out).length := by rw [u32s_len, hl]; omega
  by_cases him : i < m
  · obtain ⟨b, hb⟩ : ∃ b, os[i]? = some b := ⟨_, List.getElem?_eq_getElem (by omega)⟩
    have hd : os.getD i 0 = b := by rw [List.getD_eq_getElem?_getD, hb]; rfl
    have hxc := hcell i b hb
    have h2 : ((i : Int) < (m : Int)) := by omega
    have hadd := add32_ev hy' (hos b (List.mem_of_getElem? hb)) hc
    rw [hd]
    simp only [plusI, a45_l0, envOf, evCode_skip, evCode_exit, evCode_seq, evCode_region, evCode_cond, evCode_block, evCode_ret, evOps_cons, evOps_nil, guardOf, simpleOp, opd, opds, opdOpt, opdParts, Env.get, Env.put, pureV, Option.bind_some, List.nil_append, List.cons_append, inMerge, pairsOk, List.all_nil, List.all_cons, St.after, Env.keep, if_true, if_false, ite_true, ite_false, binV, intBin, unV, shiftOp, resultOf, packed, reduceCtorEq, Option.isNone_none, Option.isSome_none, Bool.false_eq_true, Nat.reduceAdd, Nat.reduceEqDiff, Nat.reduceMul, Nat.zero_add, List.length_cons, List.length_nil, beq_self_eq_true, Bool.not_true, Bool.not_false, evOper_move, evOper_pick, evOper_alloc, evOper_box, evOper_load, evOper_store, evOper_bin, evOper_eqv, evOper_isNil, evOper_un, evOper_conv, evOper_convStr, evOper_s2b, evOper_b2s, evOper_field, evOper_index, evOper_indexStr, evOper_build, evOper_buildSlice, evOper_fieldAddr, evOper_indexAddr, evOper_indexSl, evOper_sliceArr, evOper_sliceSl, evOper_sliceStr, evOper_makeSlice, evOper_extract, evOper_mkIface, evOper_mkFunc, evOper_nilCheck, evOper_s2ap, evOper_append, evOper_copy, evOper_len, evOper_minmax, evOper_call, evOper_callVal, Ob.fresh, live0, live1, live2, Int.natCast_nonneg, and_self, true_and, and_true, Int.toNat_natCast, Nat.mul_one, addr_add, partL, cells_int, cells_int_size, okVar, splice_single, Nat.lt_irrefl, false_and, decide_true, decide_false, Nat.add_zero, Int.reduceEq, Int.reduceLT, Int.reduceLE, Int.reduceToNat, Nat.reduceLT, Nat.reduceSub, rf_int, rf_tuple_ints, toList2, Bool.and_true, Bool.true_and, Bool.and_self, List.getElem?_cons_zero, List.getElem?_cons_succ, nlt1, nlt2, nlt3, nlt4, Nat.le_refl, Int.le_refl, Nat.not_lt_zero, Nat.sub_zero, Nat.zero_mul, cells_agg, cells_agg_size, h1, h2, ho', hxc, hyc, e10, h5, storeAt0, u32s_set, hadd]
  · have hd : os.getD i 0 = 0 := by rw [List.getD_eq_getElem?_getD, List.getElem?_eq_none (by omega)]; rfl
    have h2 : ¬ ((i : Int) < (m : Int)) := by omega
    have hadd : evFun T 76 [.int .u32 (y : Nat), .int .u32 0, .int .u32 (c : Nat)] [] = _ := add32_ev hy' (by decide : 0 < 4294967296) hc
    rw [hd]
    simp only [plusI, a45_l0, envOf, evCode_skip, evCode_exit, evCode_seq, evCode_region, evCode_cond, evCode_block, evCode_ret, evOps_cons, evOps_nil, guardOf, simpleOp, opd, opds, opdOpt, opdParts, Env.get, Env.put, pureV, Option.bind_some, List.nil_append, List.cons_append, inMerge, pairsOk, List.all_nil, List.all_cons, St.after, Env.keep, if_true, if_false, ite_true, ite_false, binV, intBin, unV, shiftOp, resultOf, packed, reduceCtorEq, Option.isNone_none, Option.isSome_none, Bool.false_eq_true, Nat.reduceAdd, Nat.reduceEqDiff, Nat.reduceMul, Nat.zero_add, List.length_cons, List.length_nil, beq_self_eq_true, Bool.not_true, Bool.not_false, evOper_move, evOper_pick, evOper_alloc, evOper_box, evOper_load, evOper_store, evOper_bin, evOper_eqv, evOper_isNil, evOper_un, evOper_conv, evOper_convStr, evOper_s2b, evOper_b2s, evOper_field, evOper_index, evOper_indexStr, evOper_build, evOper_buildSlice, evOper_fieldAddr, evOper_indexAddr, evOper_indexSl, evOper_sliceArr, evOper_sliceSl, evOper_sliceStr, evOper_makeSlice, evOper_extract, evOper_mkIface, evOper_mkFunc, evOper_nilCheck, evOper_s2ap, evOper_append, evOper_copy, evOper_len, evOper_minmax, evOper_call, evOper_callVal, Ob.fresh, live0, live1, live2, Int.natCast_nonneg, and_self, true_and, and_true, Int.toNat_natCast, Nat.mul_one, addr_add, partL, cells_int, cells_int_size, okVar, splice_single, Nat.lt_irrefl, false_and, decide_true, decide_false, Nat.add_zero, Int.reduceEq, Int.reduceLT, Int.reduceLE, Int.reduceToNat, Nat.reduceLT, Nat.reduceSub, rf_int, rf_tuple_ints, toList2, Bool.and_true, Bool.true_and, Bool.and_self, List.getElem?_cons_zero, List.getElem?_cons_succ, nlt1, nlt2, nlt3, nlt4, Nat.le_refl, Int.le_refl, Nat.not_lt_zero, Nat.sub_zero, Nat.zero_mul, cells_agg, cells_agg_size, h1, h2, hyc, e10, h5, storeAt0, u32s_set, hadd]

theorem plus_s1 {ws : List Nat} {n : Nat} (hn : ws.length = n) : splice (u32s (dig 4294967296 (n + 1) 0)) 0 (u32s ws) = u32s (ws ++ [0]) := by
  rw [splice_gen _ _ _ (by rw [u32s_len, u32s_len, dig_len]; omega), u32s_len, hn, dig_zero]
  simp only [List.take_zero, List.nil_append, Nat.zero_add, u32s, List.map_append, List.map_replicate, List.drop_replicate]
  rw [show n + 1 - n = 1 by omega]; rfl
theorem plus_s2 {ws : List Nat} {n : Nat} (hn : ws.length = n) : splice (u32s (ws ++ [0])) n [.int .u32 0] = u32s (ws ++ [0]) := by
  rw [splice_single]
  apply List.ext_getElem?
  intro i
  by_cases hi : i = n
  · subst hi
    rw [List.getElem?_set_self (by rw [u32s_len, List.length_append, hn]; simp), u32s_get (x := 0) (by rw [List.getElem?_append_right (by omega), hn]; simp)]; rfl
  · rw [List.getElem?_set_ne (Ne.symm hi)]
theorem plus_a1 {H : List Ob} {id1 off1 c1 n : Nat} {ws : List Nat} (hr1 : Row .u32 H id1 off1 ws) (hn : ws.length = n) (hn0 : 0 < n) (hN : n < 2 ^ 40) :
    appendV 1 4 (H ++ [⟨u32s (dig 4294967296 (n + 1) 0), true, true, true, 1⟩]) (.slice (some ⟨H.length, 0, none⟩) 0 (n + 1)) (.slice (some ⟨id1, off1, none⟩) n c1) = some (.slice (some ⟨H.length, 0, none⟩) n (n + 1), H ++ [⟨u32s (ws ++ [0]), true, true, true, 1⟩], none, [H.length]) := by
  have h := append_fits (H := H) (r := []) (es := 1) (bytes := 4) (len := 0) (cap := n + 1) (cs := u32s (dig 4294967296 (n + 1) 0)) (x := .slice (some ⟨id1, off1, none⟩) n c1) (n := n) (new := u32s ws) rfl (by rw [← hn]; exact (hr1.app).elems (by omega)) hn0 (by omega) (by omega) (by decide) (by decide) (by rw [u32s_len, u32s_len, dig_len]; omega)
  rw [Nat.zero_mul, plus_s1 hn, Nat.zero_add] at h
  exact h
theorem plus_a2 {H : List Ob} {n : Nat} {ws : List Nat} (hn : ws.length = n) (hN : n < 2 ^ 40) :
    appendV 1 4 (H ++ [⟨u32s (ws ++ [0]), true, true, true, 1⟩, ⟨[.int .u32 0], true, true, true, 1⟩]) (.slice (some ⟨H.length, 0, none⟩) n (n + 1)) (.slice (some ⟨H.length + 1, 0, none⟩) 1 1) = some (.slice (some ⟨H.length, 0, none⟩) (n + 1) (n + 1), H ++ [⟨u32s (ws ++ [0]), true, true, true, 1⟩, ⟨[.int .u32 0], true, true, true, 1⟩], none, [H.length]) := by
  have h := append_fits (H := H) (r := [⟨[.int .u32 0], true, true, true, 1⟩]) (es := 1) (bytes := 4) (len := n) (cap := n + 1) (cs := u32s (ws ++ [0])) (x := .slice (some ⟨H.length + 1, 0, none⟩) 1 1) (n := 1) (new := [.int .u32 0]) rfl (by simp [elemsOf, live1]) (by decide) (by omega) (by omega) (by decide) (by decide) (by rw [u32s_len, List.length_append, hn]; simp)
  rw [Nat.mul_one, plus_s2 hn] at h
  exact h
theorem plus_out {n m A : Nat} {os out : List Nat} {c : Nat} (hinv : PlusInv n (n + 1) A os out c) (hm : os.length = m) (hmn : m ≤ n) (hA : A < 4294967296 ^ n) (hos : ∀ x ∈ os, x < 4294967296) : dig 4294967296 (n + 1) (A + num 4294967296 os) = out := by
    have h1 := hinv.eq
    rw [show os.take (n + 1) = os from List.take_of_length_le (by omega)] at h1
    have h3 := num_lt hos
    rw [hm] at h3
    have h4 : 4294967296 ^ m ≤ 4294967296 ^ n := Nat.pow_le_pow_right (by decide) hmn
    have h5 : c = 0 := by
      have hc := hinv.cle
      rcases Nat.lt_or_ge 0 c with h | h
      · have : c = 1 := by omega
        subst this
        rw [Nat.pow_succ] at h1
        omega
      · omega
    subst h5
    rw [Nat.zero_mul, Nat.add_zero] at h1
    rw [← h1, ← hinv.len, dig_num (by decide) hinv.lt]

theorem plus_loop {H : List Ob} {id1 off1 id2 off2 c2 n m : Nat} {ws os : List Nat} (hr1 : Row .u32 H id1 off1 ws) (hr2 : Row .u32 H id2 off2 os) (hn : ws.length = n) (hm : os.length = m) (hn0 : 0 < n) (hmn : m ≤ n) (hN : n < 2 ^ 40) (hws : ∀ x ∈ ws, x < 4294967296) (hos : ∀ x ∈ os, x < 4294967296) :
    ∃ out c, evCode T H.length (.block 0 (.loop a45_l0)) ⟨[(1, .slice (some ⟨id2, off2, none⟩) m c2), (5, .slice (some ⟨H.length, 0, none⟩) (n + 1) (n + 1)), (6, .int .u32 0), (19, .int .i64 ((n + 1 : Nat) : Int)), (20, .int .i64 0)], H ++ [⟨u32s (ws ++ [0]), true, true, true, 1⟩, ⟨[.int .u32 0], true, true, true, 1⟩], []⟩ = some (.normal, ⟨[(1, .slice (some ⟨id2, off2, none⟩) m c2), (5, .slice (some ⟨H.length, 0, none⟩) (n + 1) (n + 1)), (6, .int .u32 (c : Nat)), (19, .int .i64 ((n + 1 : Nat) : Int)), (20, .int .i64 ((n + 1 : Nat) : Int)), (21, .bool false)], H ++ [⟨u32s out, true, true, true, 1⟩, ⟨[.int .u32 0], true, true, true, 1⟩], []⟩) ∧ PlusInv n (n + 1) (num 4294967296 ws) os out c := by
  have h0 : PlusInv n 0 (num 4294967296 ws) os (ws ++ [0]) 0 := ⟨by simp [hn], fun x hx => by
    rcases List.mem_append.1 hx with h | h
    · exact hws x h
    · simp at h; omega, by decide, by rw [num_append]; simp [num]⟩
  obtain ⟨s', hb, out, c, rfl, hinv⟩ := block_inv (T := T) (base := H.length) (id := 0) (body := a45_l0)
    (fun i s => ∃ out c, s = plusI H (.slice (some ⟨id2, off2, none⟩) m c2) n i c out ∧ PlusInv n i (num 4294967296 ws) os out c)
    (Q := fun s => ∃ out c, s = ⟨[(1, .slice (some ⟨id2, off2, none⟩) m c2), (5, .slice (some ⟨H.length, 0, none⟩) (n + 1) (n + 1)), (6, .int .u32 (c : Nat)), (19, .int .i64 ((n + 1 : Nat) : Int)), (20, .int .i64 ((n + 1 : Nat) : Int)), (21, .bool false)], H ++ [⟨u32s out, true, true, true, 1⟩, ⟨[.int .u32 0], true, true, true, 1⟩], []⟩ ∧ PlusInv n (n + 1) (num 4294967296 ws) os out c)
    (n + 1) ⟨_, _, rfl, h0⟩
    (fun i s hi hs => by
      obtain ⟨out, c, rfl, hI⟩ := hs
      obtain ⟨y, hy⟩ : ∃ y, out[i]? = some y := ⟨_, List.getElem?_eq_getElem (by rw [hI.len]; omega)⟩
      exact ⟨_, plus_body hr2 hm hN (by omega) hi hos hI.len hy (hI.lt y (List.mem_of_getElem? hy)) hI.cle, _, _, rfl, hI.step hos hy⟩)
    (fun s hs => by
      obtain ⟨out, c, rfl, hI⟩ := hs
      have h1 : ¬ (((n + 1 : Nat) : Int) < ((n + 1 : Nat) : Int)) := by omega
      refine ⟨_, ?_, out, c, rfl, hI⟩
      simp only [plusI, a45_l0, envOf, evCode_skip, evCode_exit, evCode_seq, evCode_region, evCode_cond, evCode_block, evCode_ret, evOps_cons, evOps_nil, guardOf, simpleOp, opd, opds, opdOpt, opdParts, Env.get, Env.put, pureV, Option.bind_some, List.nil_append, List.cons_append, inMerge, pairsOk, List.all_nil, List.all_cons, St.after, Env.keep, if_true, if_false, ite_true, ite_false, binV, intBin, unV, shiftOp, resultOf, packed, reduceCtorEq, Option.isNone_none, Option.isSome_none, Bool.false_eq_true, Nat.reduceAdd, Nat.reduceEqDiff, Nat.reduceMul, Nat.zero_add, List.length_cons, List.length_nil, beq_self_eq_true, Bool.not_true, Bool.not_false, evOper_move, evOper_pick, evOper_alloc, evOper_box, evOper_load, evOper_store, evOper_bin, evOper_eqv, evOper_isNil, evOper_un, evOper_conv, evOper_convStr, evOper_s2b, evOper_b2s, evOper_field, evOper_index, evOper_indexStr, evOper_build, evOper_buildSlice, evOper_fieldAddr, evOper_indexAddr, evOper_indexSl, evOper_sliceArr, evOper_sliceSl, evOper_sliceStr, evOper_makeSlice, evOper_extract, evOper_mkIface, evOper_mkFunc, evOper_nilCheck, evOper_s2ap, evOper_append, evOper_copy, evOper_len, evOper_minmax, evOper_call, evOper_callVal, Ob.fresh, live0, live1, live2, Int.natCast_nonneg, and_self, true_and, and_true, Int.toNat_natCast, Nat.mul_one, addr_add, partL, cells_int, cells_int_size, okVar, splice_single, Nat.lt_irrefl, false_and, decide_true, decide_false, Nat.add_zero, Int.reduceEq, Int.reduceLT, Int.reduceLE, Int.reduceToNat, Nat.reduceLT, Nat.reduceSub, rf_int, rf_tuple_ints, toList2, Bool.and_true, Bool.true_and, Bool.and_self, List.getElem?_cons_zero, List.getElem?_cons_succ, nlt1, nlt2, nlt3, nlt4, Nat.le_refl, Int.le_refl, Nat.not_lt_zero, Nat.sub_zero, Nat.zero_mul, cells_agg, cells_agg_size, h1])
  rw [show plusI H (.slice (some ⟨id2, off2, none⟩) m c2) n 0 0 (ws ++ [0]) = ⟨[(1, .slice (some ⟨id2, off2, none⟩) m c2), (5, .slice (some ⟨H.length, 0, none⟩) (n + 1) (n + 1)), (6, .int .u32 0), (19, .int .i64 ((n + 1 : Nat) : Int)), (20, .int .i64 0)], H ++ [⟨u32s (ws ++ [0]), true, true, true, 1⟩, ⟨[.int .u32 0], true, true, true, 1⟩], []⟩ from rfl] at hb
  exact ⟨out, c, hb, hinv⟩

theorem cap_ok {k : Nat} (h : k < 2 ^ 41) : ((k : Nat) : Int) * ((4 : Nat) : Int) ≤ 2 ^ 47 := by omega

theorem plus_fin {H : List Ob} {k n m c : Nat} {id1 off1 c1 id2 off2 c2 : Nat} {ws out : List Nat} (e1 : IntKind.i64.wrap ((n : Int) + 1) = ((k : Nat) : Int)) (h1 : ((k : Nat) : Int) * ((4 : Nat) : Int) ≤ 2 ^ 47)
    (ha1 : appendV 1 4 (H ++ [⟨u32s (dig 4294967296 k 0), true, true, true, 1⟩]) (.slice (some ⟨H.length, 0, none⟩) 0 k) (.slice (some ⟨id1, off1, none⟩) n c1) = some (.slice (some ⟨H.length, 0, none⟩) n k, H ++ [⟨u32s (ws ++ [0]), true, true, true, 1⟩], none, [H.length]))
    (ha2 : appendV 1 4 (H ++ [⟨u32s (ws ++ [0]), true, true, true, 1⟩, ⟨[.int .u32 0], true, true, true, 1⟩]) (.slice (some ⟨H.length, 0, none⟩) n k) (.slice (some ⟨H.length + 1, 0, none⟩) 1 1) = some (.slice (some ⟨H.length, 0, none⟩) k k, H ++ [⟨u32s (ws ++ [0]), true, true, true, 1⟩, ⟨[.int .u32 0], true, true, true, 1⟩], none, [H.length]))
    (hb : evCode T H.length (.block 0 (.loop a45_l0)) ⟨[(1, .slice (some ⟨id2, off2, none⟩) m c2), (5, .slice (some ⟨H.length, 0, none⟩) (k) (k)), (6, .int .u32 0), (19, .int .i64 ((k : Nat) : Int)), (20, .int .i64 0)], H ++ [⟨u32s (ws ++ [0]), true, true, true, 1⟩, ⟨[.int .u32 0], true, true, true, 1⟩], []⟩ = some (.normal, ⟨[(1, .slice (some ⟨id2, off2, none⟩) m c2), (5, .slice (some ⟨H.length, 0, none⟩) (k) (k)), (6, .int .u32 (c : Nat)), (19, .int .i64 ((k : Nat) : Int)), (20, .int .i64 ((k : Nat) : Int)), (21, .bool false)], H ++ [⟨u32s out, true, true, true, 1⟩, ⟨[.int .u32 0], true, true, true, 1⟩], []⟩)) :
    evFun T 45 [.slice (some ⟨id1, off1, none⟩) n c1, .slice (some ⟨id2, off2, none⟩) m c2] H = some (.slice (some ⟨H.length, 0, none⟩) k k, H ++ [⟨u32s out, true, true, true, 1⟩, ⟨[.int .u32 0], true, true, true, 1⟩], []) := by
  have h2 : (0 : Nat) < 4 := by decide
  have hfill : fillL [Value.int .u32 0] [(0, 1, .int .u32 0)] = some [.int .u32 0] := rfl
  rw [evFun_fn (fn := a45) rfl]
  simp only [a45, envOf, evCode_skip, evCode_exit, evCode_seq, evCode_region, evCode_cond, evCode_block, evCode_ret, evOps_cons, evOps_nil, guardOf, simpleOp, opd, opds, opdOpt, opdParts, Env.get, Env.put, pureV, Option.bind_some, List.nil_append, List.cons_append, inMerge, pairsOk, List.all_nil, List.all_cons, St.after, Env.keep, if_true, if_false, ite_true, ite_false, binV, intBin, unV, shiftOp, resultOf, packed, reduceCtorEq, Option.isNone_none, Option.isSome_none, Bool.false_eq_true, Nat.reduceAdd, Nat.reduceEqDiff, Nat.reduceMul, Nat.zero_add, List.length_cons, List.length_nil, beq_self_eq_true, Bool.not_true, Bool.not_false, evOper_move, evOper_pick, evOper_alloc, evOper_box, evOper_load, evOper_store, evOper_bin, evOper_eqv, evOper_isNil, evOper_un, evOper_conv, evOper_convStr, evOper_s2b, evOper_b2s, evOper_field, evOper_index, evOper_indexStr, evOper_build, evOper_buildSlice, evOper_fieldAddr, evOper_indexAddr, evOper_indexSl, evOper_sliceArr, evOper_sliceSl, evOper_sliceStr, evOper_makeSlice, evOper_extract, evOper_mkIface, evOper_mkFunc, evOper_nilCheck, evOper_s2ap, evOper_append, evOper_copy, evOper_len, evOper_minmax, evOper_call, evOper_callVal, Ob.fresh, live0, live1, live2, Int.natCast_nonneg, and_self, true_and, and_true, Int.toNat_natCast, Nat.mul_one, addr_add, partL, cells_int, cells_int_size, okVar, splice_single, Nat.lt_irrefl, false_and, decide_true, decide_false, Nat.add_zero, Int.reduceEq, Int.reduceLT, Int.reduceLE, Int.reduceToNat, Nat.reduceLT, Nat.reduceSub, rf_int, rf_tuple_ints, toList2, Bool.and_true, Bool.true_and, Bool.and_self, List.getElem?_cons_zero, List.getElem?_cons_succ, nlt1, nlt2, nlt3, nlt4, Nat.le_refl, Int.le_refl, Nat.not_lt_zero, Nat.sub_zero, Nat.zero_mul, cells_agg, cells_agg_size, e1, h1, h2, Int.le_refl, flat_one, u32s_zero, hfill, List.length_append, List.append_assoc, ha1, ha2, hb]

theorem plus_ev {H : List Ob} {id1 off1 c1 id2 off2 c2 n m : Nat} {ws os : List Nat} (hr1 : Row .u32 H id1 off1 ws) (hr2 : Row .u32 H id2 off2 os) (hn : ws.length = n) (hm : os.length = m) (hn0 : 0 < n) (hmn : m ≤ n) (hN : n < 2 ^ 40) (hws : ∀ x ∈ ws, x < 4294967296) (hos : ∀ x ∈ os, x < 4294967296) :
    evFun T 45 [.slice (some ⟨id1, off1, none⟩) n c1, .slice (some ⟨id2, off2, none⟩) m c2] H = some (.slice (some ⟨H.length, 0, none⟩) (n + 1) (n + 1), H ++ [⟨u32s (dig 4294967296 (n + 1) (num 4294967296 ws + num 4294967296 os)), true, true, true, 1⟩, ⟨[.int .u32 0], true, true, true, 1⟩], []) := by
  obtain ⟨out, c, hb, hinv⟩ := plus_loop (c2 := c2) hr1 hr2 hn hm hn0 hmn hN hws hos
  have hout := plus_out hinv hm hmn (by rw [← hn]; exact num_lt hws) hos
  rw [hout]
  exact plus_fin (wrap_nat (n := n + 1) (by omega)) (cap_ok (by omega)) (plus_a1 hr1 hn hn0 hN) (plus_a2 hn hN) hb
end Go.Ev.Ytaceeoghjgggjaa

/-
  scalar.mod: its two inner loops.
-/
set_option linter.unusedSimpArgs false
set_option linter.unusedVariables false
namespace Go.Ev.Ytaceeoghjgggjaa
open Go Go.Ev
attribute [local congr] bind_congr1
set_option maxRecDepth 100000

/-- 2^252 + .. : the order. -/
def ell : Nat := 7237005577332262213973186563042994240857116359379907606001950938285454250989
theorem ell_num : num 4294967296 orderW = ell := by decide
theorem order_lt : ∀ x ∈ orderW, x < 4294967296 := by decide

structure ShInv (k c0 : Nat) (r0 r : List Nat) (c : Nat) : Prop where
  len : r.length = 8
  lt : ∀ x ∈ r, x < 4294967296
  cle : c ≤ 1
  eq : num 4294967296 r + c * 4294967296 ^ k = num 4294967296 r0 + num 4294967296 (r0.take k) + c0
  rest : ∀ j, k ≤ j → r[j]? = r0[j]?

theorem ShInv.step {k c0 c x : Nat} {r0 r : List Nat} (h : ShInv k c0 r0 r c) (hx : r[k]? = some x) : ShInv (k + 1) c0 r0 (r.set k ((2 * x + c) % 4294967296)) (x / 2147483648) := by
  have hx' : x < 4294967296 := h.lt x (List.mem_of_getElem? hx)
  have hc := h.cle
  refine ⟨by rw [List.length_set]; exact h.len, set_lt h.lt (Nat.mod_lt _ (by decide)), by omega, ?_, ?_⟩
  · have h1 := num_set (B := 4294967296) ((2 * x + c) % 4294967296) hx
    have h2 := h.eq
    rw [num_take (by rw [← h.rest k (Nat.le_refl _)]; exact hx)]
    have h3 : 4294967296 * (x / 2147483648) + (2 * x + c) % 4294967296 = 2 * x + c := by omega
    generalize (2 * x + c) % 4294967296 = y at *
    generalize x / 2147483648 = q at *
    have e2 : q * 4294967296 ^ (k + 1) = 4294967296 * q * 4294967296 ^ k := by
      rw [Nat.pow_succ]; simp only [Nat.mul_assoc, Nat.mul_left_comm, Nat.mul_comm]
    have e3 : (4294967296 * q + y) * 4294967296 ^ k = (2 * x + c) * 4294967296 ^ k := by rw [h3]
    rw [Nat.add_mul, Nat.add_mul, Nat.mul_assoc 2] at e3
    rw [e2]
    omega
  · intro j hj
    rw [List.getElem?_set_ne (by omega)]
    exact h.rest j (by omega)

structure SbInv (k : Nat) (r nx : List Nat) (b : Nat) : Prop where
  len : nx.length = 8
  lt : ∀ x ∈ nx, x < 4294967296
  ble : b ≤ 1
  eq : num 4294967296 (r.take k) + b * 4294967296 ^ k = num 4294967296 (orderW.take k) + num 4294967296 (nx.take k)

theorem take_set_self {l : List Nat} {k y : Nat} : (l.set k y).take k = l.take k := by
  apply List.ext_getElem?
  intro i
  rw [List.getElem?_take, List.getElem?_take]
  by_cases h : i < k
  · rw [if_pos h, if_pos h, List.getElem?_set_ne (by omega)]
  · rw [if_neg h, if_neg h]

theorem SbInv.step {k b x l : Nat} {r nx : List Nat} (h : SbInv k r nx b) (hr : ∀ x ∈ r, x < 4294967296) (hk : k < 8) (hx : r[k]? = some x) (hl : orderW[k]? = some l) : SbInv (k + 1) r (nx.set k (subD x l b)) (subB x l b) := by
  have hx' : x < 4294967296 := hr x (List.mem_of_getElem? hx)
  have hl' : l < 4294967296 := order_lt l (List.mem_of_getElem? hl)
  have hb := h.ble
  have hd : subD x l b < 4294967296 ∧ x + 4294967296 * subB x l b = l + b + subD x l b ∧ subB x l b ≤ 1 := by
    unfold subD subB; split <;> omega
  refine ⟨by rw [List.length_set]; exact h.len, set_lt h.lt hd.1, hd.2.2, ?_⟩
  have h2 := h.eq
  have hy : (nx.set k (subD x l b))[k]? = some (subD x l b) := List.getElem?_set_self (by rw [h.len]; exact hk)
  rw [num_take hx, num_take hl, num_take hy, take_set_self]
  have h3 := hd.2.1
  generalize subD x l b = d at *
  generalize subB x l b = q at *
  have e2 : q * 4294967296 ^ (k + 1) = 4294967296 * q * 4294967296 ^ k := by
    rw [Nat.pow_succ]; simp only [Nat.mul_assoc, Nat.mul_left_comm, Nat.mul_comm]
  have e3 : (x + 4294967296 * q) * 4294967296 ^ k = (l + b + d) * 4294967296 ^ k := by rw [h3]
  rw [Nat.add_mul, Nat.add_mul, Nat.add_mul] at e3
  rw [e2]
  omega

theorem sh_body0 {H : List Ob} {s v : Value} {k c x : Nat} {r nx : List Nat} (hk : k < 8) (hl : r.length = 8) (hx : r[k]? = some x) (hx' : x < 4294967296) (hc : c ≤ 1) :
    evCode T H.length a41_l1 (⟨[(0, s), (3, (.slice (some ⟨H.length, 0, none⟩) 8 8)), (4, (.slice (some ⟨H.length + 1, 0, none⟩) 8 8)), (5, (.slice (some ⟨(H.length + 2), 0, none⟩) 8 8)), (6, v), (7, .int .u32 ((c : Nat))), (32, .int .i64 8), (33, .int .i64 ((k : Nat)))], H ++ [⟨u32s (r), true, true, true, 1⟩, ⟨u32s orderW, true, true, true, 1⟩, ⟨u32s (nx), true, true, true, 1⟩], []⟩ : St) = some (.normal, (⟨[(0, s), (3, (.slice (some ⟨H.length, 0, none⟩) 8 8)), (4, (.slice (some ⟨H.length + 1, 0, none⟩) 8 8)), (5, (.slice (some ⟨(H.length + 2), 0, none⟩) 8 8)), (6, v), (7, .int .u32 (((x / 2147483648 : Nat) : Int))), (32, .int .i64 8), (33, .int .i64 (((k + 1 : Nat) : Int)))], H ++ [⟨u32s (r.set k ((2 * x + c) % 4294967296)), true, true, true, 1⟩, ⟨u32s orderW, true, true, true, 1⟩, ⟨u32s (nx), true, true, true, 1⟩], []⟩ : St)) := by
  have hxc := u32s_get hx
  have h1 : ((k : Int) < (8 : Int)) := by omega
  have h1' : ((k : Int) < ((8 : Nat) : Int)) := by omega
  have e1 : IntKind.u32.wrap ((x : Int) * 2 ^ min 1 IntKind.u32.bits) = ((2 * x % 4294967296 : Nat) : Int) := by
    rw [wrap_u32, show min 1 IntKind.u32.bits = 1 from rfl]; omega
  have e2 : bitsOp .or .u32 ((2 * x % 4294967296 : Nat) : Int) (c : Int) = (((2 * x + c) % 4294967296 : Nat) : Int) := by
    rw [bits_or (k := .u32) (a := 2 * x % 4294967296) (b := c) rfl (Nat.mod_lt _ (by decide)) (by show c < 2 ^ 32; omega)]
    congr 1
    have h2 : 2 * x % 4294967296 = 2 ^ 1 * (x % 2147483648) := by omega
    rw [h2, ← Nat.two_pow_add_eq_or_of_lt (by omega : c < 2 ^ 1)]
    omega
  have e3 : Int.fdiv (x : Int) (2 ^ min 31 IntKind.u32.bits) = ((x / 2147483648 : Nat) : Int) := by
    rw [Int.fdiv_eq_ediv_of_nonneg _ (by decide)]; rfl
  have e10 : IntKind.i64.wrap ((k : Int) + 1) = ((k + 1 : Nat) : Int) := wrap_nat (n := k + 1) (by omega)
  have h5 : k + 1 ≤ (u32s r).length := by rw [u32s_len, hl]; omega
  simp only [a41_l1, envOf, evCode_skip, evCode_exit, evCode_seq, evCode_region, evCode_cond, evCode_block, evCode_ret, evOps_cons, evOps_nil, guardOf, simpleOp, opd, opds, opdOpt, opdParts, Env.get, Env.put, pureV, Option.bind_some, List.nil_append, List.cons_append, inMerge, pairsOk, List.all_nil, List.all_cons, St.after, Env.keep, if_true, if_false, ite_true, ite_false, binV, intBin, unV, shiftOp, resultOf, packed, reduceCtorEq, Option.isNone_none, Option.isSome_none, Bool.false_eq_true, Nat.reduceAdd, Nat.reduceEqDiff, Nat.reduceMul, Nat.zero_add, List.length_cons, List.length_nil, beq_self_eq_true, Bool.not_true, Bool.not_false, evOper_move, evOper_pick, evOper_alloc, evOper_box, evOper_load, evOper_store, evOper_bin, evOper_eqv, evOper_isNil, evOper_un, evOper_conv, evOper_convStr, evOper_s2b, evOper_b2s, evOper_field, evOper_index, evOper_indexStr, evOper_build, evOper_buildSlice, evOper_fieldAddr, evOper_indexAddr, evOper_indexSl, evOper_sliceArr, evOper_sliceSl, evOper_sliceStr, evOper_makeSlice, evOper_extract, evOper_mkIface, evOper_mkFunc, evOper_nilCheck, evOper_s2ap, evOper_append, evOper_copy, evOper_len, evOper_minmax, evOper_call, evOper_callVal, Ob.fresh, live0, live1, live2, Int.natCast_nonneg, and_self, true_and, and_true, Int.toNat_natCast, Nat.mul_one, addr_add, partL, cells_int, cells_int_size, okVar, splice_single, Nat.lt_irrefl, false_and, decide_true, decide_false, Nat.add_zero, Int.reduceEq, Int.reduceLT, Int.reduceLE, Int.reduceToNat, Nat.reduceLT, Nat.reduceSub, rf_int, rf_tuple_ints, toList2, Bool.and_true, Bool.true_and, Bool.and_self, List.getElem?_cons_zero, List.getElem?_cons_succ, nlt1, nlt2, nlt3, nlt4, Nat.le_refl, Int.le_refl, Nat.not_lt_zero, Nat.sub_zero, Nat.zero_mul, cells_agg, cells_agg_size, h1, h1', hxc, e1, e2, e3, e10, h5, storeAt0, u32s_set]

theorem sb_body0 {H : List Ob} {s v : Value} {k b x l : Nat} {r nx : List Nat} (hk : k < 8) (hl : nx.length = 8) (hx : r[k]? = some x) (hx' : x < 4294967296) (ho : orderW[k]? = some l) (hb : b ≤ 1) :
    evCode T H.length a41_l0 (⟨[(0, s), (3, (.slice (some ⟨H.length, 0, none⟩) 8 8)), (4, (.slice (some ⟨H.length + 1, 0, none⟩) 8 8)), (5, (.slice (some ⟨(H.length + 2), 0, none⟩) 8 8)), (6, v), (9, .int .u32 ((b : Nat))), (53, .int .i64 8), (54, .int .i64 ((k : Nat)))], H ++ [⟨u32s (r), true, true, true, 1⟩, ⟨u32s orderW, true, true, true, 1⟩, ⟨u32s (nx), true, true, true, 1⟩], []⟩ : St) = some (.normal, (⟨[(0, s), (3, (.slice (some ⟨H.length, 0, none⟩) 8 8)), (4, (.slice (some ⟨H.length + 1, 0, none⟩) 8 8)), (5, (.slice (some ⟨(H.length + 2), 0, none⟩) 8 8)), (6, v), (9, .int .u32 (((subB x l b : Nat) : Int))), (53, .int .i64 8), (54, .int .i64 (((k + 1 : Nat) : Int)))], H ++ [⟨u32s (r), true, true, true, 1⟩, ⟨u32s orderW, true, true, true, 1⟩, ⟨u32s (nx.set k (subD x l b)), true, true, true, 1⟩], []⟩ : St)) := by
  have hxc := u32s_get hx
  have hlc := u32s_get ho
  have h1 : ((k : Int) < (8 : Int)) := by omega
  have h1' : ((k : Int) < ((8 : Nat) : Int)) := by omega
  have hsub := sub32_ev hx' (order_lt l (List.mem_of_getElem? ho)) hb
  have e10 : IntKind.i64.wrap ((k : Int) + 1) = ((k + 1 : Nat) : Int) := wrap_nat (n := k + 1) (by omega)
  have h5 : k + 1 ≤ (u32s nx).length := by rw [u32s_len, hl]; omega
  simp only [a41_l0, envOf, evCode_skip, evCode_exit, evCode_seq, evCode_region, evCode_cond, evCode_block, evCode_ret, evOps_cons, evOps_nil, guardOf, simpleOp, opd, opds, opdOpt, opdParts, Env.get, Env.put, pureV, Option.bind_some, List.nil_append, List.cons_append, inMerge, pairsOk, List.all_nil, List.all_cons, St.after, Env.keep, if_true, if_false, ite_true, ite_false, binV, intBin, unV, shiftOp, resultOf, packed, reduceCtorEq, Option.isNone_none, Option.isSome_none, Bool.false_eq_true, Nat.reduceAdd, Nat.reduceEqDiff, Nat.reduceMul, Nat.zero_add, List.length_cons, List.length_nil, beq_self_eq_true, Bool.not_true, Bool.not_false, evOper_move, evOper_pick, evOper_alloc, evOper_box, evOper_load, evOper_store, evOper_bin, evOper_eqv, evOper_isNil, evOper_un, evOper_conv, evOper_convStr, evOper_s2b, evOper_b2s, evOper_field, evOper_index, evOper_indexStr, evOper_build, evOper_buildSlice, evOper_fieldAddr, evOper_indexAddr, evOper_indexSl, evOper_sliceArr, evOper_sliceSl, evOper_sliceStr, evOper_makeSlice, evOper_extract, evOper_mkIface, evOper_mkFunc, evOper_nilCheck, evOper_s2ap, evOper_append, evOper_copy, evOper_len, evOper_minmax, evOper_call, evOper_callVal, Ob.fresh, live0, live1, live2, Int.natCast_nonneg, and_self, true_and, and_true, Int.toNat_natCast, Nat.mul_one, addr_add, partL, cells_int, cells_int_size, okVar, splice_single, Nat.lt_irrefl, false_and, decide_true, decide_false, Nat.add_zero, Int.reduceEq, Int.reduceLT, Int.reduceLE, Int.reduceToNat, Nat.reduceLT, Nat.reduceSub, rf_int, rf_tuple_ints, toList2, Bool.and_true, Bool.true_and, Bool.and_self, List.getElem?_cons_zero, List.getElem?_cons_succ, nlt1, nlt2, nlt3, nlt4, Nat.le_refl, Int.le_refl, Nat.not_lt_zero, Nat.sub_zero, Nat.zero_mul, cells_agg, cells_agg_size, h1, h1', hxc, hlc, hsub, e10, h5, storeAt2, u32s_set]

theorem sh_loop0 {H : List Ob} {s v : Value} {c : Nat} {r nx : List Nat} (hl : r.length = 8) (hr : ∀ x ∈ r, x < 4294967296) (hc : c ≤ 1) :
    ∃ r' c', evCode T H.length (.block 2 (.loop a41_l1)) (⟨[(0, s), (3, (.slice (some ⟨H.length, 0, none⟩) 8 8)), (4, (.slice (some ⟨H.length + 1, 0, none⟩) 8 8)), (5, (.slice (some ⟨(H.length + 2), 0, none⟩) 8 8)), (6, v), (7, .int .u32 ((c : Nat))), (32, .int .i64 8), (33, .int .i64 (0))], H ++ [⟨u32s (r), true, true, true, 1⟩, ⟨u32s orderW, true, true, true, 1⟩, ⟨u32s (nx), true, true, true, 1⟩], []⟩ : St) = some (.normal, (⟨[(0, s), (3, (.slice (some ⟨H.length, 0, none⟩) 8 8)), (4, (.slice (some ⟨H.length + 1, 0, none⟩) 8 8)), (5, (.slice (some ⟨(H.length + 2), 0, none⟩) 8 8)), (6, v), (7, .int .u32 ((c' : Nat))), (32, .int .i64 8), (33, .int .i64 (8)), (34, .bool false)], H ++ [⟨u32s (r'), true, true, true, 1⟩, ⟨u32s orderW, true, true, true, 1⟩, ⟨u32s (nx), true, true, true, 1⟩], []⟩ : St)) ∧ ShInv 8 c r r' c' := by
  obtain ⟨s', hb, r', c', rfl, hinv⟩ := block_inv (T := T) (base := H.length) (id := 2) (body := a41_l1)
    (fun k s1 => ∃ r' c', s1 = (⟨[(0, s), (3, (.slice (some ⟨H.length, 0, none⟩) 8 8)), (4, (.slice (some ⟨H.length + 1, 0, none⟩) 8 8)), (5, (.slice (some ⟨(H.length + 2), 0, none⟩) 8 8)), (6, v), (7, .int .u32 ((c' : Nat))), (32, .int .i64 8), (33, .int .i64 ((k : Nat)))], H ++ [⟨u32s (r'), true, true, true, 1⟩, ⟨u32s orderW, true, true, true, 1⟩, ⟨u32s (nx), true, true, true, 1⟩], []⟩ : St) ∧ ShInv k c r r' c')
    (Q := fun s1 => ∃ r' c', s1 = (⟨[(0, s), (3, (.slice (some ⟨H.length, 0, none⟩) 8 8)), (4, (.slice (some ⟨H.length + 1, 0, none⟩) 8 8)), (5, (.slice (some ⟨(H.length + 2), 0, none⟩) 8 8)), (6, v), (7, .int .u32 ((c' : Nat))), (32, .int .i64 8), (33, .int .i64 (8)), (34, .bool false)], H ++ [⟨u32s (r'), true, true, true, 1⟩, ⟨u32s orderW, true, true, true, 1⟩, ⟨u32s (nx), true, true, true, 1⟩], []⟩ : St) ∧ ShInv 8 c r r' c')
    8 (s := (⟨[(0, s), (3, (.slice (some ⟨H.length, 0, none⟩) 8 8)), (4, (.slice (some ⟨H.length + 1, 0, none⟩) 8 8)), (5, (.slice (some ⟨(H.length + 2), 0, none⟩) 8 8)), (6, v), (7, .int .u32 ((c : Nat))), (32, .int .i64 8), (33, .int .i64 (((0 : Nat) : Int)))], H ++ [⟨u32s (r), true, true, true, 1⟩, ⟨u32s orderW, true, true, true, 1⟩, ⟨u32s (nx), true, true, true, 1⟩], []⟩ : St)) ⟨_, _, rfl, ⟨hl, hr, hc, by simp [num], fun _ _ => rfl⟩⟩
    (fun k s1 hk hs => by
      obtain ⟨r', c', rfl, hI⟩ := hs
      obtain ⟨x, hx⟩ : ∃ x, r'[k]? = some x := ⟨_, List.getElem?_eq_getElem (by rw [hI.len]; omega)⟩
      exact ⟨_, sh_body0 hk hI.len hx (hI.lt x (List.mem_of_getElem? hx)) hI.cle, _, _, rfl, hI.step hx⟩)
    (fun s1 hs => by
      obtain ⟨r', c', rfl, hI⟩ := hs
      have h1 : ¬ (((8 : Nat) : Int) < (8 : Int)) := by omega
      refine ⟨_, ?_, r', c', rfl, hI⟩
      simp only [a41_l1, envOf, evCode_skip, evCode_exit, evCode_seq, evCode_region, evCode_cond, evCode_block, evCode_ret, evOps_cons, evOps_nil, guardOf, simpleOp, opd, opds, opdOpt, opdParts, Env.get, Env.put, pureV, Option.bind_some, List.nil_append, List.cons_append, inMerge, pairsOk, List.all_nil, List.all_cons, St.after, Env.keep, if_true, if_false, ite_true, ite_false, binV, intBin, unV, shiftOp, resultOf, packed, reduceCtorEq, Option.isNone_none, Option.isSome_none, Bool.false_eq_true, Nat.reduceAdd, Nat.reduceEqDiff, Nat.reduceMul, Nat.zero_add, List.length_cons, List.length_nil, beq_self_eq_true, Bool.not_true, Bool.not_false, evOper_move, evOper_pick, evOper_alloc, evOper_box, evOper_load, evOper_store, evOper_bin, evOper_eqv, evOper_isNil, evOper_un, evOper_conv, evOper_convStr, evOper_s2b, evOper_b2s, evOper_field, evOper_index, evOper_indexStr, evOper_build, evOper_buildSlice, evOper_fieldAddr, evOper_indexAddr, evOper_indexSl, evOper_sliceArr, evOper_sliceSl, evOper_sliceStr, evOper_makeSlice, evOper_extract, evOper_mkIface, evOper_mkFunc, evOper_nilCheck, evOper_s2ap, evOper_append, evOper_copy, evOper_len, evOper_minmax, evOper_call, evOper_callVal, Ob.fresh, live0, live1, live2, Int.natCast_nonneg, and_self, true_and, and_true, Int.toNat_natCast, Nat.mul_one, addr_add, partL, cells_int, cells_int_size, okVar, splice_single, Nat.lt_irrefl, false_and, decide_true, decide_false, Nat.add_zero, Int.reduceEq, Int.reduceLT, Int.reduceLE, Int.reduceToNat, Nat.reduceLT, Nat.reduceSub, rf_int, rf_tuple_ints, toList2, Bool.and_true, Bool.true_and, Bool.and_self, List.getElem?_cons_zero, List.getElem?_cons_succ, nlt1, nlt2, nlt3, nlt4, Nat.le_refl, Int.le_refl, Nat.not_lt_zero, Nat.sub_zero, Nat.zero_mul, cells_agg, cells_agg_size, h1]
      rfl)
  exact ⟨r', c', hb, hinv⟩

theorem sb_loop0 {H : List Ob} {s v : Value} {r nx : List Nat} (hl : r.length = 8) (hr : ∀ x ∈ r, x < 4294967296) (hl2 : nx.length = 8) (hr2 : ∀ x ∈ nx, x < 4294967296) :
    ∃ nx' b, evCode T H.length (.block 4 (.loop a41_l0)) (⟨[(0, s), (3, (.slice (some ⟨H.length, 0, none⟩) 8 8)), (4, (.slice (some ⟨H.length + 1, 0, none⟩) 8 8)), (5, (.slice (some ⟨(H.length + 2), 0, none⟩) 8 8)), (6, v), (9, .int .u32 (0)), (53, .int .i64 8), (54, .int .i64 (0))], H ++ [⟨u32s (r), true, true, true, 1⟩, ⟨u32s orderW, true, true, true, 1⟩, ⟨u32s (nx), true, true, true, 1⟩], []⟩ : St) = some (.normal, (⟨[(0, s), (3, (.slice (some ⟨H.length, 0, none⟩) 8 8)), (4, (.slice (some ⟨H.length + 1, 0, none⟩) 8 8)), (5, (.slice (some ⟨(H.length + 2), 0, none⟩) 8 8)), (6, v), (9, .int .u32 ((b : Nat))), (53, .int .i64 8), (54, .int .i64 (8)), (55, .bool false)], H ++ [⟨u32s (r), true, true, true, 1⟩, ⟨u32s orderW, true, true, true, 1⟩, ⟨u32s (nx'), true, true, true, 1⟩], []⟩ : St)) ∧ SbInv 8 r nx' b := by
  obtain ⟨s', hb, nx', b, rfl, hinv⟩ := block_inv (T := T) (base := H.length) (id := 4) (body := a41_l0)
    (fun k s1 => ∃ nx' b, s1 = (⟨[(0, s), (3, (.slice (some ⟨H.length, 0, none⟩) 8 8)), (4, (.slice (some ⟨H.length + 1, 0, none⟩) 8 8)), (5, (.slice (some ⟨(H.length + 2), 0, none⟩) 8 8)), (6, v), (9, .int .u32 ((b : Nat))), (53, .int .i64 8), (54, .int .i64 ((k : Nat)))], H ++ [⟨u32s (r), true, true, true, 1⟩, ⟨u32s orderW, true, true, true, 1⟩, ⟨u32s (nx'), true, true, true, 1⟩], []⟩ : St) ∧ SbInv k r nx' b)
    (Q := fun s1 => ∃ nx' b, s1 = (⟨[(0, s), (3, (.slice (some ⟨H.length, 0, none⟩) 8 8)), (4, (.slice (some ⟨H.length + 1, 0, none⟩) 8 8)), (5, (.slice (some ⟨(H.length + 2), 0, none⟩) 8 8)), (6, v), (9, .int .u32 ((b : Nat))), (53, .int .i64 8), (54, .int .i64 (8)), (55, .bool false)], H ++ [⟨u32s (r), true, true, true, 1⟩, ⟨u32s orderW, true, true, true, 1⟩, ⟨u32s (nx'), true, true, true, 1⟩], []⟩ : St) ∧ SbInv 8 r nx' b)
    8 (s := (⟨[(0, s), (3, (.slice (some ⟨H.length, 0, none⟩) 8 8)), (4, (.slice (some ⟨H.length + 1, 0, none⟩) 8 8)), (5, (.slice (some ⟨(H.length + 2), 0, none⟩) 8 8)), (6, v), (9, .int .u32 (((0 : Nat) : Int))), (53, .int .i64 8), (54, .int .i64 (((0 : Nat) : Int)))], H ++ [⟨u32s (r), true, true, true, 1⟩, ⟨u32s orderW, true, true, true, 1⟩, ⟨u32s (nx), true, true, true, 1⟩], []⟩ : St)) ⟨_, _, rfl, ⟨hl2, hr2, by decide, by simp [num]⟩⟩
    (fun k s1 hk hs => by
      obtain ⟨nx', b, rfl, hI⟩ := hs
      obtain ⟨x, hx⟩ : ∃ x, r[k]? = some x := ⟨_, List.getElem?_eq_getElem (by omega)⟩
      obtain ⟨l, hlk⟩ : ∃ l, orderW[k]? = some l := ⟨_, List.getElem?_eq_getElem (show k < orderW.length from hk)⟩
      exact ⟨_, sb_body0 hk hI.len hx (hr x (List.mem_of_getElem? hx)) hlk hI.ble, _, _, rfl, hI.step hr hk hx hlk⟩)
    (fun s1 hs => by
      obtain ⟨nx', b, rfl, hI⟩ := hs
      have h1 : ¬ (((8 : Nat) : Int) < (8 : Int)) := by omega
      refine ⟨_, ?_, nx', b, rfl, hI⟩
      simp only [a41_l0, envOf, evCode_skip, evCode_exit, evCode_seq, evCode_region, evCode_cond, evCode_block, evCode_ret, evOps_cons, evOps_nil, guardOf, simpleOp, opd, opds, opdOpt, opdParts, Env.get, Env.put, pureV, Option.bind_some, List.nil_append, List.cons_append, inMerge, pairsOk, List.all_nil, List.all_cons, St.after, Env.keep, if_true, if_false, ite_true, ite_false, binV, intBin, unV, shiftOp, resultOf, packed, reduceCtorEq, Option.isNone_none, Option.isSome_none, Bool.false_eq_true, Nat.reduceAdd, Nat.reduceEqDiff, Nat.reduceMul, Nat.zero_add, List.length_cons, List.length_nil, beq_self_eq_true, Bool.not_true, Bool.not_false, evOper_move, evOper_pick, evOper_alloc, evOper_box, evOper_load, evOper_store, evOper_bin, evOper_eqv, evOper_isNil, evOper_un, evOper_conv, evOper_convStr, evOper_s2b, evOper_b2s, evOper_field, evOper_index, evOper_indexStr, evOper_build, evOper_buildSlice, evOper_fieldAddr, evOper_indexAddr, evOper_indexSl, evOper_sliceArr, evOper_sliceSl, evOper_sliceStr, evOper_makeSlice, evOper_extract, evOper_mkIface, evOper_mkFunc, evOper_nilCheck, evOper_s2ap, evOper_append, evOper_copy, evOper_len, evOper_minmax, evOper_call, evOper_callVal, Ob.fresh, live0, live1, live2, Int.natCast_nonneg, and_self, true_and, and_true, Int.toNat_natCast, Nat.mul_one, addr_add, partL, cells_int, cells_int_size, okVar, splice_single, Nat.lt_irrefl, false_and, decide_true, decide_false, Nat.add_zero, Int.reduceEq, Int.reduceLT, Int.reduceLE, Int.reduceToNat, Nat.reduceLT, Nat.reduceSub, rf_int, rf_tuple_ints, toList2, Bool.and_true, Bool.true_and, Bool.and_self, List.getElem?_cons_zero, List.getElem?_cons_succ, nlt1, nlt2, nlt3, nlt4, Nat.le_refl, Int.le_refl, Nat.not_lt_zero, Nat.sub_zero, Nat.zero_mul, cells_agg, cells_agg_size, h1]
      rfl)
  exact ⟨nx', b, hb, hinv⟩

theorem sh_body1 {H : List Ob} {s v : Value} {k c x : Nat} {r nx : List Nat} (hk : k < 8) (hl : r.length = 8) (hx : r[k]? = some x) (hx' : x < 4294967296) (hc : c ≤ 1) :
    evCode T H.length a41_l1 (⟨[(0, s), (3, (.slice (some ⟨(H.length + 2), 0, none⟩) 8 8)), (4, (.slice (some ⟨H.length + 1, 0, none⟩) 8 8)), (5, (.slice (some ⟨H.length, 0, none⟩) 8 8)), (6, v), (7, .int .u32 ((c : Nat))), (32, .int .i64 8), (33, .int .i64 ((k : Nat)))], H ++ [⟨u32s (nx), true, true, true, 1⟩, ⟨u32s orderW, true, true, true, 1⟩, ⟨u32s (r), true, true, true, 1⟩], []⟩ : St) = some (.normal, (⟨[(0, s), (3, (.slice (some ⟨(H.length + 2), 0, none⟩) 8 8)), (4, (.slice (some ⟨H.length + 1, 0, none⟩) 8 8)), (5, (.slice (some ⟨H.length, 0, none⟩) 8 8)), (6, v), (7, .int .u32 (((x / 2147483648 : Nat) : Int))), (32, .int .i64 8), (33, .int .i64 (((k + 1 : Nat) : Int)))], H ++ [⟨u32s (nx), true, true, true, 1⟩, ⟨u32s orderW, true, true, true, 1⟩, ⟨u32s (r.set k ((2 * x + c) % 4294967296)), true, true, true, 1⟩], []⟩ : St)) := by
  have hxc := u32s_get hx
  have h1 : ((k : Int) < (8 : Int)) := by omega
  have h1' : ((k : Int) < ((8 : Nat) : Int)) := by omega
  have e1 : IntKind.u32.wrap ((x : Int) * 2 ^ min 1 IntKind.u32.bits) = ((2 * x % 4294967296 : Nat) : Int) := by
    rw [wrap_u32, show min 1 IntKind.u32.bits = 1 from rfl]; omega
  have e2 : bitsOp .or .u32 ((2 * x % 4294967296 : Nat) : Int) (c : Int) = (((2 * x + c) % 4294967296 : Nat) : Int) := by
    rw [bits_or (k := .u32) (a := 2 * x % 4294967296) (b := c) rfl (Nat.mod_lt _ (by decide)) (by show c < 2 ^ 32; omega)]
    congr 1
    have h2 : 2 * x % 4294967296 = 2 ^ 1 * (x % 2147483648) := by omega
    rw [h2, ← Nat.two_pow_add_eq_or_of_lt (by omega : c < 2 ^ 1)]
    omega
  have e3 : Int.fdiv (x : Int) (2 ^ min 31 IntKind.u32.bits) = ((x / 2147483648 : Nat) : Int) := by
    rw [Int.fdiv_eq_ediv_of_nonneg _ (by decide)]; rfl
  have e10 : IntKind.i64.wrap ((k : Int) + 1) = ((k + 1 : Nat) : Int) := wrap_nat (n := k + 1) (by omega)
  have h5 : k + 1 ≤ (u32s r).length := by rw [u32s_len, hl]; omega
  simp only [a41_l1, envOf, evCode_skip, evCode_exit, evCode_seq, evCode_region, evCode_cond, evCode_block, evCode_ret, evOps_cons, evOps_nil, guardOf, simpleOp, opd, opds, opdOpt, opdParts, Env.get, Env.put, pureV, Option.bind_some, List.nil_append, List.cons_append, inMerge, pairsOk, List.all_nil, List.all_cons, St.after, Env.keep, if_true, if_false, ite_true, ite_false, binV, intBin, unV, shiftOp, resultOf, packed, reduceCtorEq, Option.isNone_none, Option.isSome_none, Bool.false_eq_true, Nat.reduceAdd, Nat.reduceEqDiff, Nat.reduceMul, Nat.zero_add, List.length_cons, List.length_nil, beq_self_eq_true, Bool.not_true, Bool.not_false, evOper_move, evOper_pick, evOper_alloc, evOper_box, evOper_load, evOper_store, evOper_bin, evOper_eqv, evOper_isNil, evOper_un, evOper_conv, evOper_convStr, evOper_s2b, evOper_b2s, evOper_field, evOper_index, evOper_indexStr, evOper_build, evOper_buildSlice, evOper_fieldAddr, evOper_indexAddr, evOper_indexSl, evOper_sliceArr, evOper_sliceSl, evOper_sliceStr, evOper_makeSlice, evOper_extract, evOper_mkIface, evOper_mkFunc, evOper_nilCheck, evOper_s2ap, evOper_append, evOper_copy, evOper_len, evOper_minmax, evOper_call, evOper_callVal, Ob.fresh, live0, live1, live2, Int.natCast_nonneg, and_self, true_and, and_true, Int.toNat_natCast, Nat.mul_one, addr_add, partL, cells_int, cells_int_size, okVar, splice_single, Nat.lt_irrefl, false_and, decide_true, decide_false, Nat.add_zero, Int.reduceEq, Int.reduceLT, Int.reduceLE, Int.reduceToNat, Nat.reduceLT, Nat.reduceSub, rf_int, rf_tuple_ints, toList2, Bool.and_true, Bool.true_and, Bool.and_self, List.getElem?_cons_zero, List.getElem?_cons_succ, nlt1, nlt2, nlt3, nlt4, Nat.le_refl, Int.le_refl, Nat.not_lt_zero, Nat.sub_zero, Nat.zero_mul, cells_agg, cells_agg_size, h1, h1', hxc, e1, e2, e3, e10, h5, storeAt2, u32s_set]

theorem sb_body1 {H : List Ob} {s v : Value} {k b x l : Nat} {r nx : List Nat} (hk : k < 8) (hl : nx.length = 8) (hx : r[k]? = some x) (hx' : x < 4294967296) (ho : orderW[k]? = some l) (hb : b ≤ 1) :
    evCode T H.length a41_l0 (⟨[(0, s), (3, (.slice (some ⟨(H.length + 2), 0, none⟩) 8 8)), (4, (.slice (some ⟨H.length + 1, 0, none⟩) 8 8)), (5, (.slice (some ⟨H.length, 0, none⟩) 8 8)), (6, v), (9, .int .u32 ((b : Nat))), (53, .int .i64 8), (54, .int .i64 ((k : Nat)))], H ++ [⟨u32s (nx), true, true, true, 1⟩, ⟨u32s orderW, true, true, true, 1⟩, ⟨u32s (r), true, true, true, 1⟩], []⟩ : St) = some (.normal, (⟨[(0, s), (3, (.slice (some ⟨(H.length + 2), 0, none⟩) 8 8)), (4, (.slice (some ⟨H.length + 1, 0, none⟩) 8 8)), (5, (.slice (some ⟨H.length, 0, none⟩) 8 8)), (6, v), (9, .int .u32 (((subB x l b : Nat) : Int))), (53, .int .i64 8), (54, .int .i64 (((k + 1 : Nat) : Int)))], H ++ [⟨u32s (nx.set k (subD x l b)), true, true, true, 1⟩, ⟨u32s orderW, true, true, true, 1⟩, ⟨u32s (r), true, true, true, 1⟩], []⟩ : St)) := by
  have hxc := u32s_get hx
  have hlc := u32s_get ho
  have h1 : ((k : Int) < (8 : Int)) := by omega
  have h1' : ((k : Int) < ((8 : Nat) : Int)) := by omega
  have hsub := sub32_ev hx' (order_lt l (List.mem_of_getElem? ho)) hb
  have e10 : IntKind.i64.wrap ((k : Int) + 1) = ((k + 1 : Nat) : Int) := wrap_nat (n := k + 1) (by omega)
  have h5 : k + 1 ≤ (u32s nx).length := by rw [u32s_len, hl]; omega
  simp only [a41_l0, envOf, evCode_skip, evCode_exit, evCode_seq, evCode_region, evCode_cond, evCode_block, evCode_ret, evOps_cons, evOps_nil, guardOf, simpleOp, opd, opds, opdOpt, opdParts, Env.get, Env.put, pureV, Option.bind_some, List.nil_append, List.cons_append, inMerge, pairsOk, List.all_nil, List.all_cons, St.after, Env.keep, if_true, if_false, ite_true, ite_false, binV, intBin, unV, shiftOp, resultOf, packed, reduceCtorEq, Option.isNone_none, Option.isSome_none, Bool.false_eq_true, Nat.reduceAdd, Nat.reduceEqDiff, Nat.reduceMul, Nat.zero_add, List.length_cons, List.length_nil, beq_self_eq_true, Bool.not_true, Bool.not_false, evOper_move, evOper_pick, evOper_alloc, evOper_box, evOper_load, evOper_store, evOper_bin, evOper_eqv, evOper_isNil, evOper_un, evOper_conv, evOper_convStr, evOper_s2b, evOper_b2s, evOper_field, evOper_index, evOper_indexStr, evOper_build, evOper_buildSlice, evOper_fieldAddr, evOper_indexAddr, evOper_indexSl, evOper_sliceArr, evOper_sliceSl, evOper_sliceStr, evOper_makeSlice, evOper_extract, evOper_mkIface, evOper_mkFunc, evOper_nilCheck, evOper_s2ap, evOper_append, evOper_copy, evOper_len, evOper_minmax, evOper_call, evOper_callVal, Ob.fresh, live0, live1, live2, Int.natCast_nonneg, and_self, true_and, and_true, Int.toNat_natCast, Nat.mul_one, addr_add, partL, cells_int, cells_int_size, okVar, splice_single, Nat.lt_irrefl, false_and, decide_true, decide_false, Nat.add_zero, Int.reduceEq, Int.reduceLT, Int.reduceLE, Int.reduceToNat, Nat.reduceLT, Nat.reduceSub, rf_int, rf_tuple_ints, toList2, Bool.and_true, Bool.true_and, Bool.and_self, List.getElem?_cons_zero, List.getElem?_cons_succ, nlt1, nlt2, nlt3, nlt4, Nat.le_refl, Int.le_refl, Nat.not_lt_zero, Nat.sub_zero, Nat.zero_mul, cells_agg, cells_agg_size, h1, h1', hxc, hlc, hsub, e10, h5, storeAt0, u32s_set]

theorem sh_loop1 {H : List Ob} {s v : Value} {c : Nat} {r nx : List Nat} (hl : r.length = 8) (hr : ∀ x ∈ r, x < 4294967296) (hc : c ≤ 1) :
    ∃ r' c', evCode T H.length (.block 2 (.loop a41_l1)) (⟨[(0, s), (3, (.slice (some ⟨(H.length + 2), 0, none⟩) 8 8)), (4, (.slice (some ⟨H.length + 1, 0, none⟩) 8 8)), (5, (.slice (some ⟨H.length, 0, none⟩) 8 8)), (6, v), (7, .int .u32 ((c : Nat))), (32, .int .i64 8), (33, .int .i64 (0))], H ++ [⟨u32s (nx), true, true, true, 1⟩, ⟨u32s orderW, true, true, true, 1⟩, ⟨u32s (r), true, true, true, 1⟩], []⟩ : St) = some (.normal, (⟨[(0, s), (3, (.slice (some ⟨(H.length + 2), 0, none⟩) 8 8)), (4, (.slice (some ⟨H.length + 1, 0, none⟩) 8 8)), (5, (.slice (some ⟨H.length, 0, none⟩) 8 8)), (6, v), (7, .int .u32 ((c' : Nat))), (32, .int .i64 8), (33, .int .i64 (8)), (34, .bool false)], H ++ [⟨u32s (nx), true, true, true, 1⟩, ⟨u32s orderW, true, true, true, 1⟩, ⟨u32s (r'), true, true, true, 1⟩], []⟩ : St)) ∧ ShInv 8 c r r' c' := by
  obtain ⟨s', hb, r', c', rfl, hinv⟩ := block_inv (T := T) (base := H.length) (id := 2) (body := a41_l1)
    (fun k s1 => ∃ r' c', s1 = (⟨[(0, s), (3, (.slice (some ⟨(H.length + 2), 0, none⟩) 8 8)), (4, (.slice (some ⟨H.length + 1, 0, none⟩) 8 8)), (5, (.slice (some ⟨H.length, 0, none⟩) 8 8)), (6, v), (7, .int .u32 ((c' : Nat))), (32, .int .i64 8), (33, .int .i64 ((k : Nat)))], H ++ [⟨u32s (nx), true, true, true, 1⟩, ⟨u32s orderW, true, true, true, 1⟩, ⟨u32s (r'), true, true, true, 1⟩], []⟩ : St) ∧ ShInv k c r r' c')
    (Q := fun s1 => ∃ r' c', s1 = (⟨[(0, s), (3, (.slice (some ⟨(H.length + 2), 0, none⟩) 8 8)), (4, (.slice (some ⟨H.length + 1, 0, none⟩) 8 8)), (5, (.slice (some ⟨H.length, 0, none⟩) 8 8)), (6, v), (7, .int .u32 ((c' : Nat))), (32, .int .i64 8), (33, .int .i64 (8)), (34, .bool false)], H ++ [⟨u32s (nx), true, true, true, 1⟩, ⟨u32s orderW, true, true, true, 1⟩, ⟨u32s (r'), true, true, true, 1⟩], []⟩ : St) ∧ ShInv 8 c r r' c')
    8 (s := (⟨[(0, s), (3, (.slice (some ⟨(H.length + 2), 0, none⟩) 8 8)), (4, (.slice (some ⟨H.length + 1, 0, none⟩) 8 8)), (5, (.slice (some ⟨H.length, 0, none⟩) 8 8)), (6, v), (7, .int .u32 ((c : Nat))), (32, .int .i64 8), (33, .int .i64 (((0 : Nat) : Int)))], H ++ [⟨u32s (nx), true, true, true, 1⟩, ⟨u32s orderW, true, true, true, 1⟩, ⟨u32s (r), true, true, true, 1⟩], []⟩ : St)) ⟨_, _, rfl, ⟨hl, hr, hc, by simp [num], fun _ _ => rfl⟩⟩
    (fun k s1 hk hs => by
      obtain ⟨r', c', rfl, hI⟩ := hs
      obtain ⟨x, hx⟩ : ∃ x, r'[k]? = some x := ⟨_, List.getElem?_eq_getElem (by rw [hI.len]; omega)⟩
      exact ⟨_, sh_body1 hk hI.len hx (hI.lt x (List.mem_of_getElem? hx)) hI.cle, _, _, rfl, hI.step hx⟩)
    (fun s1 hs => by
      obtain ⟨r', c', rfl, hI⟩ := hs
      have h1 : ¬ (((8 : Nat) : Int) < (8 : Int)) := by omega
      refine ⟨_, ?_, r', c', rfl, hI⟩
      simp only [a41_l1, envOf, evCode_skip, evCode_exit, evCode_seq, evCode_region, evCode_cond, evCode_block, evCode_ret, evOps_cons, evOps_nil, guardOf, simpleOp, opd, opds, opdOpt, opdParts, Env.get, Env.put, pureV, Option.bind_some, List.nil_append, List.cons_append, inMerge, pairsOk, List.all_nil, List.all_cons, St.after, Env.keep, if_true, if_false, ite_true, ite_false, binV, intBin, unV, shiftOp, resultOf, packed, reduceCtorEq, Option.isNone_none, Option.isSome_none, Bool.false_eq_true, Nat.reduceAdd, Nat.reduceEqDiff, Nat.reduceMul, Nat.zero_add, List.length_cons, List.length_nil, beq_self_eq_true, Bool.not_true, Bool.not_false, evOper_move, evOper_pick, evOper_alloc, evOper_box, evOper_load, evOper_store, evOper_bin, evOper_eqv, evOper_isNil, evOper_un, evOper_conv, evOper_convStr, evOper_s2b, evOper_b2s, evOper_field, evOper_index, evOper_indexStr, evOper_build, evOper_buildSlice, evOper_fieldAddr, evOper_indexAddr, evOper_indexSl, evOper_sliceArr, evOper_sliceSl, evOper_sliceStr, evOper_makeSlice, evOper_extract, evOper_mkIface, evOper_mkFunc, evOper_nilCheck, evOper_s2ap, evOper_append, evOper_copy, evOper_len, evOper_minmax, evOper_call, evOper_callVal, Ob.fresh, live0, live1, live2, Int.natCast_nonneg, and_self, true_and, and_true, Int.toNat_natCast, Nat.mul_one, addr_add, partL, cells_int, cells_int_size, okVar, splice_single, Nat.lt_irrefl, false_and, decide_true, decide_false, Nat.add_zero, Int.reduceEq, Int.reduceLT, Int.reduceLE, Int.reduceToNat, Nat.reduceLT, Nat.reduceSub, rf_int, rf_tuple_ints, toList2, Bool.and_true, Bool.true_and, Bool.and_self, List.getElem?_cons_zero, List.getElem?_cons_succ, nlt1, nlt2, nlt3, nlt4, Nat.le_refl, Int.le_refl, Nat.not_lt_zero, Nat.sub_zero, Nat.zero_mul, cells_agg, cells_agg_size, h1]
      rfl)
  exact ⟨r', c', hb, hinv⟩

theorem sb_loop1 {H : List Ob} {s v : Value} {r nx : List Nat} (hl : r.length = 8) (hr : ∀ x ∈ r, x < 4294967296) (hl2 : nx.length = 8) (hr2 : ∀ x ∈ nx, x < 4294967296) :
    ∃ nx' b, evCode T H.length (.block 4 (.loop a41_l0)) (⟨[(0, s), (3, (.slice (some ⟨(H.length + 2), 0, none⟩) 8 8)), (4, (.slice (some ⟨H.length + 1, 0, none⟩) 8 8)), (5, (.slice (some ⟨H.length, 0, none⟩) 8 8)), (6, v), (9, .int .u32 (0)), (53, .int .i64 8), (54, .int .i64 (0))], H ++ [⟨u32s (nx), true, true, true, 1⟩, ⟨u32s orderW, true, true, true, 1⟩, ⟨u32s (r), true, true, true, 1⟩], []⟩ : St) = some (.normal, (⟨[(0, s), (3, (.slice (some ⟨(H.length + 2), 0, none⟩) 8 8)), (4, (.slice (some ⟨H.length + 1, 0, none⟩) 8 8)), (5, (.slice (some ⟨H.length, 0, none⟩) 8 8)), (6, v), (9, .int .u32 ((b : Nat))), (53, .int .i64 8), (54, .int .i64 (8)), (55, .bool false)], H ++ [⟨u32s (nx'), true, true, true, 1⟩, ⟨u32s orderW, true, true, true, 1⟩, ⟨u32s (r), true, true, true, 1⟩], []⟩ : St)) ∧ SbInv 8 r nx' b := by
  obtain ⟨s', hb, nx', b, rfl, hinv⟩ := block_inv (T := T) (base := H.length) (id := 4) (body := a41_l0)
    (fun k s1 => ∃ nx' b, s1 = (⟨[(0, s), (3, (.slice (some ⟨(H.length + 2), 0, none⟩) 8 8)), (4, (.slice (some ⟨H.length + 1, 0, none⟩) 8 8)), (5, (.slice (some ⟨H.length, 0, none⟩) 8 8)), (6, v), (9, .int .u32 ((b : Nat))), (53, .int .i64 8), (54, .int .i64 ((k : Nat)))], H ++ [⟨u32s (nx'), true, true, true, 1⟩, ⟨u32s orderW, true, true, true, 1⟩, ⟨u32s (r), true, true, true, 1⟩], []⟩ : St) ∧ SbInv k r nx' b)
    (Q := fun s1 => ∃ nx' b, s1 = (⟨[(0, s), (3, (.slice (some ⟨(H.length + 2), 0, none⟩) 8 8)), (4, (.slice (some ⟨H.length + 1, 0, none⟩) 8 8)), (5, (.slice (some ⟨H.length, 0, none⟩) 8 8)), (6, v), (9, .int .u32 ((b : Nat))), (53, .int .i64 8), (54, .int .i64 (8)), (55, .bool false)], H ++ [⟨u32s (nx'), true, true, true, 1⟩, ⟨u32s orderW, true, true, true, 1⟩, ⟨u32s (r), true, true, true, 1⟩], []⟩ : St) ∧ SbInv 8 r nx' b)
    8 (s := (⟨[(0, s), (3, (.slice (some ⟨(H.length + 2), 0, none⟩) 8 8)), (4, (.slice (some ⟨H.length + 1, 0, none⟩) 8 8)), (5, (.slice (some ⟨H.length, 0, none⟩) 8 8)), (6, v), (9, .int .u32 (((0 : Nat) : Int))), (53, .int .i64 8), (54, .int .i64 (((0 : Nat) : Int)))], H ++ [⟨u32s (nx), true, true, true, 1⟩, ⟨u32s orderW, true, true, true, 1⟩, ⟨u32s (r), true, true, true, 1⟩], []⟩ : St)) ⟨_, _, rfl, ⟨hl2, hr2, by decide, by simp [num]⟩⟩
    (fun k s1 hk hs => by
      obtain ⟨nx', b, rfl, hI⟩ := hs
      obtain ⟨x, hx⟩ : ∃ x, r[k]? = some x := ⟨_, List.getElem?_eq_getElem (by omega)⟩
      obtain ⟨l, hlk⟩ : ∃ l, orderW[k]? = some l := ⟨_, List.getElem?_eq_getElem (show k < orderW.length from hk)⟩
      exact ⟨_, sb_body1 hk hI.len hx (hr x (List.mem_of_getElem? hx)) hlk hI.ble, _, _, rfl, hI.step hr hk hx hlk⟩)
    (fun s1 hs => by
      obtain ⟨nx', b, rfl, hI⟩ := hs
      have h1 : ¬ (((8 : Nat) : Int) < (8 : Int)) := by omega
      refine ⟨_, ?_, nx', b, rfl, hI⟩
      simp only [a41_l0, envOf, evCode_skip, evCode_exit, evCode_seq, evCode_region, evCode_cond, evCode_block, evCode_ret, evOps_cons, evOps_nil, guardOf, simpleOp, opd, opds, opdOpt, opdParts, Env.get, Env.put, pureV, Option.bind_some, List.nil_append, List.cons_append, inMerge, pairsOk, List.all_nil, List.all_cons, St.after, Env.keep, if_true, if_false, ite_true, ite_false, binV, intBin, unV, shiftOp, resultOf, packed, reduceCtorEq, Option.isNone_none, Option.isSome_none, Bool.false_eq_true, Nat.reduceAdd, Nat.reduceEqDiff, Nat.reduceMul, Nat.zero_add, List.length_cons, List.length_nil, beq_self_eq_true, Bool.not_true, Bool.not_false, evOper_move, evOper_pick, evOper_alloc, evOper_box, evOper_load, evOper_store, evOper_bin, evOper_eqv, evOper_isNil, evOper_un, evOper_conv, evOper_convStr, evOper_s2b, evOper_b2s, evOper_field, evOper_index, evOper_indexStr, evOper_build, evOper_buildSlice, evOper_fieldAddr, evOper_indexAddr, evOper_indexSl, evOper_sliceArr, evOper_sliceSl, evOper_sliceStr, evOper_makeSlice, evOper_extract, evOper_mkIface, evOper_mkFunc, evOper_nilCheck, evOper_s2ap, evOper_append, evOper_copy, evOper_len, evOper_minmax, evOper_call, evOper_callVal, Ob.fresh, live0, live1, live2, Int.natCast_nonneg, and_self, true_and, and_true, Int.toNat_natCast, Nat.mul_one, addr_add, partL, cells_int, cells_int_size, okVar, splice_single, Nat.lt_irrefl, false_and, decide_true, decide_false, Nat.add_zero, Int.reduceEq, Int.reduceLT, Int.reduceLE, Int.reduceToNat, Nat.reduceLT, Nat.reduceSub, rf_int, rf_tuple_ints, toList2, Bool.and_true, Bool.true_and, Bool.and_self, List.getElem?_cons_zero, List.getElem?_cons_succ, nlt1, nlt2, nlt3, nlt4, Nat.le_refl, Int.le_refl, Nat.not_lt_zero, Nat.sub_zero, Nat.zero_mul, cells_agg, cells_agg_size, h1]
      rfl)
  exact ⟨nx', b, hb, hinv⟩
end Go.Ev.Ytaceeoghjgggjaa

/-
  scalar.mod: what is left of a number by the order.
-/
set_option linter.unusedSimpArgs false
set_option linter.unusedVariables false
namespace Go.Ev.Ytaceeoghjgggjaa
open Go Go.Ev
attribute [local congr] bind_congr1
set_option maxRecDepth 100000

structure RInv (V : Nat) (r nx : List Nat) : Prop where
  len : r.length = 8
  lt : ∀ x ∈ r, x < 4294967296
  len2 : nx.length = 8
  lt2 : ∀ x ∈ nx, x < 4294967296
  eq : num 4294967296 r = V % ell

theorem ell_pow : 2 * ell + 1 < 4294967296 ^ 8 := by decide
theorem ell_pos : 0 < ell := by decide

/-- A bit more: doubled, and the order taken off where it goes. -/
theorem RInv.step {V c c' b : Nat} {r nx r' nx' : List Nat} (h : RInv V r nx) (hc : c ≤ 1) (h1 : ShInv 8 c r r' c') (h2 : SbInv 8 r' nx' b) : (b = 0 → RInv (2 * V + c) nx' r') ∧ (b ≠ 0 → RInv (2 * V + c) r' nx') := by
  have e1 := h1.eq
  have e2 := h2.eq
  have l1 := h.len
  have l2 := h1.len
  have l3 := h2.len
  rw [List.take_of_length_le (by omega)] at e1
  rw [List.take_of_length_le (by omega), List.take_of_length_le (show orderW.length ≤ 8 from Nat.le_refl _), List.take_of_length_le (by omega), ell_num] at e2
  have b1 := num_lt h1.lt
  have b2 := num_lt h2.lt
  rw [l2] at b1
  rw [l3] at b2
  have hp := ell_pow
  have hr : num 4294967296 r < ell := by rw [h.eq]; exact Nat.mod_lt _ ell_pos
  have hV : (2 * V + c) % ell = (2 * num 4294967296 r + c) % ell := by
    rw [h.eq, Nat.add_mod, Nat.mul_mod, Nat.add_mod (2 * (V % ell)), Nat.mul_mod 2 (V % ell), Nat.mod_mod]
  have hle := h1.cle
  have hbe := h2.ble
  generalize 4294967296 ^ 8 = W at *
  have hc0 : c' = 0 := by
    rcases Nat.lt_or_ge 0 c' with hh | hh
    · have : c' = 1 := by omega
      subst this
      omega
    · omega
  subst hc0
  generalize num 4294967296 r = x at *
  generalize hyy : num 4294967296 r' = y at *
  generalize hz : num 4294967296 nx' = z at *
  have hy : y = 2 * x + c := by omega
  subst hy
  refine ⟨fun h0 => ⟨l3, h2.lt, l2, h1.lt, ?_⟩, fun h0 => ⟨l2, h1.lt, l3, h2.lt, ?_⟩⟩
  · subst h0
    rw [hV, show 2 * x + c = z + ell by omega, Nat.add_mod_right, Nat.mod_eq_of_lt (by omega)]
    exact hz
  · have : b = 1 := by omega
    subst this
    have hlt : 2 * x + c < ell := by omega
    rw [hV, Nat.mod_eq_of_lt hlt]
    exact hyy

theorem mod_round0 {H : List Ob} {id off n cap i w V : Nat} {ws r nx : List Nat} (hr : Row .u32 H id off ws) (hn : ws.length = n) (hN : n < 2 ^ 40) (hi : i < 32 * n) (hw : ws[i / 32]? = some w) (hw' : w < 4294967296) (h : RInv V r nx) :
    ∃ r' nx', RInv (2 * V + w / 2 ^ (i % 32) % 2) r' nx' ∧ (evCode T H.length a41_l2 (⟨[(0, (.slice (some ⟨id, off, none⟩) n cap)), (3, (.slice (some ⟨H.length, 0, none⟩) 8 8)), (4, (.slice (some ⟨H.length + 1, 0, none⟩) 8 8)), (5, (.slice (some ⟨(H.length + 2), 0, none⟩) 8 8)), (6, .int .i64 ((i : Nat)))], H ++ [⟨u32s (r), true, true, true, 1⟩, ⟨u32s orderW, true, true, true, 1⟩, ⟨u32s (nx), true, true, true, 1⟩], []⟩ : St) = some (.normal, (⟨[(0, (.slice (some ⟨id, off, none⟩) n cap)), (3, (.slice (some ⟨H.length, 0, none⟩) 8 8)), (4, (.slice (some ⟨H.length + 1, 0, none⟩) 8 8)), (5, (.slice (some ⟨(H.length + 2), 0, none⟩) 8 8)), (6, .int .i64 ((i : Int) - 1))], H ++ [⟨u32s (r'), true, true, true, 1⟩, ⟨u32s orderW, true, true, true, 1⟩, ⟨u32s (nx'), true, true, true, 1⟩], []⟩ : St)) ∨ evCode T H.length a41_l2 (⟨[(0, (.slice (some ⟨id, off, none⟩) n cap)), (3, (.slice (some ⟨H.length, 0, none⟩) 8 8)), (4, (.slice (some ⟨H.length + 1, 0, none⟩) 8 8)), (5, (.slice (some ⟨(H.length + 2), 0, none⟩) 8 8)), (6, .int .i64 ((i : Nat)))], H ++ [⟨u32s (r), true, true, true, 1⟩, ⟨u32s orderW, true, true, true, 1⟩, ⟨u32s (nx), true, true, true, 1⟩], []⟩ : St) = some (.normal, (⟨[(0, (.slice (some ⟨id, off, none⟩) n cap)), (3, (.slice (some ⟨(H.length + 2), 0, none⟩) 8 8)), (4, (.slice (some ⟨H.length + 1, 0, none⟩) 8 8)), (5, (.slice (some ⟨H.length, 0, none⟩) 8 8)), (6, .int .i64 ((i : Int) - 1))], H ++ [⟨u32s (nx'), true, true, true, 1⟩, ⟨u32s orderW, true, true, true, 1⟩, ⟨u32s (r'), true, true, true, 1⟩], []⟩ : St))) := by
  have hc : w / 2 ^ (i % 32) % 2 ≤ 1 := by omega
  obtain ⟨r1, c1, hb1, i1⟩ := sh_loop0 (H := H) (s := (.slice (some ⟨id, off, none⟩) n cap)) (v := .int .i64 (i : Nat)) (nx := nx) h.len h.lt hc
  obtain ⟨nx1, b, hb2, i2⟩ := sb_loop0 (H := H) (s := (.slice (some ⟨id, off, none⟩) n cap)) (v := .int .i64 (i : Nat)) (r := r1) (nx := nx) i1.len i1.lt h.len2 h.lt2
  obtain ⟨o, ho, hcell⟩ := hr
  have ho' := liveAt_app (l := [⟨u32s (r), true, true, true, 1⟩, ⟨u32s orderW, true, true, true, 1⟩, ⟨u32s (nx), true, true, true, 1⟩]) ho
  have hwc := hcell (i / 32) w hw
  have h1 : ((i : Int) ≥ 0) := by omega
  have h2 : ((i / 32 : Nat) : Int) < (n : Int) := by omega
  have h4 : ¬ (((i % 32 : Nat) : Int) < 0) := by omega
  have e1 : IntKind.i64.wrap ((i : Int).tdiv 32) = ((i / 32 : Nat) : Int) := wrap_nat (n := i / 32) (by omega)
  have e2 : ((i : Int).tmod 32) = ((i % 32 : Nat) : Int) := rfl
  have e3 : Int.fdiv (w : Int) (2 ^ min (i % 32) IntKind.u32.bits) = ((w / 2 ^ (i % 32) : Nat) : Int) := by
    rw [Nat.min_eq_left (by show _ ≤ 32; omega), Int.fdiv_eq_ediv_of_nonneg _ (Int.le_of_lt (Int.pow_pos (by decide)))]; simp
  have e4 : bitsOp .and .u32 ((w / 2 ^ (i % 32) : Nat) : Int) 1 = ((w / 2 ^ (i % 32) % 2 : Nat) : Int) := by
    rw [show (1 : Int) = ((1 : Nat) : Int) from rfl, bits_and (k := .u32) (a := w / 2 ^ (i % 32)) (b := 1) rfl (Nat.lt_of_le_of_lt (Nat.div_le_self _ _) hw') (by decide), Nat.and_one_is_mod]
  have e5 : IntKind.i64.wrap ((i : Int) - 1) = (i : Int) - 1 := wrapI64_small (by omega) (by omega)
  have e8 : ((8 : Nat) : Int) = 8 := rfl
  have hst := h.step hc i1 i2
  generalize w / 2 ^ (i % 32) % 2 = c at *
  by_cases hb0 : b = 0
  · subst hb0
    have e6 : (((0 : Nat) : Int) == 0) = true := rfl
    refine ⟨nx1, r1, hst.1 rfl, .inr ?_⟩
    simp only [a41_l2, envOf, evCode_skip, evCode_exit, evCode_seq, evCode_region, evCode_cond, evCode_block, evCode_ret, evOps_cons, evOps_nil, guardOf, simpleOp, opd, opds, opdOpt, opdParts, Env.get, Env.put, pureV, Option.bind_some, List.nil_append, List.cons_append, inMerge, pairsOk, List.all_nil, List.all_cons, St.after, Env.keep, if_true, if_false, ite_true, ite_false, binV, intBin, unV, shiftOp, resultOf, packed, reduceCtorEq, Option.isNone_none, Option.isSome_none, Bool.false_eq_true, Nat.reduceAdd, Nat.reduceEqDiff, Nat.reduceMul, Nat.zero_add, List.length_cons, List.length_nil, beq_self_eq_true, Bool.not_true, Bool.not_false, evOper_move, evOper_pick, evOper_alloc, evOper_box, evOper_load, evOper_store, evOper_bin, evOper_eqv, evOper_isNil, evOper_un, evOper_conv, evOper_convStr, evOper_s2b, evOper_b2s, evOper_field, evOper_index, evOper_indexStr, evOper_build, evOper_buildSlice, evOper_fieldAddr, evOper_indexAddr, evOper_indexSl, evOper_sliceArr, evOper_sliceSl, evOper_sliceStr, evOper_makeSlice, evOper_extract, evOper_mkIface, evOper_mkFunc, evOper_nilCheck, evOper_s2ap, evOper_append, evOper_copy, evOper_len, evOper_minmax, evOper_call, evOper_callVal, Ob.fresh, live0, live1, live2, Int.natCast_nonneg, and_self, true_and, and_true, Int.toNat_natCast, Nat.mul_one, addr_add, partL, cells_int, cells_int_size, okVar, splice_single, Nat.lt_irrefl, false_and, decide_true, decide_false, Nat.add_zero, Int.reduceEq, Int.reduceLT, Int.reduceLE, Int.reduceToNat, Nat.reduceLT, Nat.reduceSub, rf_int, rf_tuple_ints, toList2, Bool.and_true, Bool.true_and, Bool.and_self, List.getElem?_cons_zero, List.getElem?_cons_succ, nlt1, nlt2, nlt3, nlt4, Nat.le_refl, Int.le_refl, Nat.not_lt_zero, Nat.sub_zero, Nat.zero_mul, cells_agg, cells_agg_size, h1, h2, h4, ho', hwc, e1, e2, e3, e4, e5, e6, e8, hb1, hb2]
  · have hb1' : b = 1 := by have := i2.ble; omega
    subst hb1'
    have e6 : (((1 : Nat) : Int) == 0) = false := rfl
    refine ⟨r1, nx1, hst.2 (by decide), .inl ?_⟩
    simp only [a41_l2, envOf, evCode_skip, evCode_exit, evCode_seq, evCode_region, evCode_cond, evCode_block, evCode_ret, evOps_cons, evOps_nil, guardOf, simpleOp, opd, opds, opdOpt, opdParts, Env.get, Env.put, pureV, Option.bind_some, List.nil_append, List.cons_append, inMerge, pairsOk, List.all_nil, List.all_cons, St.after, Env.keep, if_true, if_false, ite_true, ite_false, binV, intBin, unV, shiftOp, resultOf, packed, reduceCtorEq, Option.isNone_none, Option.isSome_none, Bool.false_eq_true, Nat.reduceAdd, Nat.reduceEqDiff, Nat.reduceMul, Nat.zero_add, List.length_cons, List.length_nil, beq_self_eq_true, Bool.not_true, Bool.not_false, evOper_move, evOper_pick, evOper_alloc, evOper_box, evOper_load, evOper_store, evOper_bin, evOper_eqv, evOper_isNil, evOper_un, evOper_conv, evOper_convStr, evOper_s2b, evOper_b2s, evOper_field, evOper_index, evOper_indexStr, evOper_build, evOper_buildSlice, evOper_fieldAddr, evOper_indexAddr, evOper_indexSl, evOper_sliceArr, evOper_sliceSl, evOper_sliceStr, evOper_makeSlice, evOper_extract, evOper_mkIface, evOper_mkFunc, evOper_nilCheck, evOper_s2ap, evOper_append, evOper_copy, evOper_len, evOper_minmax, evOper_call, evOper_callVal, Ob.fresh, live0, live1, live2, Int.natCast_nonneg, and_self, true_and, and_true, Int.toNat_natCast, Nat.mul_one, addr_add, partL, cells_int, cells_int_size, okVar, splice_single, Nat.lt_irrefl, false_and, decide_true, decide_false, Nat.add_zero, Int.reduceEq, Int.reduceLT, Int.reduceLE, Int.reduceToNat, Nat.reduceLT, Nat.reduceSub, rf_int, rf_tuple_ints, toList2, Bool.and_true, Bool.true_and, Bool.and_self, List.getElem?_cons_zero, List.getElem?_cons_succ, nlt1, nlt2, nlt3, nlt4, Nat.le_refl, Int.le_refl, Nat.not_lt_zero, Nat.sub_zero, Nat.zero_mul, cells_agg, cells_agg_size, h1, h2, h4, ho', hwc, e1, e2, e3, e4, e5, e6, e8, hb1, hb2]

theorem mod_round1 {H : List Ob} {id off n cap i w V : Nat} {ws r nx : List Nat} (hr : Row .u32 H id off ws) (hn : ws.length = n) (hN : n < 2 ^ 40) (hi : i < 32 * n) (hw : ws[i / 32]? = some w) (hw' : w < 4294967296) (h : RInv V r nx) :
    ∃ r' nx', RInv (2 * V + w / 2 ^ (i % 32) % 2) r' nx' ∧ (evCode T H.length a41_l2 (⟨[(0, (.slice (some ⟨id, off, none⟩) n cap)), (3, (.slice (some ⟨(H.length + 2), 0, none⟩) 8 8)), (4, (.slice (some ⟨H.length + 1, 0, none⟩) 8 8)), (5, (.slice (some ⟨H.length, 0, none⟩) 8 8)), (6, .int .i64 ((i : Nat)))], H ++ [⟨u32s (nx), true, true, true, 1⟩, ⟨u32s orderW, true, true, true, 1⟩, ⟨u32s (r), true, true, true, 1⟩], []⟩ : St) = some (.normal, (⟨[(0, (.slice (some ⟨id, off, none⟩) n cap)), (3, (.slice (some ⟨(H.length + 2), 0, none⟩) 8 8)), (4, (.slice (some ⟨H.length + 1, 0, none⟩) 8 8)), (5, (.slice (some ⟨H.length, 0, none⟩) 8 8)), (6, .int .i64 ((i : Int) - 1))], H ++ [⟨u32s (nx'), true, true, true, 1⟩, ⟨u32s orderW, true, true, true, 1⟩, ⟨u32s (r'), true, true, true, 1⟩], []⟩ : St)) ∨ evCode T H.length a41_l2 (⟨[(0, (.slice (some ⟨id, off, none⟩) n cap)), (3, (.slice (some ⟨(H.length + 2), 0, none⟩) 8 8)), (4, (.slice (some ⟨H.length + 1, 0, none⟩) 8 8)), (5, (.slice (some ⟨H.length, 0, none⟩) 8 8)), (6, .int .i64 ((i : Nat)))], H ++ [⟨u32s (nx), true, true, true, 1⟩, ⟨u32s orderW, true, true, true, 1⟩, ⟨u32s (r), true, true, true, 1⟩], []⟩ : St) = some (.normal, (⟨[(0, (.slice (some ⟨id, off, none⟩) n cap)), (3, (.slice (some ⟨H.length, 0, none⟩) 8 8)), (4, (.slice (some ⟨H.length + 1, 0, none⟩) 8 8)), (5, (.slice (some ⟨(H.length + 2), 0, none⟩) 8 8)), (6, .int .i64 ((i : Int) - 1))], H ++ [⟨u32s (r'), true, true, true, 1⟩, ⟨u32s orderW, true, true, true, 1⟩, ⟨u32s (nx'), true, true, true, 1⟩], []⟩ : St))) := by
  have hc : w / 2 ^ (i % 32) % 2 ≤ 1 := by omega
  obtain ⟨r1, c1, hb1, i1⟩ := sh_loop1 (H := H) (s := (.slice (some ⟨id, off, none⟩) n cap)) (v := .int .i64 (i : Nat)) (nx := nx) h.len h.lt hc
  obtain ⟨nx1, b, hb2, i2⟩ := sb_loop1 (H := H) (s := (.slice (some ⟨id, off, none⟩) n cap)) (v := .int .i64 (i : Nat)) (r := r1) (nx := nx) i1.len i1.lt h.len2 h.lt2
  obtain ⟨o, ho, hcell⟩ := hr
  have ho' := liveAt_app (l := [⟨u32s (nx), true, true, true, 1⟩, ⟨u32s orderW, true, true, true, 1⟩, ⟨u32s (r), true, true, true, 1⟩]) ho
  have hwc := hcell (i / 32) w hw
  have h1 : ((i : Int) ≥ 0) := by omega
  have h2 : ((i / 32 : Nat) : Int) < (n : Int) := by omega
  have h4 : ¬ (((i % 32 : Nat) : Int) < 0) := by omega
  have e1 : IntKind.i64.wrap ((i : Int).tdiv 32) = ((i / 32 : Nat) : Int) := wrap_nat (n := i / 32) (by omega)
  have e2 : ((i : Int).tmod 32) = ((i % 32 : Nat) : Int) := rfl
  have e3 : Int.fdiv (w : Int) (2 ^ min (i % 32) IntKind.u32.bits) = ((w / 2 ^ (i % 32) : Nat) : Int) := by
    rw [Nat.min_eq_left (by show _ ≤ 32; omega), Int.fdiv_eq_ediv_of_nonneg _ (Int.le_of_lt (Int.pow_pos (by decide)))]; simp
  have e4 : bitsOp .and .u32 ((w / 2 ^ (i % 32) : Nat) : Int) 1 = ((w / 2 ^ (i % 32) % 2 : Nat) : Int) := by
    rw [show (1 : Int) = ((1 : Nat) : Int) from rfl, bits_and (k := .u32) (a := w / 2 ^ (i % 32)) (b := 1) rfl (Nat.lt_of_le_of_lt (Nat.div_le_self _ _) hw') (by decide), Nat.and_one_is_mod]
  have e5 : IntKind.i64.wrap ((i : Int) - 1) = (i : Int) - 1 := wrapI64_small (by omega) (by omega)
  have e8 : ((8 : Nat) : Int) = 8 := rfl
  have hst := h.step hc i1 i2
  generalize w / 2 ^ (i % 32) % 2 = c at *
  by_cases hb0 : b = 0
  · subst hb0
    have e6 : (((0 : Nat) : Int) == 0) = true := rfl
    refine ⟨nx1, r1, hst.1 rfl, .inr ?_⟩
    simp only [a41_l2, envOf, evCode_skip, evCode_exit, evCode_seq, evCode_region, evCode_cond, evCode_block, evCode_ret, evOps_cons, evOps_nil, guardOf, simpleOp, opd, opds, opdOpt, opdParts, Env.get, Env.put, pureV, Option.bind_some, List.nil_append, List.cons_append, inMerge, pairsOk, List.all_nil, List.all_cons, St.after, Env.keep, if_true, if_false, ite_true, ite_false, binV, intBin, unV, shiftOp, resultOf, packed, reduceCtorEq, Option.isNone_none, Option.isSome_none, Bool.false_eq_true, Nat.reduceAdd, Nat.reduceEqDiff, Nat.reduceMul, Nat.zero_add, List.length_cons, List.length_nil, beq_self_eq_true, Bool.not_true, Bool.not_false, evOper_move, evOper_pick, evOper_alloc, evOper_box, evOper_load, evOper_store, evOper_bin, evOper_eqv, evOper_isNil, evOper_un, evOper_conv, evOper_convStr, evOper_s2b, evOper_b2s, evOper_field, evOper_index, evOper_indexStr, evOper_build, evOper_buildSlice, evOper_fieldAddr, evOper_indexAddr, evOper_indexSl, evOper_sliceArr, evOper_sliceSl, evOper_sliceStr, evOper_makeSlice, evOper_extract, evOper_mkIface, evOper_mkFunc, evOper_nilCheck, evOper_s2ap, evOper_append, evOper_copy, evOper_len, evOper_minmax, evOper_call, evOper_callVal, Ob.fresh, live0, live1, live2, Int.natCast_nonneg, and_self, true_and, and_true, Int.toNat_natCast, Nat.mul_one, addr_add, partL, cells_int, cells_int_size, okVar, splice_single, Nat.lt_irrefl, false_and, decide_true, decide_false, Nat.add_zero, Int.reduceEq, Int.reduceLT, Int.reduceLE, Int.reduceToNat, Nat.reduceLT, Nat.reduceSub, rf_int, rf_tuple_ints, toList2, Bool.and_true, Bool.true_and, Bool.and_self, List.getElem?_cons_zero, List.getElem?_cons_succ, nlt1, nlt2, nlt3, nlt4, Nat.le_refl, Int.le_refl, Nat.not_lt_zero, Nat.sub_zero, Nat.zero_mul, cells_agg, cells_agg_size, h1, h2, h4, ho', hwc, e1, e2, e3, e4, e5, e6, e8, hb1, hb2]
  · have hb1' : b = 1 := by have := i2.ble; omega
    subst hb1'
    have e6 : (((1 : Nat) : Int) == 0) = false := rfl
    refine ⟨r1, nx1, hst.2 (by decide), .inl ?_⟩
    simp only [a41_l2, envOf, evCode_skip, evCode_exit, evCode_seq, evCode_region, evCode_cond, evCode_block, evCode_ret, evOps_cons, evOps_nil, guardOf, simpleOp, opd, opds, opdOpt, opdParts, Env.get, Env.put, pureV, Option.bind_some, List.nil_append, List.cons_append, inMerge, pairsOk, List.all_nil, List.all_cons, St.after, Env.keep, if_true, if_false, ite_true, ite_false, binV, intBin, unV, shiftOp, resultOf, packed, reduceCtorEq, Option.isNone_none, Option.isSome_none, Bool.false_eq_true, Nat.reduceAdd, Nat.reduceEqDiff, Nat.reduceMul, Nat.zero_add, List.length_cons, List.length_nil, beq_self_eq_true, Bool.not_true, Bool.not_false, evOper_move, evOper_pick, evOper_alloc, evOper_box, evOper_load, evOper_store, evOper_bin, evOper_eqv, evOper_isNil, evOper_un, evOper_conv, evOper_convStr, evOper_s2b, evOper_b2s, evOper_field, evOper_index, evOper_indexStr, evOper_build, evOper_buildSlice, evOper_fieldAddr, evOper_indexAddr, evOper_indexSl, evOper_sliceArr, evOper_sliceSl, evOper_sliceStr, evOper_makeSlice, evOper_extract, evOper_mkIface, evOper_mkFunc, evOper_nilCheck, evOper_s2ap, evOper_append, evOper_copy, evOper_len, evOper_minmax, evOper_call, evOper_callVal, Ob.fresh, live0, live1, live2, Int.natCast_nonneg, and_self, true_and, and_true, Int.toNat_natCast, Nat.mul_one, addr_add, partL, cells_int, cells_int_size, okVar, splice_single, Nat.lt_irrefl, false_and, decide_true, decide_false, Nat.add_zero, Int.reduceEq, Int.reduceLT, Int.reduceLE, Int.reduceToNat, Nat.reduceLT, Nat.reduceSub, rf_int, rf_tuple_ints, toList2, Bool.and_true, Bool.true_and, Bool.and_self, List.getElem?_cons_zero, List.getElem?_cons_succ, nlt1, nlt2, nlt3, nlt4, Nat.le_refl, Int.le_refl, Nat.not_lt_zero, Nat.sub_zero, Nat.zero_mul, cells_agg, cells_agg_size, h1, h2, h4, ho', hwc, e1, e2, e3, e4, e5, e6, e8, hb1, hb2]

def modSt (H : List Ob) (s : Value) (p : Bool) (v : Int) (r nx : List Nat) : St := match p with
  | false => (⟨[(0, s), (3, (.slice (some ⟨H.length, 0, none⟩) 8 8)), (4, (.slice (some ⟨H.length + 1, 0, none⟩) 8 8)), (5, (.slice (some ⟨(H.length + 2), 0, none⟩) 8 8)), (6, .int .i64 (v))], H ++ [⟨u32s (r), true, true, true, 1⟩, ⟨u32s orderW, true, true, true, 1⟩, ⟨u32s (nx), true, true, true, 1⟩], []⟩ : St)
  | true => (⟨[(0, s), (3, (.slice (some ⟨(H.length + 2), 0, none⟩) 8 8)), (4, (.slice (some ⟨H.length + 1, 0, none⟩) 8 8)), (5, (.slice (some ⟨H.length, 0, none⟩) 8 8)), (6, .int .i64 (v))], H ++ [⟨u32s (nx), true, true, true, 1⟩, ⟨u32s orderW, true, true, true, 1⟩, ⟨u32s (r), true, true, true, 1⟩], []⟩ : St)

def modEnd (H : List Ob) (s : Value) (p : Bool) (r nx : List Nat) : St := match p with
  | false => (⟨[(0, s), (3, (.slice (some ⟨H.length, 0, none⟩) 8 8)), (4, (.slice (some ⟨H.length + 1, 0, none⟩) 8 8)), (5, (.slice (some ⟨(H.length + 2), 0, none⟩) 8 8)), (6, .int .i64 (-1)), (19, .bool false)], H ++ [⟨u32s (r), true, true, true, 1⟩, ⟨u32s orderW, true, true, true, 1⟩, ⟨u32s (nx), true, true, true, 1⟩], []⟩ : St)
  | true => (⟨[(0, s), (3, (.slice (some ⟨(H.length + 2), 0, none⟩) 8 8)), (4, (.slice (some ⟨H.length + 1, 0, none⟩) 8 8)), (5, (.slice (some ⟨H.length, 0, none⟩) 8 8)), (6, .int .i64 (-1)), (19, .bool false)], H ++ [⟨u32s (nx), true, true, true, 1⟩, ⟨u32s orderW, true, true, true, 1⟩, ⟨u32s (r), true, true, true, 1⟩], []⟩ : St)

theorem mod_round {H : List Ob} {id off n cap i w V : Nat} {ws r nx : List Nat} (p : Bool) (hr : Row .u32 H id off ws) (hn : ws.length = n) (hN : n < 2 ^ 40) (hi : i < 32 * n) (hw : ws[i / 32]? = some w) (hw' : w < 4294967296) (h : RInv V r nx) :
    ∃ q r' nx', RInv (2 * V + w / 2 ^ (i % 32) % 2) r' nx' ∧ evCode T H.length a41_l2 (modSt H (.slice (some ⟨id, off, none⟩) n cap) p (i : Nat) r nx) = some (.normal, modSt H (.slice (some ⟨id, off, none⟩) n cap) q ((i : Int) - 1) r' nx') := by
  cases p with
  | false =>
    obtain ⟨r', nx', h1, h2⟩ := mod_round0 (cap := cap) hr hn hN hi hw hw' h
    rcases h2 with h2 | h2
    · exact ⟨false, r', nx', h1, h2⟩
    · exact ⟨true, r', nx', h1, h2⟩
  | true =>
    obtain ⟨r', nx', h1, h2⟩ := mod_round1 (cap := cap) hr hn hN hi hw hw' h
    rcases h2 with h2 | h2
    · exact ⟨true, r', nx', h1, h2⟩
    · exact ⟨false, r', nx', h1, h2⟩

theorem bit_of {ws : List Nat} {i w : Nat} (hws : ∀ x ∈ ws, x < 4294967296) (hw : ws[i / 32]? = some w) : 2 * (num 4294967296 ws / 2 ^ (i + 1)) + w / 2 ^ (i % 32) % 2 = num 4294967296 ws / 2 ^ i := by
  have h1 := num_get (B := 4294967296) (by decide) hws hw
  generalize num 4294967296 ws = v at *
  have h2 : w / 2 ^ (i % 32) % 2 = v / 2 ^ i % 2 := by
    have e1 : (4294967296 : Nat) ^ (i / 32) = 2 ^ (32 * (i / 32)) := by rw [show (4294967296 : Nat) = 2 ^ 32 from rfl, ← Nat.pow_mul]
    rw [← h1, e1]
    have e2 : (2 : Nat) ^ i = 2 ^ (32 * (i / 32)) * 2 ^ (i % 32) := by rw [← Nat.pow_add]; congr 1; omega
    rw [e2, ← Nat.div_div_eq_div_mul]
    generalize v / 2 ^ (32 * (i / 32)) = u
    have e3 : (4294967296 : Nat) = 2 ^ (i % 32) * 2 ^ (32 - i % 32) := by rw [← Nat.pow_add]; rw [show i % 32 + (32 - i % 32) = 32 by omega]
    rw [e3, Nat.mod_mul_right_div_self, Nat.mod_mod_of_dvd]
    exact ⟨2 ^ (31 - i % 32), by rw [← Nat.pow_add_one']; congr 1; omega⟩
  rw [h2, Nat.pow_succ, ← Nat.div_div_eq_div_mul]
  omega

theorem mod_ev {H : List Ob} {id off n cap : Nat} {ws : List Nat} (hr : Row .u32 H id off ws) (hn : ws.length = n) (hn0 : 0 < n) (hN : n < 2 ^ 40) (hws : ∀ x ∈ ws, x < 4294967296) :
    ∃ k l, evFun T 41 [.slice (some ⟨id, off, none⟩) n cap] H = some (.slice (some ⟨k, 0, none⟩) 8 8, H ++ l, []) ∧ Row .u32 (H ++ l) k 0 (dig 4294967296 8 (num 4294967296 ws % ell)) := by
  have h0 : RInv (num 4294967296 ws / 2 ^ (32 * n)) (dig 4294967296 8 0) (dig 4294967296 8 0) := by
    refine ⟨dig_len _ _ _, fun x hx => dig_lt (by decide) hx, dig_len _ _ _, fun x hx => dig_lt (by decide) hx, ?_⟩
    have h1 := num_lt hws
    rw [hn, show (4294967296 : Nat) = 2 ^ 32 from rfl, ← Nat.pow_mul] at h1
    rw [num_dig (by decide), show (4294967296 : Nat) = 2 ^ 32 from rfl, Nat.div_eq_of_lt h1]
    simp
  obtain ⟨s', hb, q, r, nx, rfl, hinv⟩ := block_inv (T := T) (base := H.length) (id := 0) (body := a41_l2)
    (fun j s => ∃ p r nx, s = modSt H (.slice (some ⟨id, off, none⟩) n cap) p (((32 * n - j : Nat) : Int) - 1) r nx ∧ RInv (num 4294967296 ws / 2 ^ (32 * n - j)) r nx)
    (Q := fun s => ∃ p r nx, s = modEnd H (.slice (some ⟨id, off, none⟩) n cap) p r nx ∧ RInv (num 4294967296 ws) r nx)
    (32 * n) (s := modSt H (.slice (some ⟨id, off, none⟩) n cap) false (((32 * n - 0 : Nat) : Int) - 1) (dig 4294967296 8 0) (dig 4294967296 8 0)) ⟨false, _, _, rfl, h0⟩
    (fun j s hj hs => by
      obtain ⟨p, r, nx, rfl, hI⟩ := hs
      obtain ⟨i, hi⟩ : ∃ i, 32 * n - j = i + 1 := ⟨32 * n - j - 1, by omega⟩
      obtain ⟨w, hw⟩ : ∃ w, ws[i / 32]? = some w := ⟨_, List.getElem?_eq_getElem (by omega)⟩
      rw [hi] at hI
      obtain ⟨q, r', nx', g1, g2⟩ := mod_round (cap := cap) p hr hn hN (by omega) hw (hws w (List.mem_of_getElem? hw)) hI
      rw [bit_of hws hw] at g1
      refine ⟨_, ?_, q, r', nx', rfl, by rw [show 32 * n - (j + 1) = i by omega]; exact g1⟩
      rw [hi, show 32 * n - (j + 1) = i by omega, show (((i + 1 : Nat) : Int) - 1) = (i : Nat) by omega]
      exact g2)
    (fun s hs => by
      obtain ⟨p, r, nx, rfl, hI⟩ := hs
      rw [Nat.sub_self, Nat.pow_zero, Nat.div_one] at hI
      refine ⟨_, ?_, p, r, nx, rfl, hI⟩
      rw [Nat.sub_self]
      have h1 : ¬ ((-1 : Int) ≥ 0) := by decide
      cases p with
      | false =>
        rw [show modSt H (.slice (some ⟨id, off, none⟩) n cap) false (((0 : Nat) : Int) - 1) r nx = (⟨[(0, .slice (some ⟨id, off, none⟩) n cap), (3, (.slice (some ⟨H.length, 0, none⟩) 8 8)), (4, (.slice (some ⟨H.length + 1, 0, none⟩) 8 8)), (5, (.slice (some ⟨(H.length + 2), 0, none⟩) 8 8)), (6, .int .i64 (-1))], H ++ [⟨u32s (r), true, true, true, 1⟩, ⟨u32s orderW, true, true, true, 1⟩, ⟨u32s (nx), true, true, true, 1⟩], []⟩ : St) from rfl]
        simp only [a41_l2, envOf, evCode_skip, evCode_exit, evCode_seq, evCode_region, evCode_cond, evCode_block, evCode_ret, evOps_cons, evOps_nil, guardOf, simpleOp, opd, opds, opdOpt, opdParts, Env.get, Env.put, pureV, Option.bind_some, List.nil_append, List.cons_append, inMerge, pairsOk, List.all_nil, List.all_cons, St.after, Env.keep, if_true, if_false, ite_true, ite_false, binV, intBin, unV, shiftOp, resultOf, packed, reduceCtorEq, Option.isNone_none, Option.isSome_none, Bool.false_eq_true, Nat.reduceAdd, Nat.reduceEqDiff, Nat.reduceMul, Nat.zero_add, List.length_cons, List.length_nil, beq_self_eq_true, Bool.not_true, Bool.not_false, evOper_move, evOper_pick, evOper_alloc, evOper_box, evOper_load, evOper_store, evOper_bin, evOper_eqv, evOper_isNil, evOper_un, evOper_conv, evOper_convStr, evOper_s2b, evOper_b2s, evOper_field, evOper_index, evOper_indexStr, evOper_build, evOper_buildSlice, evOper_fieldAddr, evOper_indexAddr, evOper_indexSl, evOper_sliceArr, evOper_sliceSl, evOper_sliceStr, evOper_makeSlice, evOper_extract, evOper_mkIface, evOper_mkFunc, evOper_nilCheck, evOper_s2ap, evOper_append, evOper_copy, evOper_len, evOper_minmax, evOper_call, evOper_callVal, Ob.fresh, live0, live1, live2, Int.natCast_nonneg, and_self, true_and, and_true, Int.toNat_natCast, Nat.mul_one, addr_add, partL, cells_int, cells_int_size, okVar, splice_single, Nat.lt_irrefl, false_and, decide_true, decide_false, Nat.add_zero, Int.reduceEq, Int.reduceLT, Int.reduceLE, Int.reduceToNat, Nat.reduceLT, Nat.reduceSub, rf_int, rf_tuple_ints, toList2, Bool.and_true, Bool.true_and, Bool.and_self, List.getElem?_cons_zero, List.getElem?_cons_succ, nlt1, nlt2, nlt3, nlt4, Nat.le_refl, Int.le_refl, Nat.not_lt_zero, Nat.sub_zero, Nat.zero_mul, cells_agg, cells_agg_size, h1, modEnd]
      | true =>
        rw [show modSt H (.slice (some ⟨id, off, none⟩) n cap) true (((0 : Nat) : Int) - 1) r nx = (⟨[(0, .slice (some ⟨id, off, none⟩) n cap), (3, (.slice (some ⟨(H.length + 2), 0, none⟩) 8 8)), (4, (.slice (some ⟨H.length + 1, 0, none⟩) 8 8)), (5, (.slice (some ⟨H.length, 0, none⟩) 8 8)), (6, .int .i64 (-1))], H ++ [⟨u32s (nx), true, true, true, 1⟩, ⟨u32s orderW, true, true, true, 1⟩, ⟨u32s (r), true, true, true, 1⟩], []⟩ : St) from rfl]
        simp only [a41_l2, envOf, evCode_skip, evCode_exit, evCode_seq, evCode_region, evCode_cond, evCode_block, evCode_ret, evOps_cons, evOps_nil, guardOf, simpleOp, opd, opds, opdOpt, opdParts, Env.get, Env.put, pureV, Option.bind_some, List.nil_append, List.cons_append, inMerge, pairsOk, List.all_nil, List.all_cons, St.after, Env.keep, if_true, if_false, ite_true, ite_false, binV, intBin, unV, shiftOp, resultOf, packed, reduceCtorEq, Option.isNone_none, Option.isSome_none, Bool.false_eq_true, Nat.reduceAdd, Nat.reduceEqDiff, Nat.reduceMul, Nat.zero_add, List.length_cons, List.length_nil, beq_self_eq_true, Bool.not_true, Bool.not_false, evOper_move, evOper_pick, evOper_alloc, evOper_box, evOper_load, evOper_store, evOper_bin, evOper_eqv, evOper_isNil, evOper_un, evOper_conv, evOper_convStr, evOper_s2b, evOper_b2s, evOper_field, evOper_index, evOper_indexStr, evOper_build, evOper_buildSlice, evOper_fieldAddr, evOper_indexAddr, evOper_indexSl, evOper_sliceArr, evOper_sliceSl, evOper_sliceStr, evOper_makeSlice, evOper_extract, evOper_mkIface, evOper_mkFunc, evOper_nilCheck, evOper_s2ap, evOper_append, evOper_copy, evOper_len, evOper_minmax, evOper_call, evOper_callVal, Ob.fresh, live0, live1, live2, Int.natCast_nonneg, and_self, true_and, and_true, Int.toNat_natCast, Nat.mul_one, addr_add, partL, cells_int, cells_int_size, okVar, splice_single, Nat.lt_irrefl, false_and, decide_true, decide_false, Nat.add_zero, Int.reduceEq, Int.reduceLT, Int.reduceLE, Int.reduceToNat, Nat.reduceLT, Nat.reduceSub, rf_int, rf_tuple_ints, toList2, Bool.and_true, Bool.true_and, Bool.and_self, List.getElem?_cons_zero, List.getElem?_cons_succ, nlt1, nlt2, nlt3, nlt4, Nat.le_refl, Int.le_refl, Nat.not_lt_zero, Nat.sub_zero, Nat.zero_mul, cells_agg, cells_agg_size, h1, modEnd])
  obtain ⟨m, hm⟩ : ∃ m : Int, m = ((32 * n - 0 : Nat) : Int) - 1 := ⟨_, rfl⟩
  rw [← hm, show modSt H (.slice (some ⟨id, off, none⟩) n cap) false m (dig 4294967296 8 0) (dig 4294967296 8 0) = (⟨[(0, .slice (some ⟨id, off, none⟩) n cap), (3, (.slice (some ⟨H.length, 0, none⟩) 8 8)), (4, (.slice (some ⟨H.length + 1, 0, none⟩) 8 8)), (5, (.slice (some ⟨(H.length + 2), 0, none⟩) 8 8)), (6, .int .i64 (m))], H ++ [⟨u32s (dig 4294967296 8 0), true, true, true, 1⟩, ⟨u32s orderW, true, true, true, 1⟩, ⟨u32s (dig 4294967296 8 0), true, true, true, 1⟩], []⟩ : St) from rfl] at hb
  have e1 : IntKind.i64.wrap (IntKind.i64.wrap (32 * (n : Int)) - 1) = m := by rw [wrapI64_small (x := 32 * (n : Int)) (by omega) (by omega), wrapI64_small (by omega) (by omega)]; omega
  have h1 : ((8 : Int) * ((4 : Nat) : Int) ≤ 2 ^ 47) := by decide
  have h2 : (0 : Nat) < 4 := by decide
  have h3 : ((0 : Int) ≤ 8) := by decide
  have hz : List.replicate 8 (Value.int .u32 0) = u32s (dig 4294967296 8 0) := rfl
  have horder := order_ev (H ++ [⟨u32s (dig 4294967296 8 0), true, true, true, 1⟩])
  simp only [List.length_append, List.length_cons, List.length_nil, Nat.zero_add, List.append_assoc, List.cons_append, List.nil_append, Ob.fresh] at horder
  have hdig : r = dig 4294967296 8 (num 4294967296 ws % ell) := by rw [← hinv.eq, ← hinv.len, dig_num (by decide) hinv.lt]
  cases q with
  | false =>
    refine ⟨H.length, [⟨u32s r, true, true, true, 1⟩, ⟨u32s orderW, true, true, true, 1⟩, ⟨u32s nx, true, true, true, 1⟩], ?_, ?_⟩
    · rw [evFun_fn (fn := a41) rfl]
      simp only [a41, envOf, evCode_skip, evCode_exit, evCode_seq, evCode_region, evCode_cond, evCode_block, evCode_ret, evOps_cons, evOps_nil, guardOf, simpleOp, opd, opds, opdOpt, opdParts, Env.get, Env.put, pureV, Option.bind_some, List.nil_append, List.cons_append, inMerge, pairsOk, List.all_nil, List.all_cons, St.after, Env.keep, if_true, if_false, ite_true, ite_false, binV, intBin, unV, shiftOp, resultOf, packed, reduceCtorEq, Option.isNone_none, Option.isSome_none, Bool.false_eq_true, Nat.reduceAdd, Nat.reduceEqDiff, Nat.reduceMul, Nat.zero_add, List.length_cons, List.length_nil, beq_self_eq_true, Bool.not_true, Bool.not_false, evOper_move, evOper_pick, evOper_alloc, evOper_box, evOper_load, evOper_store, evOper_bin, evOper_eqv, evOper_isNil, evOper_un, evOper_conv, evOper_convStr, evOper_s2b, evOper_b2s, evOper_field, evOper_index, evOper_indexStr, evOper_build, evOper_buildSlice, evOper_fieldAddr, evOper_indexAddr, evOper_indexSl, evOper_sliceArr, evOper_sliceSl, evOper_sliceStr, evOper_makeSlice, evOper_extract, evOper_mkIface, evOper_mkFunc, evOper_nilCheck, evOper_s2ap, evOper_append, evOper_copy, evOper_len, evOper_minmax, evOper_call, evOper_callVal, Ob.fresh, live0, live1, live2, Int.natCast_nonneg, and_self, true_and, and_true, Int.toNat_natCast, Nat.mul_one, addr_add, partL, cells_int, cells_int_size, okVar, splice_single, Nat.lt_irrefl, false_and, decide_true, decide_false, Nat.add_zero, Int.reduceEq, Int.reduceLT, Int.reduceLE, Int.reduceToNat, Nat.reduceLT, Nat.reduceSub, rf_int, rf_tuple_ints, toList2, Bool.and_true, Bool.true_and, Bool.and_self, List.getElem?_cons_zero, List.getElem?_cons_succ, nlt1, nlt2, nlt3, nlt4, Nat.le_refl, Int.le_refl, Nat.not_lt_zero, Nat.sub_zero, Nat.zero_mul, cells_agg, cells_agg_size, e1, h1, h2, h3, Int.le_refl, flat_one, hz, horder, List.length_append, List.append_assoc, hb, modEnd]
    · exact ⟨_, live0, fun i x hx => by rw [Nat.zero_add]; exact u32s_get (by rw [hdig]; exact hx)⟩
  | true =>
    refine ⟨H.length + 2, [⟨u32s nx, true, true, true, 1⟩, ⟨u32s orderW, true, true, true, 1⟩, ⟨u32s r, true, true, true, 1⟩], ?_, ?_⟩
    · rw [evFun_fn (fn := a41) rfl]
      simp only [a41, envOf, evCode_skip, evCode_exit, evCode_seq, evCode_region, evCode_cond, evCode_block, evCode_ret, evOps_cons, evOps_nil, guardOf, simpleOp, opd, opds, opdOpt, opdParts, Env.get, Env.put, pureV, Option.bind_some, List.nil_append, List.cons_append, inMerge, pairsOk, List.all_nil, List.all_cons, St.after, Env.keep, if_true, if_false, ite_true, ite_false, binV, intBin, unV, shiftOp, resultOf, packed, reduceCtorEq, Option.isNone_none, Option.isSome_none, Bool.false_eq_true, Nat.reduceAdd, Nat.reduceEqDiff, Nat.reduceMul, Nat.zero_add, List.length_cons, List.length_nil, beq_self_eq_true, Bool.not_true, Bool.not_false, evOper_move, evOper_pick, evOper_alloc, evOper_box, evOper_load, evOper_store, evOper_bin, evOper_eqv, evOper_isNil, evOper_un, evOper_conv, evOper_convStr, evOper_s2b, evOper_b2s, evOper_field, evOper_index, evOper_indexStr, evOper_build, evOper_buildSlice, evOper_fieldAddr, evOper_indexAddr, evOper_indexSl, evOper_sliceArr, evOper_sliceSl, evOper_sliceStr, evOper_makeSlice, evOper_extract, evOper_mkIface, evOper_mkFunc, evOper_nilCheck, evOper_s2ap, evOper_append, evOper_copy, evOper_len, evOper_minmax, evOper_call, evOper_callVal, Ob.fresh, live0, live1, live2, Int.natCast_nonneg, and_self, true_and, and_true, Int.toNat_natCast, Nat.mul_one, addr_add, partL, cells_int, cells_int_size, okVar, splice_single, Nat.lt_irrefl, false_and, decide_true, decide_false, Nat.add_zero, Int.reduceEq, Int.reduceLT, Int.reduceLE, Int.reduceToNat, Nat.reduceLT, Nat.reduceSub, rf_int, rf_tuple_ints, toList2, Bool.and_true, Bool.true_and, Bool.and_self, List.getElem?_cons_zero, List.getElem?_cons_succ, nlt1, nlt2, nlt3, nlt4, Nat.le_refl, Int.le_refl, Nat.not_lt_zero, Nat.sub_zero, Nat.zero_mul, cells_agg, cells_agg_size, e1, h1, h2, h3, Int.le_refl, flat_one, hz, horder, List.length_append, List.append_assoc, hb, modEnd]
    · exact ⟨_, live2, fun i x hx => by rw [Nat.zero_add]; exact u32s_get (by rw [hdig]; exact hx)⟩
end Go.Ev.Ytaceeoghjgggjaa

/-
  scalar.bytes: the bytes of eight words.
-/
set_option linter.unusedSimpArgs false
set_option linter.unusedVariables false
namespace Go.Ev.Ytaceeoghjgggjaa
open Go Go.Ev
attribute [local congr] bind_congr1
set_option maxRecDepth 100000

theorem splice_all {cs v : List Value} (h : v.length = cs.length) : splice cs 0 v = v := by
  rw [splice_gen _ _ _ (by omega), List.take_zero, List.nil_append, Nat.zero_add, h, List.drop_length, List.append_nil]
theorem u8s_zero (n : Nat) : List.replicate n (Value.int .u8 0) = u8s (dig 256 n 0) := by simp [dig_zero, u8s]

theorem byte_of {v w i : Nat} (hw : v / 4294967296 ^ (i / 4) % 4294967296 = w) : w / 2 ^ (8 * (i % 4)) % 256 = v / 256 ^ i % 256 := by
  subst hw
  have e1 : (4294967296 : Nat) ^ (i / 4) = 2 ^ (32 * (i / 4)) := by rw [show (4294967296 : Nat) = 2 ^ 32 from rfl, ← Nat.pow_mul]
  have e2 : (256 : Nat) ^ i = 2 ^ (32 * (i / 4)) * 2 ^ (8 * (i % 4)) := by
    rw [show (256 : Nat) = 2 ^ 8 from rfl, ← Nat.pow_mul, ← Nat.pow_add]; congr 1; omega
  rw [e1, e2, ← Nat.div_div_eq_div_mul]
  generalize v / 2 ^ (32 * (i / 4)) = u
  have e3 : (4294967296 : Nat) = 2 ^ (8 * (i % 4)) * 2 ^ (32 - 8 * (i % 4)) := by rw [← Nat.pow_add]; rw [show 8 * (i % 4) + (32 - 8 * (i % 4)) = 32 by omega]
  rw [e3, Nat.mod_mul_right_div_self, Nat.mod_mod_of_dvd]
  exact ⟨2 ^ (24 - 8 * (i % 4)), by rw [show (256 : Nat) = 2 ^ 8 from rfl, ← Nat.pow_add]; congr 1; omega⟩

def byI (H : List Ob) (s : Value) (i : Int) (k : List Nat) (ex : Env) : St :=
  ⟨[(0, s), (2, .pointer (some ⟨H.length, 0, none⟩)), (3, .pointer (some ⟨H.length + 1, 0, none⟩)), (5, .int .i64 i)] ++ ex, H ++ [⟨u8s (dig 256 32 0), true, true, true, 1⟩, ⟨u8s k, true, true, true, 1⟩], []⟩

theorem by_body {H : List Ob} {id off cap i w : Nat} {ws k : List Nat} (hr : Row .u32 H id off ws) (hn : ws.length = 8) (hi : i < 32) (hw : ws[i / 4]? = some w) (hl : k.length = 32) :
    evCode T H.length a42_l0 (byI H (.slice (some ⟨id, off, none⟩) 8 cap) (i : Nat) k []) = some (.normal, byI H (.slice (some ⟨id, off, none⟩) 8 cap) ((i + 1 : Nat) : Int) (k.set i (w / 2 ^ (8 * (i % 4)) % 256)) []) := by
  obtain ⟨o, ho, hcell⟩ := hr
  have ho' := liveAt_app (l := [⟨u8s (dig 256 32 0), true, true, true, 1⟩, ⟨u8s k, true, true, true, 1⟩]) ho
  have hwc := hcell (i / 4) w hw
  have h1 : ((i : Int) < 32) := by omega
  have h1' : ((i : Int) < ((32 : Nat) : Int)) := by omega
  have h2 : ((i / 4 : Nat) : Int) < ((8 : Nat) : Int) := by omega
  have h2' : ((i / 4 : Nat) : Int) < (8 : Int) := by omega
  have h4 : ¬ (((8 * (i % 4) : Nat) : Int) < 0) := by omega
  have e1 : IntKind.i64.wrap ((i : Int).tdiv 4) = ((i / 4 : Nat) : Int) := wrap_nat (n := i / 4) (by omega)
  have e2 : ((i : Int).tmod 4) = ((i % 4 : Nat) : Int) := rfl
  have e3 : IntKind.i64.wrap (8 * ((i % 4 : Nat) : Int)) = ((8 * (i % 4) : Nat) : Int) := wrap_nat (n := 8 * (i % 4)) (by omega)
  have e4 : Int.fdiv (w : Int) (2 ^ min (8 * (i % 4)) IntKind.u32.bits) = ((w / 2 ^ (8 * (i % 4)) : Nat) : Int) := by
    rw [Nat.min_eq_left (by show _ ≤ 32; omega), Int.fdiv_eq_ediv_of_nonneg _ (Int.le_of_lt (Int.pow_pos (by decide)))]; simp
  have e5 : IntKind.u8.wrap ((w / 2 ^ (8 * (i % 4)) : Nat) : Int) = ((w / 2 ^ (8 * (i % 4)) % 256 : Nat) : Int) := by rw [wrap_u8]; rfl
  have e6 : IntKind.i64.wrap ((i : Int) + 1) = ((i + 1 : Nat) : Int) := wrap_nat (n := i + 1) (by omega)
  have h5 : i + 1 ≤ (u8s k).length := by rw [u8s_len, hl]; omega
  simp only [byI, a42_l0, envOf, evCode_skip, evCode_exit, evCode_seq, evCode_region, evCode_cond, evCode_block, evCode_ret, evOps_cons, evOps_nil, guardOf, simpleOp, opd, opds, opdOpt, opdParts, Env.get, Env.put, pureV, Option.bind_some, List.nil_append, List.cons_append, inMerge, pairsOk, List.all_nil, List.all_cons, St.after, Env.keep, if_true, if_false, ite_true, ite_false, binV, intBin, unV, shiftOp, resultOf, packed, reduceCtorEq, Option.isNone_none, Option.isSome_none, Bool.false_eq_true, Nat.reduceAdd, Nat.reduceEqDiff, Nat.reduceMul, Nat.zero_add, List.length_cons, List.length_nil, beq_self_eq_true, Bool.not_true, Bool.not_false, evOper_move, evOper_pick, evOper_alloc, evOper_box, evOper_load, evOper_store, evOper_bin, evOper_eqv, evOper_isNil, evOper_un, evOper_conv, evOper_convStr, evOper_s2b, evOper_b2s, evOper_field, evOper_index, evOper_indexStr, evOper_build, evOper_buildSlice, evOper_fieldAddr, evOper_indexAddr, evOper_indexSl, evOper_sliceArr, evOper_sliceSl, evOper_sliceStr, evOper_makeSlice, evOper_extract, evOper_mkIface, evOper_mkFunc, evOper_nilCheck, evOper_s2ap, evOper_append, evOper_copy, evOper_len, evOper_minmax, evOper_call, evOper_callVal, Ob.fresh, live0, live1, live2, Int.natCast_nonneg, and_self, true_and, and_true, Int.toNat_natCast, Nat.mul_one, addr_add, partL, cells_int, cells_int_size, okVar, splice_single, Nat.lt_irrefl, false_and, decide_true, decide_false, Nat.add_zero, Int.reduceEq, Int.reduceLT, Int.reduceLE, Int.reduceToNat, Nat.reduceLT, Nat.reduceSub, rf_int, rf_tuple_ints, toList2, Bool.and_true, Bool.true_and, Bool.and_self, List.getElem?_cons_zero, List.getElem?_cons_succ, nlt1, nlt2, nlt3, nlt4, Nat.le_refl, Int.le_refl, Nat.not_lt_zero, Nat.sub_zero, Nat.zero_mul, cells_agg, cells_agg_size, h1, h1', h2, h2', h4, ho', hwc, e1, e2, e3, e4, e5, e6, h5, storeAt1, u8s_set]

theorem bytes_ev {H : List Ob} {id off cap v : Nat} (hr : Row .u32 H id off (dig 4294967296 8 v)) :
    ∃ l, evFun T 42 [.slice (some ⟨id, off, none⟩) 8 cap] H = some (.agg (u8s (dig 256 32 v)).toArray, H ++ l, []) := by
  obtain ⟨s', hb, k, rfl, hlen, hk⟩ := block_inv (T := T) (base := H.length) (id := 0) (body := a42_l0)
    (fun i s => ∃ k, s = byI H (.slice (some ⟨id, off, none⟩) 8 cap) (i : Nat) k [] ∧ k.length = 32 ∧ ∀ t, t < i → k[t]? = some (v / 256 ^ t % 256))
    (Q := fun s => ∃ k, s = byI H (.slice (some ⟨id, off, none⟩) 8 cap) 32 k [(6, .bool false)] ∧ k.length = 32 ∧ ∀ t, t < 32 → k[t]? = some (v / 256 ^ t % 256))
    32 (s := byI H (.slice (some ⟨id, off, none⟩) 8 cap) ((0 : Nat) : Int) (dig 256 32 0) []) ⟨_, rfl, dig_len _ _ _, fun t ht => by omega⟩
    (fun i s hi hs => by
      obtain ⟨k, rfl, hl, hk⟩ := hs
      refine ⟨_, by_body hr (dig_len _ _ _) hi (dig_get (by omega)) hl, _, rfl, by rw [List.length_set]; exact hl, fun t ht => ?_⟩
      by_cases h : t = i
      · subst h
        rw [List.getElem?_set_self (by omega), byte_of rfl]
      · rw [List.getElem?_set_ne (by omega)]
        exact hk t (by omega))
    (fun s hs => by
      obtain ⟨k, rfl, hl, hk⟩ := hs
      have h1 : ¬ (((32 : Nat) : Int) < (32 : Int)) := by omega
      refine ⟨_, ?_, k, rfl, hl, hk⟩
      simp only [byI, a42_l0, envOf, evCode_skip, evCode_exit, evCode_seq, evCode_region, evCode_cond, evCode_block, evCode_ret, evOps_cons, evOps_nil, guardOf, simpleOp, opd, opds, opdOpt, opdParts, Env.get, Env.put, pureV, Option.bind_some, List.nil_append, List.cons_append, inMerge, pairsOk, List.all_nil, List.all_cons, St.after, Env.keep, if_true, if_false, ite_true, ite_false, binV, intBin, unV, shiftOp, resultOf, packed, reduceCtorEq, Option.isNone_none, Option.isSome_none, Bool.false_eq_true, Nat.reduceAdd, Nat.reduceEqDiff, Nat.reduceMul, Nat.zero_add, List.length_cons, List.length_nil, beq_self_eq_true, Bool.not_true, Bool.not_false, evOper_move, evOper_pick, evOper_alloc, evOper_box, evOper_load, evOper_store, evOper_bin, evOper_eqv, evOper_isNil, evOper_un, evOper_conv, evOper_convStr, evOper_s2b, evOper_b2s, evOper_field, evOper_index, evOper_indexStr, evOper_build, evOper_buildSlice, evOper_fieldAddr, evOper_indexAddr, evOper_indexSl, evOper_sliceArr, evOper_sliceSl, evOper_sliceStr, evOper_makeSlice, evOper_extract, evOper_mkIface, evOper_mkFunc, evOper_nilCheck, evOper_s2ap, evOper_append, evOper_copy, evOper_len, evOper_minmax, evOper_call, evOper_callVal, Ob.fresh, live0, live1, live2, Int.natCast_nonneg, and_self, true_and, and_true, Int.toNat_natCast, Nat.mul_one, addr_add, partL, cells_int, cells_int_size, okVar, splice_single, Nat.lt_irrefl, false_and, decide_true, decide_false, Nat.add_zero, Int.reduceEq, Int.reduceLT, Int.reduceLE, Int.reduceToNat, Nat.reduceLT, Nat.reduceSub, rf_int, rf_tuple_ints, toList2, Bool.and_true, Bool.true_and, Bool.and_self, List.getElem?_cons_zero, List.getElem?_cons_succ, nlt1, nlt2, nlt3, nlt4, Nat.le_refl, Int.le_refl, Nat.not_lt_zero, Nat.sub_zero, Nat.zero_mul, cells_agg, cells_agg_size, h1]
      rfl)
  have hkk : k = dig 256 32 v := dig_ext hlen fun i hi => hk i hi
  subst hkk
  have hz : List.replicate 32 (Value.int .u8 0) = u8s (dig 256 32 0) := rfl
  have h1 : 0 + 32 ≤ (u8s (dig 256 32 v)).length := by rw [u8s_len, dig_len]; omega
  have h1' : 32 ≤ (u8s (dig 256 32 v)).length := by rw [u8s_len, dig_len]; omega
  have h2 : ((u8s (dig 256 32 v)).drop 0).take 32 = u8s (dig 256 32 v) := by rw [List.drop_zero, List.take_of_length_le (by rw [u8s_len, dig_len]; omega)]
  have h3 : (u8s (dig 256 32 v)).length = 32 := by rw [u8s_len, dig_len]
  have h4 : 0 + (u8s (dig 256 32 v)).length ≤ (u8s (dig 256 32 0)).length := by rw [u8s_len, u8s_len, dig_len, dig_len]; omega
  have h5 : splice (u8s (dig 256 32 0)) 0 (u8s (dig 256 32 v)) = u8s (dig 256 32 v) := splice_all (by rw [u8s_len, u8s_len, dig_len, dig_len])
  have h6 := storeAt0 (H := H) (r := [⟨u8s (dig 256 32 v), true, true, true, 1⟩]) (e := true) (s := 1) h4
  rw [h5] at h6
  refine ⟨[⟨u8s (dig 256 32 v), true, true, true, 1⟩, ⟨u8s (dig 256 32 v), true, true, true, 1⟩], ?_⟩
  rw [show byI H (.slice (some ⟨id, off, none⟩) 8 cap) ((0 : Nat) : Int) (dig 256 32 0) [] = ⟨[(0, .slice (some ⟨id, off, none⟩) 8 cap), (2, .pointer (some ⟨H.length, 0, none⟩)), (3, .pointer (some ⟨H.length + 1, 0, none⟩)), (5, .int .i64 0)], H ++ [⟨u8s (dig 256 32 0), true, true, true, 1⟩, ⟨u8s (dig 256 32 0), true, true, true, 1⟩], []⟩ from rfl] at hb
  rw [evFun_fn (fn := a42) rfl]
  simp only [a42, envOf, evCode_skip, evCode_exit, evCode_seq, evCode_region, evCode_cond, evCode_block, evCode_ret, evOps_cons, evOps_nil, guardOf, simpleOp, opd, opds, opdOpt, opdParts, Env.get, Env.put, pureV, Option.bind_some, List.nil_append, List.cons_append, inMerge, pairsOk, List.all_nil, List.all_cons, St.after, Env.keep, if_true, if_false, ite_true, ite_false, binV, intBin, unV, shiftOp, resultOf, packed, reduceCtorEq, Option.isNone_none, Option.isSome_none, Bool.false_eq_true, Nat.reduceAdd, Nat.reduceEqDiff, Nat.reduceMul, Nat.zero_add, List.length_cons, List.length_nil, beq_self_eq_true, Bool.not_true, Bool.not_false, evOper_move, evOper_pick, evOper_alloc, evOper_box, evOper_load, evOper_store, evOper_bin, evOper_eqv, evOper_isNil, evOper_un, evOper_conv, evOper_convStr, evOper_s2b, evOper_b2s, evOper_field, evOper_index, evOper_indexStr, evOper_build, evOper_buildSlice, evOper_fieldAddr, evOper_indexAddr, evOper_indexSl, evOper_sliceArr, evOper_sliceSl, evOper_sliceStr, evOper_makeSlice, evOper_extract, evOper_mkIface, evOper_mkFunc, evOper_nilCheck, evOper_s2ap, evOper_append, evOper_copy, evOper_len, evOper_minmax, evOper_call, evOper_callVal, Ob.fresh, live0, live1, live2, Int.natCast_nonneg, and_self, true_and, and_true, Int.toNat_natCast, Nat.mul_one, addr_add, partL, cells_int, cells_int_size, okVar, splice_single, Nat.lt_irrefl, false_and, decide_true, decide_false, Nat.add_zero, Int.reduceEq, Int.reduceLT, Int.reduceLE, Int.reduceToNat, Nat.reduceLT, Nat.reduceSub, rf_int, rf_tuple_ints, toList2, Bool.and_true, Bool.true_and, Bool.and_self, List.getElem?_cons_zero, List.getElem?_cons_succ, nlt1, nlt2, nlt3, nlt4, Nat.le_refl, Int.le_refl, Nat.not_lt_zero, Nat.sub_zero, Nat.zero_mul, cells_agg, cells_agg_size, hz, hb, byI, h1, h1', h2, cells_agg, cells_agg_size, h3, h6, List.length_append, List.append_assoc]
end Go.Ev.Ytaceeoghjgggjaa

/-
  scalar.MulAdd: one number times another and a third more, by the order.
-/
set_option linter.unusedSimpArgs false
set_option linter.unusedVariables false
namespace Go.Ev.Ytaceeoghjgggjaa
open Go Go.Ev
attribute [local congr] bind_congr1
set_option maxRecDepth 100000

theorem row_new {H : List Ob} {ws : List Nat} : Row .u32 (H ++ [Ob.fresh (u32s ws)]) H.length 0 ws := ⟨_, live0, fun i x hx => by rw [Nat.zero_add]; exact u32s_get hx⟩
theorem row_new2 {H : List Ob} {ws : List Nat} {o : Ob} : Row .u32 (H ++ [⟨u32s ws, true, true, true, 1⟩, o]) H.length 0 ws := ⟨_, live0, fun i x hx => by rw [Nat.zero_add]; exact u32s_get hx⟩

def keyV (l : List Nat) : Value := .agg (u8s l).toArray
theorem bnd32 : bounds3 32 32 none none none = some (0, 32, 32) := rfl

theorem dig_lt' {n v : Nat} : ∀ x ∈ dig 4294967296 n v, x < 4294967296 := fun x hx => dig_lt (by decide) hx
theorem num_key {l : List Nat} (hl : l.length = 32) (h : ∀ x ∈ l, x < 256) : num 256 l < 4294967296 ^ 8 := by
  have := num_lt h
  rw [hl] at this
  rw [show (4294967296 : Nat) ^ 8 = 256 ^ 32 from by decide]; exact this

theorem mulAdd_mid {H : List Ob} {a b c : List Nat} (ha : Row .u8 H 0 0 a) (hb : Row .u8 H 1 0 b) (hc : Row .u8 H 2 0 c) (la : a.length = 32) (lb : b.length = 32) (lc : c.length = 32)
    (xa : ∀ x ∈ a, x < 256) (xb : ∀ x ∈ b, x < 256) (xc : ∀ x ∈ c, x < 256) :
    ∃ k l l2, evFun T 40 [.slice (some ⟨0, 0, none⟩) 32 32] H = some (.slice (some ⟨H.length, 0, none⟩) 8 8, H ++ [Ob.fresh (u32s (dig 4294967296 8 (num 256 a)))], []) ∧
      (let H5 := H ++ [Ob.fresh (u32s (dig 4294967296 8 (num 256 a)))]
       let H6 := H5 ++ [Ob.fresh (u32s (dig 4294967296 8 (num 256 b)))]
       let H7 := H6 ++ [Ob.fresh (u32s (dig 4294967296 16 (num 256 a * num 256 b)))]
       let H8 := H7 ++ [Ob.fresh (u32s (dig 4294967296 8 (num 256 c)))]
       let H10 := H8 ++ [⟨u32s (dig 4294967296 17 (num 256 a * num 256 b + num 256 c)), true, true, true, 1⟩, ⟨[.int .u32 0], true, true, true, 1⟩]
       evFun T 40 [.slice (some ⟨1, 0, none⟩) 32 32] H5 = some (.slice (some ⟨H5.length, 0, none⟩) 8 8, H6, []) ∧
       evFun T 44 [.slice (some ⟨H.length, 0, none⟩) 8 8, .slice (some ⟨H5.length, 0, none⟩) 8 8] H6 = some (.slice (some ⟨H6.length, 0, none⟩) 16 16, H7, []) ∧
       evFun T 40 [.slice (some ⟨2, 0, none⟩) 32 32] H7 = some (.slice (some ⟨H7.length, 0, none⟩) 8 8, H8, []) ∧
       evFun T 45 [.slice (some ⟨H6.length, 0, none⟩) 16 16, .slice (some ⟨H7.length, 0, none⟩) 8 8] H8 = some (.slice (some ⟨H8.length, 0, none⟩) 17 17, H10, []) ∧
       evFun T 41 [.slice (some ⟨H8.length, 0, none⟩) 17 17] H10 = some (.slice (some ⟨k, 0, none⟩) 8 8, H10 ++ l, []) ∧
       evFun T 42 [.slice (some ⟨k, 0, none⟩) 8 8] (H10 ++ l) = some (keyV (dig 256 32 ((num 256 a * num 256 b + num 256 c) % ell)), H10 ++ l ++ l2, [])) := by
  have na := num_key la xa
  have nb := num_key lb xb
  have nc := num_key lc xc
  have h1 := of_ev (c := 32) ha la (by decide) xa
  have h2 := of_ev (c := 32) (hb.app (l := [Ob.fresh (u32s (dig 4294967296 8 (num 256 a)))])) lb (by decide) xb
  have r1 := (row_new (H := H) (ws := dig 4294967296 8 (num 256 a))).app (l := [Ob.fresh (u32s (dig 4294967296 8 (num 256 b)))])
  have r2 := row_new (H := H ++ [Ob.fresh (u32s (dig 4294967296 8 (num 256 a)))]) (ws := dig 4294967296 8 (num 256 b))
  have h3 := times_ev (c1 := 8) (c2 := 8) r1 r2 (dig_len _ _ _) (dig_len _ _ _) (by decide) dig_lt' dig_lt'
  rw [num_dig (by decide), num_dig (by decide), Nat.mod_eq_of_lt na, Nat.mod_eq_of_lt nb] at h3
  have h4 := of_ev (c := 32) (((hc.app (l := [Ob.fresh (u32s (dig 4294967296 8 (num 256 a)))])).app (l := [Ob.fresh (u32s (dig 4294967296 8 (num 256 b)))])).app (l := [Ob.fresh (u32s (dig 4294967296 16 (num 256 a * num 256 b)))])) lc (by decide) xc
  have r3 := (row_new (H := H ++ [Ob.fresh (u32s (dig 4294967296 8 (num 256 a)))] ++ [Ob.fresh (u32s (dig 4294967296 8 (num 256 b)))]) (ws := dig 4294967296 16 (num 256 a * num 256 b))).app (l := [Ob.fresh (u32s (dig 4294967296 8 (num 256 c)))])
  have r4 := row_new (H := H ++ [Ob.fresh (u32s (dig 4294967296 8 (num 256 a)))] ++ [Ob.fresh (u32s (dig 4294967296 8 (num 256 b)))] ++ [Ob.fresh (u32s (dig 4294967296 16 (num 256 a * num 256 b)))]) (ws := dig 4294967296 8 (num 256 c))
  have h5 := plus_ev (c1 := 16) (c2 := 8) r3 r4 (dig_len _ _ _) (dig_len _ _ _) (by decide) (by decide) (by decide) dig_lt' dig_lt'
  have nab : num 256 a * num 256 b < 4294967296 ^ 16 := by
    rw [show (4294967296 : Nat) ^ 16 = 4294967296 ^ 8 * 4294967296 ^ 8 from by decide]
    exact Nat.mul_lt_mul'' na nb
  rw [num_dig (by decide), num_dig (by decide), Nat.mod_eq_of_lt nab, Nat.mod_eq_of_lt nc] at h5
  have r5 := row_new2 (H := H ++ [Ob.fresh (u32s (dig 4294967296 8 (num 256 a)))] ++ [Ob.fresh (u32s (dig 4294967296 8 (num 256 b)))] ++ [Ob.fresh (u32s (dig 4294967296 16 (num 256 a * num 256 b)))] ++ [Ob.fresh (u32s (dig 4294967296 8 (num 256 c)))]) (ws := dig 4294967296 17 (num 256 a * num 256 b + num 256 c)) (o := ⟨[.int .u32 0], true, true, true, 1⟩)
  obtain ⟨k, l, h6, r6⟩ := mod_ev (cap := 17) r5 (dig_len _ _ _) (by decide) (by decide) dig_lt'
  have nabc : num 256 a * num 256 b + num 256 c < 4294967296 ^ 17 := by
    have : (4294967296 : Nat) ^ 16 + 4294967296 ^ 8 ≤ 4294967296 ^ 17 := by decide
    omega
  rw [num_dig (by decide), Nat.mod_eq_of_lt nabc] at r6
  obtain ⟨l2, h7⟩ := bytes_ev (cap := 8) r6
  exact ⟨k, l, l2, h1, h2, h3, h4, h5, h6, h7⟩

theorem mulAdd_ev {a b c : List Nat} (la : a.length = 32) (lb : b.length = 32) (lc : c.length = 32) (xa : ∀ x ∈ a, x < 256) (xb : ∀ x ∈ b, x < 256) (xc : ∀ x ∈ c, x < 256) :
    ∃ l, evFun T 19 [keyV a, keyV b, keyV c] [] = some (keyV (dig 256 32 ((num 256 a * num 256 b + num 256 c) % ell)), l, []) := by
  have hz : List.replicate 32 (Value.int .u8 0) = u8s (dig 256 32 0) := rfl
  obtain ⟨H, hH⟩ : ∃ H : List Ob, H = [⟨u8s a, true, true, true, 1⟩, ⟨u8s b, true, true, true, 1⟩, ⟨u8s c, true, true, true, 1⟩, ⟨u8s (dig 256 32 0), true, true, true, 1⟩] := ⟨_, rfl⟩
  have ra : Row .u8 H 0 0 a := by subst hH; exact ⟨_, rfl, fun i x hx => by rw [Nat.zero_add]; exact u8s_get hx⟩
  have rb : Row .u8 H 1 0 b := by subst hH; exact ⟨_, rfl, fun i x hx => by rw [Nat.zero_add]; exact u8s_get hx⟩
  have rc : Row .u8 H 2 0 c := by subst hH; exact ⟨_, rfl, fun i x hx => by rw [Nat.zero_add]; exact u8s_get hx⟩
  obtain ⟨k, l, l2, h1, h2, h3, h4, h5, h6, h7⟩ := mulAdd_mid ra rb rc la lb lc xa xb xc
  generalize hR : dig 256 32 ((num 256 a * num 256 b + num 256 c) % ell) = R at *
  have lR : (u8s R).length = 32 := by rw [u8s_len, ← hR, dig_len]
  generalize hH5 : H ++ [Ob.fresh (u32s (dig 4294967296 8 (num 256 a)))] = H5 at h1 h2 h3 h4 h5 h6 h7
  generalize hH6 : H5 ++ [Ob.fresh (u32s (dig 4294967296 8 (num 256 b)))] = H6 at h2 h3 h4 h5 h6 h7
  generalize hH7 : H6 ++ [Ob.fresh (u32s (dig 4294967296 16 (num 256 a * num 256 b)))] = H7 at h3 h4 h5 h6 h7
  generalize hH8 : H7 ++ [Ob.fresh (u32s (dig 4294967296 8 (num 256 c)))] = H8 at h4 h5 h6 h7
  generalize hH10 : H8 ++ [⟨u32s (dig 4294967296 17 (num 256 a * num 256 b + num 256 c)), true, true, true, 1⟩, ⟨[.int .u32 0], true, true, true, 1⟩] = H10 at h5 h6 h7
  generalize hH11 : H10 ++ l = H11 at h6 h7
  generalize hG : H11 ++ l2 = G at h7
  obtain ⟨t, hGt⟩ : ∃ t, G = ⟨u8s a, true, true, true, 1⟩ :: ⟨u8s b, true, true, true, 1⟩ :: ⟨u8s c, true, true, true, 1⟩ :: ⟨u8s (dig 256 32 0), true, true, true, 1⟩ :: t := by
    rw [← hG, ← hH11, ← hH10, ← hH8, ← hH7, ← hH6, ← hH5, hH]; exact ⟨_, rfl⟩
  have hst : storeAt G ⟨3, 0, none⟩ (u8s R) = some (⟨u8s a, true, true, true, 1⟩ :: ⟨u8s b, true, true, true, 1⟩ :: ⟨u8s c, true, true, true, 1⟩ :: ⟨u8s R, true, true, true, 1⟩ :: t) := by
    rw [hGt]
    have h8 := storeAt0 (H := [⟨u8s a, true, true, true, 1⟩, ⟨u8s b, true, true, true, 1⟩, ⟨u8s c, true, true, true, 1⟩]) (r := t) (cs := u8s (dig 256 32 0)) (e := true) (s := 1) (off := 0) (v := u8s R) (by rw [lR, u8s_len, dig_len]; omega)
    rw [splice_all (by rw [lR, u8s_len, dig_len])] at h8
    exact h8
  have hlv : liveAt (⟨u8s a, true, true, true, 1⟩ :: ⟨u8s b, true, true, true, 1⟩ :: ⟨u8s c, true, true, true, 1⟩ :: ⟨u8s R, true, true, true, 1⟩ :: t) 3 = some ⟨u8s R, true, true, true, 1⟩ := rfl
  have h9 : ((u8s R).drop 0).take 32 = u8s R := by rw [List.drop_zero, List.take_of_length_le (by omega)]
  refine ⟨⟨u8s a, true, true, true, 1⟩ :: ⟨u8s b, true, true, true, 1⟩ :: ⟨u8s c, true, true, true, 1⟩ :: ⟨u8s R, true, true, true, 1⟩ :: t, ?_⟩
  rw [evFun_fn (fn := a19) rfl]
  simp only [keyV] at h7 ⊢
  simp only [a19, envOf, evCode_skip, evCode_exit, evCode_seq, evCode_region, evCode_cond, evCode_block, evCode_ret, evOps_cons, evOps_nil, guardOf, simpleOp, opd, opds, opdOpt, opdParts, Env.get, Env.put, pureV, Option.bind_some, List.nil_append, List.cons_append, inMerge, pairsOk, List.all_nil, List.all_cons, St.after, Env.keep, if_true, if_false, ite_true, ite_false, binV, intBin, unV, shiftOp, resultOf, packed, reduceCtorEq, Option.isNone_none, Option.isSome_none, Bool.false_eq_true, Nat.reduceAdd, Nat.reduceEqDiff, Nat.reduceMul, Nat.zero_add, List.length_cons, List.length_nil, beq_self_eq_true, Bool.not_true, Bool.not_false, evOper_move, evOper_pick, evOper_alloc, evOper_box, evOper_load, evOper_store, evOper_bin, evOper_eqv, evOper_isNil, evOper_un, evOper_conv, evOper_convStr, evOper_s2b, evOper_b2s, evOper_field, evOper_index, evOper_indexStr, evOper_build, evOper_buildSlice, evOper_fieldAddr, evOper_indexAddr, evOper_indexSl, evOper_sliceArr, evOper_sliceSl, evOper_sliceStr, evOper_makeSlice, evOper_extract, evOper_mkIface, evOper_mkFunc, evOper_nilCheck, evOper_s2ap, evOper_append, evOper_copy, evOper_len, evOper_minmax, evOper_call, evOper_callVal, Ob.fresh, live0, live1, live2, Int.natCast_nonneg, and_self, true_and, and_true, Int.toNat_natCast, Nat.mul_one, addr_add, partL, cells_int, cells_int_size, okVar, splice_single, Nat.lt_irrefl, false_and, decide_true, decide_false, Nat.add_zero, Int.reduceEq, Int.reduceLT, Int.reduceLE, Int.reduceToNat, Nat.reduceLT, Nat.reduceSub, rf_int, rf_tuple_ints, toList2, Bool.and_true, Bool.true_and, Bool.and_self, List.getElem?_cons_zero, List.getElem?_cons_succ, nlt1, nlt2, nlt3, nlt4, Nat.le_refl, Int.le_refl, Nat.not_lt_zero, Nat.sub_zero, Nat.zero_mul, cells_agg, cells_agg_size, hz, ← hH, bnd32, h1, h2, h3, h4, h5, h6, h7, lR, hst, hlv, h9]
end Go.Ev.Ytaceeoghjgggjaa

/-
  counts answers true; scalar.Clamp.
-/
set_option linter.unusedSimpArgs false
set_option linter.unusedVariables false
namespace Go.Ev.Ytaceeoghjgggjaa
open Go Go.Ev
attribute [local congr] bind_congr1
set_option maxRecDepth 100000

theorem toList_toArray'' (l : List Value) : l.toArray.toList = l := rfl
theorem rf_key (l : List Nat) : rf (.agg (u8s l).toArray) = true := by
  show (u8s l).toArray.toList.all scalarRf = true
  rw [toList_toArray'']
  simp [u8s, scalarRf]
def k1 (n : Nat) : List Nat := n :: List.replicate 31 0
theorem cellsEq_same : ∀ (l : List Nat), cellsEq (List.replicate l.length true) (u8s l) (u8s l) = some true
  | [] => rfl
  | x :: r => by
    have := cellsEq_same r
    simp only [u8s, List.map_cons, List.length_cons, List.replicate_succ, cellsEq, cellEq, if_true, beq_self_eq_true, Option.bind_some] at this ⊢
    rw [this]; rfl
theorem toList_toArray' (l : List Value) : l.toArray.toList = l := rfl

theorem counts_ev : evFun T 15 [] [] = some (.bool true, [], []) := by
  have f2 : fillL (List.replicate 32 (Value.int .u8 0)) [(0, 1, .int .u8 2)] = some (u8s (k1 2)) := rfl
  have f3 : fillL (List.replicate 32 (Value.int .u8 0)) [(0, 1, .int .u8 3)] = some (u8s (k1 3)) := rfl
  have f1 : fillL (List.replicate 32 (Value.int .u8 0)) [(0, 1, .int .u8 1)] = some (u8s (k1 1)) := rfl
  have f7 : fillL (List.replicate 32 (Value.int .u8 0)) [(0, 1, .int .u8 7)] = some (u8s (k1 7)) := rfl
  obtain ⟨l, hm⟩ := mulAdd_ev (a := k1 2) (b := k1 3) (c := k1 1) rfl rfl rfl (by decide) (by decide) (by decide)
  have hd : dig 256 32 ((num 256 (k1 2) * num 256 (k1 3) + num 256 (k1 1)) % ell) = k1 7 := by decide +kernel
  rw [hd] at hm
  simp only [keyV] at hm
  have hc : cellsEq (List.replicate 32 true) (u8s (k1 7)) (u8s (k1 7)) = some true := cellsEq_same (k1 7)
  rw [evFun_fn (fn := a15) rfl]
  simp only [a15, envOf, evCode_skip, evCode_exit, evCode_seq, evCode_region, evCode_cond, evCode_block, evCode_ret, evOps_cons, evOps_nil, guardOf, simpleOp, opd, opds, opdOpt, opdParts, Env.get, Env.put, pureV, Option.bind_some, List.nil_append, List.cons_append, inMerge, pairsOk, List.all_nil, List.all_cons, St.after, Env.keep, if_true, if_false, ite_true, ite_false, binV, intBin, unV, shiftOp, resultOf, packed, reduceCtorEq, Option.isNone_none, Option.isSome_none, Bool.false_eq_true, Nat.reduceAdd, Nat.reduceEqDiff, Nat.reduceMul, Nat.zero_add, List.length_cons, List.length_nil, beq_self_eq_true, Bool.not_true, Bool.not_false, evOper_move, evOper_pick, evOper_alloc, evOper_box, evOper_load, evOper_store, evOper_bin, evOper_eqv, evOper_isNil, evOper_un, evOper_conv, evOper_convStr, evOper_s2b, evOper_b2s, evOper_field, evOper_index, evOper_indexStr, evOper_build, evOper_buildSlice, evOper_fieldAddr, evOper_indexAddr, evOper_indexSl, evOper_sliceArr, evOper_sliceSl, evOper_sliceStr, evOper_makeSlice, evOper_extract, evOper_mkIface, evOper_mkFunc, evOper_nilCheck, evOper_s2ap, evOper_append, evOper_copy, evOper_len, evOper_minmax, evOper_call, evOper_callVal, Ob.fresh, live0, live1, live2, Int.natCast_nonneg, and_self, true_and, and_true, Int.toNat_natCast, Nat.mul_one, addr_add, partL, cells_int, cells_int_size, okVar, splice_single, Nat.lt_irrefl, false_and, decide_true, decide_false, Nat.add_zero, Int.reduceEq, Int.reduceLT, Int.reduceLE, Int.reduceToNat, Nat.reduceLT, Nat.reduceSub, rf_int, rf_tuple_ints, toList2, Bool.and_true, Bool.true_and, Bool.and_self, List.getElem?_cons_zero, List.getElem?_cons_succ, nlt1, nlt2, nlt3, nlt4, Nat.le_refl, Int.le_refl, Nat.not_lt_zero, Nat.sub_zero, Nat.zero_mul, cells_agg, cells_agg_size, f1, f2, f3, f7, rf_key, hm, toList_toArray', hc]

def clampL (a : List Nat) (x y : Nat) : List Nat := (a.set 0 (x &&& 248)).set 31 ((y &&& 127) ||| 64)
theorem and_lt8 {a b : Nat} (h : a < 256) : a &&& b < 256 := Nat.lt_of_le_of_lt Nat.and_le_left h
theorem clamp_ev {a : List Nat} {x y : Nat} (la : a.length = 32) (hx : a[0]? = some x) (hy : a[31]? = some y) (hx' : x < 256) (hy' : y < 256) :
    ∃ l, evFun T 16 [.agg (u8s a).toArray] [] = some (.agg (u8s (clampL a x y)).toArray, l, []) := by
  have hz : List.replicate 32 (Value.int .u8 0) = u8s (dig 256 32 0) := rfl
  have hxc := u8s_get hx
  have hyc := u8s_get (l := a.set 0 (x &&& 248)) (i := 31) (x := y) (by rw [List.getElem?_set_ne (by decide)]; exact hy)
  have e1 : bitsOp .and .u8 (x : Int) 248 = ((x &&& 248 : Nat) : Int) := bits_and (k := .u8) (a := x) (b := 248) rfl hx' (by decide)
  have e2 : bitsOp .and .u8 (y : Int) 127 = ((y &&& 127 : Nat) : Int) := bits_and (k := .u8) (a := y) (b := 127) rfl hy' (by decide)
  have e3 : bitsOp .or .u8 ((y &&& 127 : Nat) : Int) 64 = (((y &&& 127) ||| 64 : Nat) : Int) := bits_or (k := .u8) (a := y &&& 127) (b := 64) rfl (and_lt8 hy') (by decide)
  have l1 : (u8s a).length = 32 := by rw [u8s_len, la]
  have l2 : (u8s (a.set 0 (x &&& 248))).length = 32 := by rw [u8s_len, List.length_set, la]
  have l3 : (u8s (clampL a x y)).length = 32 := by rw [u8s_len, clampL, List.length_set, List.length_set, la]
  have s1 := storeAt0 (H := []) (r := [⟨u8s (dig 256 32 0), true, true, true, 1⟩]) (cs := u8s a) (e := true) (s := 1) (off := 0) (v := [.int .u8 ((x &&& 248 : Nat) : Int)]) (by rw [l1]; simp)
  rw [splice_single, u8s_set] at s1
  have s2 := storeAt0 (H := []) (r := [⟨u8s (dig 256 32 0), true, true, true, 1⟩]) (cs := u8s (a.set 0 (x &&& 248))) (e := true) (s := 1) (off := 31) (v := [.int .u8 (((y &&& 127) ||| 64 : Nat) : Int)]) (by rw [l2]; simp)
  rw [splice_single, u8s_set] at s2
  have s3 := storeAt1 (H := []) (a := ⟨u8s (clampL a x y), true, true, true, 1⟩) (r := []) (cs := u8s (dig 256 32 0)) (e := true) (s := 1) (off := 0) (v := u8s (clampL a x y)) (by rw [l3, u8s_len, dig_len]; decide)
  rw [splice_all (by rw [l3, u8s_len, dig_len])] at s3
  have t3 : ((u8s (clampL a x y)).drop 0).take 32 = u8s (clampL a x y) := by rw [List.drop_zero, List.take_of_length_le (by omega)]
  have v0 : ∀ (p q : List Value), liveAt [⟨p, true, true, true, 1⟩, ⟨q, true, true, true, 1⟩] 0 = some ⟨p, true, true, true, 1⟩ := fun _ _ => rfl
  have v1 : ∀ (p q : List Value), liveAt [⟨p, true, true, true, 1⟩, ⟨q, true, true, true, 1⟩] 1 = some ⟨q, true, true, true, 1⟩ := fun _ _ => rfl
  have i0 : ((0 : Int) < ((32 : Nat) : Int)) := by decide
  have i31 : ((31 : Int) < ((32 : Nat) : Int)) := by decide
  simp only [List.nil_append, List.length_nil] at s1 s2 s3
  rw [show (a.set 0 (x &&& 248)).set 31 ((y &&& 127) ||| 64) = clampL a x y from rfl] at s2
  simp only [Nat.zero_add] at s3
  refine ⟨[⟨u8s (clampL a x y), true, true, true, 1⟩, ⟨u8s (clampL a x y), true, true, true, 1⟩], ?_⟩
  rw [evFun_fn (fn := a16) rfl]
  simp only [a16, envOf, evCode_skip, evCode_exit, evCode_seq, evCode_region, evCode_cond, evCode_block, evCode_ret, evOps_cons, evOps_nil, guardOf, simpleOp, opd, opds, opdOpt, opdParts, Env.get, Env.put, pureV, Option.bind_some, List.nil_append, List.cons_append, inMerge, pairsOk, List.all_nil, List.all_cons, St.after, Env.keep, if_true, if_false, ite_true, ite_false, binV, intBin, unV, shiftOp, resultOf, packed, reduceCtorEq, Option.isNone_none, Option.isSome_none, Bool.false_eq_true, Nat.reduceAdd, Nat.reduceEqDiff, Nat.reduceMul, Nat.zero_add, List.length_cons, List.length_nil, beq_self_eq_true, Bool.not_true, Bool.not_false, evOper_move, evOper_pick, evOper_alloc, evOper_box, evOper_load, evOper_store, evOper_bin, evOper_eqv, evOper_isNil, evOper_un, evOper_conv, evOper_convStr, evOper_s2b, evOper_b2s, evOper_field, evOper_index, evOper_indexStr, evOper_build, evOper_buildSlice, evOper_fieldAddr, evOper_indexAddr, evOper_indexSl, evOper_sliceArr, evOper_sliceSl, evOper_sliceStr, evOper_makeSlice, evOper_extract, evOper_mkIface, evOper_mkFunc, evOper_nilCheck, evOper_s2ap, evOper_append, evOper_copy, evOper_len, evOper_minmax, evOper_call, evOper_callVal, Ob.fresh, live0, live1, live2, Int.natCast_nonneg, and_self, true_and, and_true, Int.toNat_natCast, Nat.mul_one, addr_add, partL, cells_int, cells_int_size, okVar, splice_single, Nat.lt_irrefl, false_and, decide_true, decide_false, Nat.add_zero, Int.reduceEq, Int.reduceLT, Int.reduceLE, Int.reduceToNat, Nat.reduceLT, Nat.reduceSub, rf_int, rf_tuple_ints, toList2, Bool.and_true, Bool.true_and, Bool.and_self, List.getElem?_cons_zero, List.getElem?_cons_succ, nlt1, nlt2, nlt3, nlt4, Nat.le_refl, Int.le_refl, Nat.not_lt_zero, Nat.sub_zero, Nat.zero_mul, cells_agg, cells_agg_size, hz, hxc, hyc, e1, e2, e3, i0, i31, v0, v1, s1, s2, l3, t3, s3]
end Go.Ev.Ytaceeoghjgggjaa

/-
  ScalarClamps, as the evaluator reads it, answers true for every key.
-/
set_option linter.unusedSimpArgs false
set_option linter.unusedVariables false
namespace Go.Ev.Ytaceeoghjgggjaa
open Go Go.Ev
attribute [local congr] bind_congr1
set_option maxRecDepth 100000

theorem byte_facts : ∀ x : Nat, x < 256 → (x &&& 248) % 8 = 0 ∧ (x &&& 248) = x - x % 8 ∧ (x &&& 248) &&& 248 = x &&& 248 ∧ (x &&& 248) < 256 ∧ 64 ≤ ((x &&& 127) ||| 64) ∧ ((x &&& 127) ||| 64) ≤ 127 ∧ ((x &&& 127) ||| 64) % 64 = x % 64 ∧ ((((x &&& 127) ||| 64) &&& 127) ||| 64) = ((x &&& 127) ||| 64) := by decide +kernel

def clI (a c : List Nat) (i : Int) (ex : Env) : St := ⟨[(1, .pointer (some ⟨0, 0, none⟩)), (3, .pointer (some ⟨1, 0, none⟩)), (4, .int .i64 i)] ++ ex, [⟨u8s a, true, true, true, 1⟩, ⟨u8s c, true, true, true, 1⟩], []⟩

def a3_r : ACode := (.region [(AOper.mk (some 9) (.indexAddr 32 1 (.tmp 3) (.const (.int .i64 0))) none), (AOper.mk (some 10) (.load none (.tmp 9)) none), (AOper.mk (some 11) (.bin .rem (.tmp 10) (.const (.int .u8 8))) none), (AOper.mk (some 12) (.bin .neq (.tmp 11) (.const (.int .u8 0))) none), (AOper.mk (some 13) (.move (.tmp 12)) none), (AOper.mk (some 14) (.indexAddr 32 1 (.tmp 3) (.const (.int .i64 31))) (some (13, false))), (AOper.mk (some 15) (.load none (.tmp 14)) (some (13, false))), (AOper.mk (some 16) (.bin .lss (.tmp 15) (.const (.int .u8 64))) (some (13, false))), (AOper.mk (some 17) (.pick (.tmp 13) (.const (.bool true)) (.tmp 16)) none), (AOper.mk (some 18) (.move (.tmp 17)) none), (AOper.mk (some 19) (.indexAddr 32 1 (.tmp 3) (.const (.int .i64 31))) (some (18, false))), (AOper.mk (some 20) (.load none (.tmp 19)) (some (18, false))), (AOper.mk (some 21) (.bin .gtr (.tmp 20) (.const (.int .u8 127))) (some (18, false))), (AOper.mk (some 22) (.pick (.tmp 18) (.const (.bool true)) (.tmp 21)) none), (AOper.mk (some 23) (.move (.tmp 22)) none), (AOper.mk (some 24) (.load (some 32) (.tmp 3)) (some (23, false))), (AOper.mk (some 25) (.call 16 [(.tmp 24)] true) (some (23, false))), (AOper.mk (some 26) (.load (some 32) (.tmp 3)) (some (23, false))), (AOper.mk (some 27) (.eqv (some (List.replicate 32 true)) true (.tmp 25) (.tmp 26)) (some (23, false))), (AOper.mk (some 28) (.pick (.tmp 23) (.const (.bool true)) (.tmp 27)) none), (AOper.mk (some 29) (.move (.tmp 28)) none), (AOper.mk (some 30) (.indexAddr 32 1 (.tmp 3) (.const (.int .i64 0))) (some (29, false))), (AOper.mk (some 31) (.load none (.tmp 30)) (some (29, false))), (AOper.mk (some 32) (.indexAddr 32 1 (.tmp 1) (.const (.int .i64 0))) (some (29, false))), (AOper.mk (some 33) (.load none (.tmp 32)) (some (29, false))), (AOper.mk (some 34) (.indexAddr 32 1 (.tmp 1) (.const (.int .i64 0))) (some (29, false))), (AOper.mk (some 35) (.load none (.tmp 34)) (some (29, false))), (AOper.mk (some 36) (.bin .rem (.tmp 35) (.const (.int .u8 8))) (some (29, false))), (AOper.mk (some 37) (.bin .sub (.tmp 33) (.tmp 36)) (some (29, false))), (AOper.mk (some 38) (.bin .neq (.tmp 31) (.tmp 37)) (some (29, false))), (AOper.mk (some 39) (.pick (.tmp 29) (.const (.bool true)) (.tmp 38)) none), (AOper.mk (some 40) (.move (.tmp 39)) none), (AOper.mk (some 41) (.indexAddr 32 1 (.tmp 3) (.const (.int .i64 31))) (some (40, false))), (AOper.mk (some 42) (.load none (.tmp 41)) (some (40, false))), (AOper.mk (some 43) (.bin .rem (.tmp 42) (.const (.int .u8 64))) (some (40, false))), (AOper.mk (some 44) (.indexAddr 32 1 (.tmp 1) (.const (.int .i64 31))) (some (40, false))), (AOper.mk (some 45) (.load none (.tmp 44)) (some (40, false))), (AOper.mk (some 46) (.bin .rem (.tmp 45) (.const (.int .u8 64))) (some (40, false))), (AOper.mk (some 47) (.bin .neq (.tmp 43) (.tmp 46)) (some (40, false))), (AOper.mk (some 48) (.pick (.tmp 40) (.const (.bool true)) (.tmp 47)) none)] (some [1, 3, 48]) [])
def a3p : AFun := ⟨(.seq (.region [(AOper.mk (some 1) (.box (.tmp 0)) none), (AOper.mk (some 2) (.move (.const (.bool false))) none)] (some [1]) []) (.seq (.seq (.region [(AOper.mk (some 5) (.call 15 [] true) none), (AOper.mk (some 6) (.un .not (.tmp 5)) none)] (some [1, 6]) []) (.cond (.tmp 6) (.seq (.region [(AOper.mk (some 2) (.move (.const (.bool false))) none)] (some [2]) []) .ret) .skip)) (.seq (.region [(AOper.mk (some 7) (.load (some 32) (.tmp 1)) none), (AOper.mk (some 8) (.call 16 [(.tmp 7)] true) none), (AOper.mk (some 3) (.alloc (List.replicate 32 (.int .u8 0))) none), (AOper.mk none (.store 32 (.tmp 3) (.tmp 8)) none)] (some [1, 3]) []) (.seq (.seq a3_r (.cond (.tmp 48) (.seq (.region [(AOper.mk (some 2) (.move (.const (.bool false))) none)] (some [2]) []) .ret) .skip)) (.seq (.seq (.region [(AOper.mk (some 4) (.move (.const (.int .i64 1))) none)] (some [1, 3, 4]) []) (.block 0 (.loop a3_l0))) (.seq (.region [(AOper.mk (some 2) (.move (.const (.bool true))) none)] (some [2]) []) .ret)))))), [(2, none)]⟩

theorem rf_bool (b : Bool) : rf (.bool b) = true := rfl
theorem v0 (p q : List Value) : liveAt [⟨p, true, true, true, 1⟩, ⟨q, true, true, true, 1⟩] 0 = some ⟨p, true, true, true, 1⟩ := rfl
theorem v1 (p q : List Value) : liveAt [⟨p, true, true, true, 1⟩, ⟨q, true, true, true, 1⟩] 1 = some ⟨q, true, true, true, 1⟩ := rfl
theorem v00 (p : List Value) : liveAt [⟨p, true, true, true, 1⟩] 0 = some ⟨p, true, true, true, 1⟩ := rfl

theorem cl_body {a c : List Nat} {i x : Nat} (hi : i < 31) (hx : a[i]? = some x) (hy : c[i]? = some x) :
    evCode T 0 a3_l0 (clI a c (i : Nat) []) = some (.normal, clI a c ((i + 1 : Nat) : Int) []) := by
  have hxc := u8s_get hx
  have hyc := u8s_get hy
  have h1 : ((i : Int) < 31) := by omega
  have h2 : ((i : Int) < ((32 : Nat) : Int)) := by omega
  have e6 : IntKind.i64.wrap ((i : Int) + 1) = ((i + 1 : Nat) : Int) := wrap_nat (n := i + 1) (by omega)
  have e7 : (((x : Nat) : Int) != ((x : Nat) : Int)) = false := by simp
  simp only [clI, a3_l0, envOf, evCode_skip, evCode_exit, evCode_seq, evCode_region, evCode_cond, evCode_block, evCode_ret, evOps_cons, evOps_nil, guardOf, simpleOp, opd, opds, opdOpt, opdParts, Env.get, Env.put, pureV, Option.bind_some, List.nil_append, List.cons_append, inMerge, pairsOk, List.all_nil, List.all_cons, St.after, Env.keep, if_true, if_false, ite_true, ite_false, binV, intBin, unV, shiftOp, resultOf, packed, reduceCtorEq, Option.isNone_none, Option.isSome_none, Bool.false_eq_true, Nat.reduceAdd, Nat.reduceEqDiff, Nat.reduceMul, Nat.zero_add, List.length_cons, List.length_nil, beq_self_eq_true, Bool.not_true, Bool.not_false, evOper_move, evOper_pick, evOper_alloc, evOper_box, evOper_load, evOper_store, evOper_bin, evOper_eqv, evOper_isNil, evOper_un, evOper_conv, evOper_convStr, evOper_s2b, evOper_b2s, evOper_field, evOper_index, evOper_indexStr, evOper_build, evOper_buildSlice, evOper_fieldAddr, evOper_indexAddr, evOper_indexSl, evOper_sliceArr, evOper_sliceSl, evOper_sliceStr, evOper_makeSlice, evOper_extract, evOper_mkIface, evOper_mkFunc, evOper_nilCheck, evOper_s2ap, evOper_append, evOper_copy, evOper_len, evOper_minmax, evOper_call, evOper_callVal, Ob.fresh, live0, live1, live2, Int.natCast_nonneg, and_self, true_and, and_true, Int.toNat_natCast, Nat.mul_one, addr_add, partL, cells_int, cells_int_size, okVar, splice_single, Nat.lt_irrefl, false_and, decide_true, decide_false, Nat.add_zero, Int.reduceEq, Int.reduceLT, Int.reduceLE, Int.reduceToNat, Nat.reduceLT, Nat.reduceSub, rf_int, rf_tuple_ints, toList2, Bool.and_true, Bool.true_and, Bool.and_self, List.getElem?_cons_zero, List.getElem?_cons_succ, nlt1, nlt2, nlt3, nlt4, Nat.le_refl, Int.le_refl, Nat.not_lt_zero, Nat.sub_zero, Nat.zero_mul, cells_agg, cells_agg_size, h1, h2, v0, v1, hxc, hyc, e6, e7]

theorem clamps_ev {a : List Nat} (la : a.length = 32) (xa : ∀ x ∈ a, x < 256) : ∃ l, evFun T 3 [.agg (u8s a).toArray] [] = some (.bool true, l, []) := by
  obtain ⟨x, hx⟩ : ∃ x, a[0]? = some x := ⟨_, List.getElem?_eq_getElem (by omega)⟩
  obtain ⟨y, hy⟩ : ∃ y, a[31]? = some y := ⟨_, List.getElem?_eq_getElem (by omega)⟩
  have hx' := xa x (List.mem_of_getElem? hx)
  have hy' := xa y (List.mem_of_getElem? hy)
  obtain ⟨b1, b2, b3, b4, -⟩ := byte_facts x hx'
  obtain ⟨-, -, -, -, b5, b6, b7, b8⟩ := byte_facts y hy'
  obtain ⟨c, hc⟩ : ∃ c, c = clampL a x y := ⟨_, rfl⟩
  have lc : c.length = 32 := by rw [hc, clampL, List.length_set, List.length_set, la]
  have c0 : c[0]? = some (x &&& 248) := by rw [hc, clampL, List.getElem?_set_ne (by decide), List.getElem?_set_self (by omega)]
  have c31 : c[31]? = some ((y &&& 127) ||| 64) := by rw [hc, clampL, List.getElem?_set_self (by rw [List.length_set]; omega)]
  have cm : ∀ i, 1 ≤ i → i < 31 → c[i]? = a[i]? := fun i h1 h2 => by rw [hc, clampL, List.getElem?_set_ne (by omega), List.getElem?_set_ne (by omega)]
  obtain ⟨l1, h1⟩ := clamp_ev la hx hy hx' hy'
  rw [← hc] at h1
  obtain ⟨l2, h2⟩ := clamp_ev lc c0 c31 b4 (by omega)
  have hcc : clampL c (x &&& 248) ((y &&& 127) ||| 64) = c := by
    rw [clampL, b3, b8]
    apply List.ext_getElem?
    intro i
    by_cases hi : i = 31
    · subst hi; rw [List.getElem?_set_self (by rw [List.length_set]; omega), c31]
    · rw [List.getElem?_set_ne (Ne.symm hi)]
      by_cases h0 : i = 0
      · subst h0; rw [List.getElem?_set_self (by omega), c0]
      · rw [List.getElem?_set_ne (Ne.symm h0)]
  rw [hcc] at h2
  generalize (x &&& 248) = p at *
  generalize ((y &&& 127) ||| 64) = q at *
  obtain ⟨s', hb, rfl⟩ := block_inv (T := T) (base := 0) (id := 0) (body := a3_l0)
    (fun i s => s = clI a c ((i + 1 : Nat) : Int) [])
    (Q := fun s => s = clI a c 31 [(50, .bool false)]) 30 (s := clI a c ((0 + 1 : Nat) : Int) []) rfl
    (fun i s hi hs => by
      subst hs
      obtain ⟨z, hz⟩ : ∃ z, a[i + 1]? = some z := ⟨_, List.getElem?_eq_getElem (by omega)⟩
      exact ⟨_, cl_body (by omega) hz (by rw [cm (i + 1) (by omega) (by omega)]; exact hz), rfl⟩)
    (fun s hs => by
      subst hs
      have h1 : ¬ (((30 + 1 : Nat) : Int) < (31 : Int)) := by omega
      refine ⟨_, ?_, rfl⟩
      simp only [clI, a3_l0, envOf, evCode_skip, evCode_exit, evCode_seq, evCode_region, evCode_cond, evCode_block, evCode_ret, evOps_cons, evOps_nil, guardOf, simpleOp, opd, opds, opdOpt, opdParts, Env.get, Env.put, pureV, Option.bind_some, List.nil_append, List.cons_append, inMerge, pairsOk, List.all_nil, List.all_cons, St.after, Env.keep, if_true, if_false, ite_true, ite_false, binV, intBin, unV, shiftOp, resultOf, packed, reduceCtorEq, Option.isNone_none, Option.isSome_none, Bool.false_eq_true, Nat.reduceAdd, Nat.reduceEqDiff, Nat.reduceMul, Nat.zero_add, List.length_cons, List.length_nil, beq_self_eq_true, Bool.not_true, Bool.not_false, evOper_move, evOper_pick, evOper_alloc, evOper_box, evOper_load, evOper_store, evOper_bin, evOper_eqv, evOper_isNil, evOper_un, evOper_conv, evOper_convStr, evOper_s2b, evOper_b2s, evOper_field, evOper_index, evOper_indexStr, evOper_build, evOper_buildSlice, evOper_fieldAddr, evOper_indexAddr, evOper_indexSl, evOper_sliceArr, evOper_sliceSl, evOper_sliceStr, evOper_makeSlice, evOper_extract, evOper_mkIface, evOper_mkFunc, evOper_nilCheck, evOper_s2ap, evOper_append, evOper_copy, evOper_len, evOper_minmax, evOper_call, evOper_callVal, Ob.fresh, live0, live1, live2, Int.natCast_nonneg, and_self, true_and, and_true, Int.toNat_natCast, Nat.mul_one, addr_add, partL, cells_int, cells_int_size, okVar, splice_single, Nat.lt_irrefl, false_and, decide_true, decide_false, Nat.add_zero, Int.reduceEq, Int.reduceLT, Int.reduceLE, Int.reduceToNat, Nat.reduceLT, Nat.reduceSub, rf_int, rf_tuple_ints, toList2, Bool.and_true, Bool.true_and, Bool.and_self, List.getElem?_cons_zero, List.getElem?_cons_succ, nlt1, nlt2, nlt3, nlt4, Nat.le_refl, Int.le_refl, Nat.not_lt_zero, Nat.sub_zero, Nat.zero_mul, cells_agg, cells_agg_size, h1]
      rfl)
  rw [show clI a c ((0 + 1 : Nat) : Int) [] = ⟨[(1, .pointer (some ⟨0, 0, none⟩)), (3, .pointer (some ⟨1, 0, none⟩)), (4, .int .i64 1)], [⟨u8s a, true, true, true, 1⟩, ⟨u8s c, true, true, true, 1⟩], []⟩ from rfl] at hb
  have hz : List.replicate 32 (Value.int .u8 0) = u8s (dig 256 32 0) := rfl
  have la' : (u8s a).length = 32 := by rw [u8s_len, la]
  have lc' : (u8s c).length = 32 := by rw [u8s_len, lc]
  have ta : ((u8s a).drop 0).take 32 = u8s a := by rw [List.drop_zero, List.take_of_length_le (by omega)]
  have tc : ((u8s c).drop 0).take 32 = u8s c := by rw [List.drop_zero, List.take_of_length_le (by omega)]
  have s3 := storeAt1 (H := []) (a := ⟨u8s a, true, true, true, 1⟩) (r := []) (cs := u8s (dig 256 32 0)) (e := true) (s := 1) (off := 0) (v := u8s c) (by rw [lc', u8s_len, dig_len]; decide)
  rw [splice_all (by rw [lc', u8s_len, dig_len])] at s3
  simp only [List.nil_append, List.length_nil, Nat.zero_add] at s3
  have i0 : ((0 : Int) < ((32 : Nat) : Int)) := by decide
  have i31 : ((31 : Int) < ((32 : Nat) : Int)) := by decide
  have a0c := u8s_get hx
  have a31c := u8s_get hy
  have c0c := u8s_get c0
  have c31c := u8s_get c31
  have d0 : (((p : Nat) : Int).tmod 8 != 0) = false := by
    have : ((p : Nat) : Int).tmod 8 = ((p % 8 : Nat) : Int) := rfl
    rw [this, b1]; rfl
  have d1 : ¬ (((q : Nat) : Int) < 64) := by omega
  have d2 : ¬ (((q : Nat) : Int) > 127) := by omega
  have d3 : (((p : Nat) : Int) != IntKind.u8.wrap ((x : Int) - (x : Int).tmod 8)) = false := by
    have : ((x : Nat) : Int).tmod 8 = ((x % 8 : Nat) : Int) := rfl
    rw [this, wrap_u8]
    have : ((x : Int) - ((x % 8 : Nat) : Int)) % 256 = (p : Nat) := by omega
    rw [this]; simp
  have d4 : (((q : Nat) : Int).tmod 64 != ((y : Nat) : Int).tmod 64) = false := by
    have e1 : ((q : Nat) : Int).tmod 64 = ((q % 64 : Nat) : Int) := rfl
    have e2 : ((y : Nat) : Int).tmod 64 = ((y % 64 : Nat) : Int) := rfl
    rw [e1, e2, b7]; simp
  have d5 : cellsEq (List.replicate 32 true) (u8s c) (u8s c) = some true := by rw [← lc]; exact cellsEq_same c
  have hreg : evCode T 0 a3_r ⟨[(1, .pointer (some ⟨0, 0, none⟩)), (3, .pointer (some ⟨1, 0, none⟩))], [⟨u8s a, true, true, true, 1⟩, ⟨u8s c, true, true, true, 1⟩], []⟩ = some (.normal, ⟨[(1, .pointer (some ⟨0, 0, none⟩)), (3, .pointer (some ⟨1, 0, none⟩)), (48, .bool false)], [⟨u8s a, true, true, true, 1⟩, ⟨u8s c, true, true, true, 1⟩], []⟩) := by
    simp only [a3_r, envOf, evCode_skip, evCode_exit, evCode_seq, evCode_region, evCode_cond, evCode_block, evCode_ret, evOps_cons, evOps_nil, guardOf, simpleOp, opd, opds, opdOpt, opdParts, Env.get, Env.put, pureV, Option.bind_some, List.nil_append, List.cons_append, inMerge, pairsOk, List.all_nil, List.all_cons, St.after, Env.keep, if_true, if_false, ite_true, ite_false, binV, intBin, unV, shiftOp, resultOf, packed, reduceCtorEq, Option.isNone_none, Option.isSome_none, Bool.false_eq_true, Nat.reduceAdd, Nat.reduceEqDiff, Nat.reduceMul, Nat.zero_add, List.length_cons, List.length_nil, beq_self_eq_true, Bool.not_true, Bool.not_false, evOper_move, evOper_pick, evOper_alloc, evOper_box, evOper_load, evOper_store, evOper_bin, evOper_eqv, evOper_isNil, evOper_un, evOper_conv, evOper_convStr, evOper_s2b, evOper_b2s, evOper_field, evOper_index, evOper_indexStr, evOper_build, evOper_buildSlice, evOper_fieldAddr, evOper_indexAddr, evOper_indexSl, evOper_sliceArr, evOper_sliceSl, evOper_sliceStr, evOper_makeSlice, evOper_extract, evOper_mkIface, evOper_mkFunc, evOper_nilCheck, evOper_s2ap, evOper_append, evOper_copy, evOper_len, evOper_minmax, evOper_call, evOper_callVal, Ob.fresh, live0, live1, live2, Int.natCast_nonneg, and_self, true_and, and_true, Int.toNat_natCast, Nat.mul_one, addr_add, partL, cells_int, cells_int_size, okVar, splice_single, Nat.lt_irrefl, false_and, decide_true, decide_false, Nat.add_zero, Int.reduceEq, Int.reduceLT, Int.reduceLE, Int.reduceToNat, Nat.reduceLT, Nat.reduceSub, rf_int, rf_tuple_ints, toList2, Bool.and_true, Bool.true_and, Bool.and_self, List.getElem?_cons_zero, List.getElem?_cons_succ, nlt1, nlt2, nlt3, nlt4, Nat.le_refl, Int.le_refl, Nat.not_lt_zero, Nat.sub_zero, Nat.zero_mul, cells_agg, cells_agg_size, la', lc', ta, tc, v0, v1, v00, rf_key, h1, h2, s3, i0, i31, a0c, a31c, c0c, c31c, d0, d1, d2, d3, d4, d5, toList_toArray']
  refine ⟨[⟨u8s a, true, true, true, 1⟩, ⟨u8s c, true, true, true, 1⟩], ?_⟩
  rw [evFun_fn (fn := a3p) rfl]
  simp only [a3p, envOf, evCode_skip, evCode_exit, evCode_seq, evCode_region, evCode_cond, evCode_block, evCode_ret, evOps_cons, evOps_nil, guardOf, simpleOp, opd, opds, opdOpt, opdParts, Env.get, Env.put, pureV, Option.bind_some, List.nil_append, List.cons_append, inMerge, pairsOk, List.all_nil, List.all_cons, St.after, Env.keep, if_true, if_false, ite_true, ite_false, binV, intBin, unV, shiftOp, resultOf, packed, reduceCtorEq, Option.isNone_none, Option.isSome_none, Bool.false_eq_true, Nat.reduceAdd, Nat.reduceEqDiff, Nat.reduceMul, Nat.zero_add, List.length_cons, List.length_nil, beq_self_eq_true, Bool.not_true, Bool.not_false, evOper_move, evOper_pick, evOper_alloc, evOper_box, evOper_load, evOper_store, evOper_bin, evOper_eqv, evOper_isNil, evOper_un, evOper_conv, evOper_convStr, evOper_s2b, evOper_b2s, evOper_field, evOper_index, evOper_indexStr, evOper_build, evOper_buildSlice, evOper_fieldAddr, evOper_indexAddr, evOper_indexSl, evOper_sliceArr, evOper_sliceSl, evOper_sliceStr, evOper_makeSlice, evOper_extract, evOper_mkIface, evOper_mkFunc, evOper_nilCheck, evOper_s2ap, evOper_append, evOper_copy, evOper_len, evOper_minmax, evOper_call, evOper_callVal, Ob.fresh, live0, live1, live2, Int.natCast_nonneg, and_self, true_and, and_true, Int.toNat_natCast, Nat.mul_one, addr_add, partL, cells_int, cells_int_size, okVar, splice_single, Nat.lt_irrefl, false_and, decide_true, decide_false, Nat.add_zero, Int.reduceEq, Int.reduceLT, Int.reduceLE, Int.reduceToNat, Nat.reduceLT, Nat.reduceSub, rf_int, rf_tuple_ints, toList2, Bool.and_true, Bool.true_and, Bool.and_self, List.getElem?_cons_zero, List.getElem?_cons_succ, nlt1, nlt2, nlt3, nlt4, Nat.le_refl, Int.le_refl, Nat.not_lt_zero, Nat.sub_zero, Nat.zero_mul, cells_agg, cells_agg_size, counts_ev, rf_bool, List.nil_append, hz, la', lc', ta, tc, v0, v1, v00, rf_key, h1, s3, toList_toArray', hreg, hb, clI]
end Go.Ev.Ytaceeoghjgggjaa

/-
  scalar.less and scalar.Canonical.
-/
namespace Go.Ev.Ytaceeoghjgggjaa
open Go Go.Ev
attribute [local congr] bind_congr1
set_option maxRecDepth 100000

structure LessInv (k : Nat) (ws os : List Nat) (b : Nat) : Prop where
  ble : b ≤ 1
  eq : ∃ z, z < 4294967296 ^ k ∧ num 4294967296 (ws.take k) + b * 4294967296 ^ k = num 4294967296 (os.take k) + z

theorem LessInv.step {k b x y : Nat} {ws os : List Nat} (h : LessInv k ws os b) (hx : ws[k]? = some x) (hy : os[k]? = some y) (hx' : x < 4294967296) (hy' : y < 4294967296) : LessInv (k + 1) ws os (subB x y b) := by
  have hb := h.ble
  have hd : subD x y b < 4294967296 ∧ x + 4294967296 * subB x y b = y + b + subD x y b ∧ subB x y b ≤ 1 := by
    unfold subD subB; split <;> omega
  refine ⟨hd.2.2, ?_⟩
  obtain ⟨z, hz, h2⟩ := h.eq
  rw [num_take hx, num_take hy]
  have h3 := hd.2.1
  have h4 := hd.1
  generalize subD x y b = d at *
  generalize subB x y b = q at *
  refine ⟨z + d * 4294967296 ^ k, ?_, ?_⟩
  · have : (d + 1) * 4294967296 ^ k ≤ 4294967296 * 4294967296 ^ k := Nat.mul_le_mul_right _ h4
    rw [Nat.add_mul, Nat.one_mul] at this
    rw [Nat.pow_succ, Nat.mul_comm (4294967296 ^ k)]
    omega
  · have e2 : q * 4294967296 ^ (k + 1) = 4294967296 * q * 4294967296 ^ k := by
      rw [Nat.pow_succ]; simp only [Nat.mul_assoc, Nat.mul_left_comm, Nat.mul_comm]
    have e3 : (x + 4294967296 * q) * 4294967296 ^ k = (y + b + d) * 4294967296 ^ k := by rw [h3]
    rw [Nat.add_mul, Nat.add_mul, Nat.add_mul] at e3
    rw [e2]
    omega

def lessI (H : List Ob) (s1 s2 : Value) (n b k : Nat) (ex : Env) : St := ⟨[(0, s1), (1, s2), (5, .int .u32 b), (8, .int .i64 n), (9, .int .i64 k)] ++ ex, H, []⟩

theorem less_body {H : List Ob} {id1 off1 c1 id2 off2 c2 n b k x y : Nat} {ws os : List Nat} (hr1 : Row .u32 H id1 off1 ws) (hr2 : Row .u32 H id2 off2 os) (hN : n < 2 ^ 40) (hk : k < n) (hx : ws[k]? = some x) (hy : os[k]? = some y) (hx' : x < 4294967296) (hy' : y < 4294967296) (hb : b ≤ 1) :
    evCode T H.length a46_l0 (lessI H (.slice (some ⟨id1, off1, none⟩) n c1) (.slice (some ⟨id2, off2, none⟩) n c2) n b k []) = some (.normal, lessI H (.slice (some ⟨id1, off1, none⟩) n c1) (.slice (some ⟨id2, off2, none⟩) n c2) n (subB x y b) (k + 1) []) := by
  obtain ⟨o1, ho1, hc1⟩ := hr1
  obtain ⟨o2, ho2, hc2⟩ := hr2
  have hxc := hc1 k x hx
  have hyc := hc2 k y hy
  have h1 : ((k : Int) < (n : Int)) := by omega
  have hsub := sub32_ev hx' hy' hb
  have e10 : IntKind.i64.wrap ((k : Int) + 1) = ((k + 1 : Nat) : Int) := wrap_nat (n := k + 1) (by omega)
  simp only [lessI, a46_l0, envOf, evCode_skip, evCode_exit, evCode_seq, evCode_region, evCode_cond, evCode_block, evCode_ret, evOps_cons, evOps_nil, guardOf, simpleOp, opd, opds, opdOpt, opdParts, Env.get, Env.put, pureV, Option.bind_some, List.nil_append, List.cons_append, inMerge, pairsOk, List.all_nil, List.all_cons, St.after, Env.keep, if_true, if_false, ite_true, ite_false, binV, intBin, unV, shiftOp, resultOf, packed, reduceCtorEq, Option.isNone_none, Option.isSome_none, Bool.false_eq_true, Nat.reduceAdd, Nat.reduceEqDiff, Nat.reduceMul, Nat.zero_add, List.length_cons, List.length_nil, beq_self_eq_true, Bool.not_true, Bool.not_false, evOper_move, evOper_pick, evOper_alloc, evOper_box, evOper_load, evOper_store, evOper_bin, evOper_eqv, evOper_isNil, evOper_un, evOper_conv, evOper_convStr, evOper_s2b, evOper_b2s, evOper_field, evOper_index, evOper_indexStr, evOper_build, evOper_buildSlice, evOper_fieldAddr, evOper_indexAddr, evOper_indexSl, evOper_sliceArr, evOper_sliceSl, evOper_sliceStr, evOper_makeSlice, evOper_extract, evOper_mkIface, evOper_mkFunc, evOper_nilCheck, evOper_s2ap, evOper_append, evOper_copy, evOper_len, evOper_minmax, evOper_call, evOper_callVal, Ob.fresh, live0, live1, live2, Int.natCast_nonneg, and_self, true_and, and_true, Int.toNat_natCast, Nat.mul_one, addr_add, partL, cells_int, cells_int_size, okVar, splice_single, Nat.lt_irrefl, false_and, decide_true, decide_false, Nat.add_zero, Int.reduceEq, Int.reduceLT, Int.reduceLE, Int.reduceToNat, Nat.reduceLT, Nat.reduceSub, rf_int, rf_tuple_ints, toList2, Bool.and_true, Bool.true_and, Bool.and_self, List.getElem?_cons_zero, List.getElem?_cons_succ, nlt1, nlt2, nlt3, nlt4, Nat.le_refl, Int.le_refl, Nat.not_lt_zero, Nat.sub_zero, Nat.zero_mul, cells_agg, cells_agg_size, h1, ho1, ho2, hxc, hyc, hsub, e10]

theorem less_ev {H : List Ob} {id1 off1 c1 id2 off2 c2 n : Nat} {ws os : List Nat} (hr1 : Row .u32 H id1 off1 ws) (hr2 : Row .u32 H id2 off2 os) (hn : ws.length = n) (hm : os.length = n) (hN : n < 2 ^ 40) (hws : ∀ x ∈ ws, x < 4294967296) (hos : ∀ x ∈ os, x < 4294967296) :
    evFun T 46 [.slice (some ⟨id1, off1, none⟩) n c1, .slice (some ⟨id2, off2, none⟩) n c2] H = some (.bool (decide (num 4294967296 ws < num 4294967296 os)), H, []) := by
  obtain ⟨s', hb, b, rfl, hinv⟩ := block_inv (T := T) (base := H.length) (id := 0) (body := a46_l0)
    (fun k s => ∃ b, s = lessI H (.slice (some ⟨id1, off1, none⟩) n c1) (.slice (some ⟨id2, off2, none⟩) n c2) n b k [] ∧ LessInv k ws os b)
    (Q := fun s => ∃ b, s = lessI H (.slice (some ⟨id1, off1, none⟩) n c1) (.slice (some ⟨id2, off2, none⟩) n c2) n b n [(10, .bool false)] ∧ LessInv n ws os b)
    n (s := lessI H (.slice (some ⟨id1, off1, none⟩) n c1) (.slice (some ⟨id2, off2, none⟩) n c2) n 0 0 []) ⟨_, rfl, ⟨by decide, 0, by decide, by simp [num]⟩⟩
    (fun k s hk hs => by
      obtain ⟨b, rfl, hI⟩ := hs
      obtain ⟨x, hx⟩ : ∃ x, ws[k]? = some x := ⟨_, List.getElem?_eq_getElem (by omega)⟩
      obtain ⟨y, hy⟩ : ∃ y, os[k]? = some y := ⟨_, List.getElem?_eq_getElem (by omega)⟩
      have hx' := hws x (List.mem_of_getElem? hx)
      have hy' := hos y (List.mem_of_getElem? hy)
      exact ⟨_, less_body hr1 hr2 hN hk hx hy hx' hy' hI.ble, _, rfl, hI.step hx hy hx' hy'⟩)
    (fun s hs => by
      obtain ⟨b, rfl, hI⟩ := hs
      have h1 : ¬ ((n : Int) < (n : Int)) := by omega
      refine ⟨_, ?_, b, rfl, hI⟩
      simp only [lessI, a46_l0, envOf, evCode_skip, evCode_exit, evCode_seq, evCode_region, evCode_cond, evCode_block, evCode_ret, evOps_cons, evOps_nil, guardOf, simpleOp, opd, opds, opdOpt, opdParts, Env.get, Env.put, pureV, Option.bind_some, List.nil_append, List.cons_append, inMerge, pairsOk, List.all_nil, List.all_cons, St.after, Env.keep, if_true, if_false, ite_true, ite_false, binV, intBin, unV, shiftOp, resultOf, packed, reduceCtorEq, Option.isNone_none, Option.isSome_none, Bool.false_eq_true, Nat.reduceAdd, Nat.reduceEqDiff, Nat.reduceMul, Nat.zero_add, List.length_cons, List.length_nil, beq_self_eq_true, Bool.not_true, Bool.not_false, evOper_move, evOper_pick, evOper_alloc, evOper_box, evOper_load, evOper_store, evOper_bin, evOper_eqv, evOper_isNil, evOper_un, evOper_conv, evOper_convStr, evOper_s2b, evOper_b2s, evOper_field, evOper_index, evOper_indexStr, evOper_build, evOper_buildSlice, evOper_fieldAddr, evOper_indexAddr, evOper_indexSl, evOper_sliceArr, evOper_sliceSl, evOper_sliceStr, evOper_makeSlice, evOper_extract, evOper_mkIface, evOper_mkFunc, evOper_nilCheck, evOper_s2ap, evOper_append, evOper_copy, evOper_len, evOper_minmax, evOper_call, evOper_callVal, Ob.fresh, live0, live1, live2, Int.natCast_nonneg, and_self, true_and, and_true, Int.toNat_natCast, Nat.mul_one, addr_add, partL, cells_int, cells_int_size, okVar, splice_single, Nat.lt_irrefl, false_and, decide_true, decide_false, Nat.add_zero, Int.reduceEq, Int.reduceLT, Int.reduceLE, Int.reduceToNat, Nat.reduceLT, Nat.reduceSub, rf_int, rf_tuple_ints, toList2, Bool.and_true, Bool.true_and, Bool.and_self, List.getElem?_cons_zero, List.getElem?_cons_succ, nlt1, nlt2, nlt3, nlt4, Nat.le_refl, Int.le_refl, Nat.not_lt_zero, Nat.sub_zero, Nat.zero_mul, cells_agg, cells_agg_size, h1])
  rw [show lessI H (.slice (some ⟨id1, off1, none⟩) n c1) (.slice (some ⟨id2, off2, none⟩) n c2) n 0 0 [] = ⟨[(0, .slice (some ⟨id1, off1, none⟩) n c1), (1, .slice (some ⟨id2, off2, none⟩) n c2), (5, .int .u32 0), (8, .int .i64 n), (9, .int .i64 0)], H, []⟩ from rfl] at hb
  obtain ⟨z, hz, h2⟩ := hinv.eq
  rw [List.take_of_length_le (by omega), List.take_of_length_le (by omega)] at h2
  have h3 := num_lt hws
  rw [hn] at h3
  have hble := hinv.ble
  have hres : (((b : Nat) : Int) == 1) = decide (num 4294967296 ws < num 4294967296 os) := by
    rcases Nat.lt_or_ge 0 b with h | h
    · have hb1 : b = 1 := by omega
      subst hb1
      have : num 4294967296 ws < num 4294967296 os := by omega
      simp [this]
    · have hb0 : b = 0 := by omega
      subst hb0
      have : ¬ num 4294967296 ws < num 4294967296 os := by omega
      simp [this]
  rw [evFun_fn (fn := a46) rfl]
  simp only [a46, envOf, evCode_skip, evCode_exit, evCode_seq, evCode_region, evCode_cond, evCode_block, evCode_ret, evOps_cons, evOps_nil, guardOf, simpleOp, opd, opds, opdOpt, opdParts, Env.get, Env.put, pureV, Option.bind_some, List.nil_append, List.cons_append, inMerge, pairsOk, List.all_nil, List.all_cons, St.after, Env.keep, if_true, if_false, ite_true, ite_false, binV, intBin, unV, shiftOp, resultOf, packed, reduceCtorEq, Option.isNone_none, Option.isSome_none, Bool.false_eq_true, Nat.reduceAdd, Nat.reduceEqDiff, Nat.reduceMul, Nat.zero_add, List.length_cons, List.length_nil, beq_self_eq_true, Bool.not_true, Bool.not_false, evOper_move, evOper_pick, evOper_alloc, evOper_box, evOper_load, evOper_store, evOper_bin, evOper_eqv, evOper_isNil, evOper_un, evOper_conv, evOper_convStr, evOper_s2b, evOper_b2s, evOper_field, evOper_index, evOper_indexStr, evOper_build, evOper_buildSlice, evOper_fieldAddr, evOper_indexAddr, evOper_indexSl, evOper_sliceArr, evOper_sliceSl, evOper_sliceStr, evOper_makeSlice, evOper_extract, evOper_mkIface, evOper_mkFunc, evOper_nilCheck, evOper_s2ap, evOper_append, evOper_copy, evOper_len, evOper_minmax, evOper_call, evOper_callVal, Ob.fresh, live0, live1, live2, Int.natCast_nonneg, and_self, true_and, and_true, Int.toNat_natCast, Nat.mul_one, addr_add, partL, cells_int, cells_int_size, okVar, splice_single, Nat.lt_irrefl, false_and, decide_true, decide_false, Nat.add_zero, Int.reduceEq, Int.reduceLT, Int.reduceLE, Int.reduceToNat, Nat.reduceLT, Nat.reduceSub, rf_int, rf_tuple_ints, toList2, Bool.and_true, Bool.true_and, Bool.and_self, List.getElem?_cons_zero, List.getElem?_cons_succ, nlt1, nlt2, nlt3, nlt4, Nat.le_refl, Int.le_refl, Nat.not_lt_zero, Nat.sub_zero, Nat.zero_mul, cells_agg, cells_agg_size, hb, lessI, hres]
end Go.Ev.Ytaceeoghjgggjaa

/-
  scalar.Canonical.
-/
set_option linter.unusedSimpArgs false
set_option linter.unusedVariables false
namespace Go.Ev.Ytaceeoghjgggjaa
open Go Go.Ev
attribute [local congr] bind_congr1
set_option maxRecDepth 100000

theorem canonical_ev {a : List Nat} (la : a.length = 32) (xa : ∀ x ∈ a, x < 256) : ∃ l, evFun T 21 [.agg (u8s a).toArray] [] = some (.bool (decide (num 256 a < ell)), l, []) := by
  obtain ⟨H, hH⟩ : ∃ H : List Ob, H = [⟨u8s a, true, true, true, 1⟩] := ⟨_, rfl⟩
  have ra : Row .u8 H 0 0 a := by subst hH; exact ⟨_, rfl, fun i x hx => by rw [Nat.zero_add]; exact u8s_get hx⟩
  have h1 := of_ev (c := 32) ra la (by decide) xa
  have r1 := (row_new (H := H) (ws := dig 4294967296 8 (num 256 a))).app (l := [Ob.fresh (u32s orderW)])
  have h2 := order_ev (H ++ [Ob.fresh (u32s (dig 4294967296 8 (num 256 a)))])
  have r2 := row_new (H := H ++ [Ob.fresh (u32s (dig 4294967296 8 (num 256 a)))]) (ws := orderW)
  have h3 := less_ev (c1 := 8) (c2 := 8) r1 r2 (dig_len _ _ _) rfl (by decide) dig_lt' order_lt
  rw [num_dig (by decide), Nat.mod_eq_of_lt (num_key la xa), ell_num] at h3
  change evFun T 40 _ H = some (.slice (some ⟨H.length, 0, none⟩) 8 8, H ++ [Ob.fresh (u32s (dig 4294967296 8 (num 256 a)))], []) at h1
  generalize hH5 : H ++ [Ob.fresh (u32s (dig 4294967296 8 (num 256 a)))] = H5 at h1 h2 h3
  generalize hH6 : H5 ++ [Ob.fresh (u32s orderW)] = H6 at h2 h3
  refine ⟨H6, ?_⟩
  rw [evFun_fn (fn := a21) rfl]
  simp only [a21, envOf, evCode_skip, evCode_exit, evCode_seq, evCode_region, evCode_cond, evCode_block, evCode_ret, evOps_cons, evOps_nil, guardOf, simpleOp, opd, opds, opdOpt, opdParts, Env.get, Env.put, pureV, Option.bind_some, List.nil_append, List.cons_append, inMerge, pairsOk, List.all_nil, List.all_cons, St.after, Env.keep, if_true, if_false, ite_true, ite_false, binV, intBin, unV, shiftOp, resultOf, packed, reduceCtorEq, Option.isNone_none, Option.isSome_none, Bool.false_eq_true, Nat.reduceAdd, Nat.reduceEqDiff, Nat.reduceMul, Nat.zero_add, List.length_cons, List.length_nil, beq_self_eq_true, Bool.not_true, Bool.not_false, evOper_move, evOper_pick, evOper_alloc, evOper_box, evOper_load, evOper_store, evOper_bin, evOper_eqv, evOper_isNil, evOper_un, evOper_conv, evOper_convStr, evOper_s2b, evOper_b2s, evOper_field, evOper_index, evOper_indexStr, evOper_build, evOper_buildSlice, evOper_fieldAddr, evOper_indexAddr, evOper_indexSl, evOper_sliceArr, evOper_sliceSl, evOper_sliceStr, evOper_makeSlice, evOper_extract, evOper_mkIface, evOper_mkFunc, evOper_nilCheck, evOper_s2ap, evOper_append, evOper_copy, evOper_len, evOper_minmax, evOper_call, evOper_callVal, Ob.fresh, live0, live1, live2, Int.natCast_nonneg, and_self, true_and, and_true, Int.toNat_natCast, Nat.mul_one, addr_add, partL, cells_int, cells_int_size, okVar, splice_single, Nat.lt_irrefl, false_and, decide_true, decide_false, Nat.add_zero, Int.reduceEq, Int.reduceLT, Int.reduceLE, Int.reduceToNat, Nat.reduceLT, Nat.reduceSub, rf_int, rf_tuple_ints, toList2, Bool.and_true, Bool.true_and, Bool.and_self, List.getElem?_cons_zero, List.getElem?_cons_succ, nlt1, nlt2, nlt3, nlt4, Nat.le_refl, Int.le_refl, Nat.not_lt_zero, Nat.sub_zero, Nat.zero_mul, cells_agg, cells_agg_size, ← hH, bnd32, h1, h2, h3]
end Go.Ev.Ytaceeoghjgggjaa

/-
  scalar.Reduce: parts are put together, and what is left by the order is told.
-/
set_option linter.unusedSimpArgs false
set_option linter.unusedVariables false
namespace Go.Ev.Ytaceeoghjgggjaa
open Go Go.Ev
attribute [local congr] bind_congr1
set_option maxRecDepth 100000

/-- Slices that lie one behind the other in an object. -/
def Parts (k : IntKind) (H : List Ob) (id off : Nat) (ps : List (List Nat)) : Prop :=
  ∃ o, liveAt H id = some o ∧ ∀ (i : Nat) (p : List Nat), ps[i]? = some p → ∃ v, o.cells[off + i]? = some v ∧ Sl k H v p

def redI (R s pv : Value) (n i : Nat) (H : List Ob) (ex : Env) : St := ⟨[(2, R), (3, s), (6, pv), (7, .int .i64 n), (8, .int .i64 i)] ++ ex, H, []⟩

theorem flat_take {ps : List (List Nat)} {i : Nat} {p : List Nat} (h : ps[i]? = some p) : (ps.take (i + 1)).flatten = (ps.take i).flatten ++ p := by
  rw [List.take_add_one, h]; simp
theorem flat_len {ps : List (List Nat)} {i : Nat} {p : List Nat} (h : ps[i]? = some p) : (ps.take i).flatten.length + p.length ≤ ps.flatten.length := by
  have h1 := congrArg List.length (flat_take h)
  rw [List.length_append] at h1
  rw [← h1]
  conv => rhs; rw [← List.take_append_drop (i + 1) ps, List.flatten_append, List.length_append]
  omega

theorem red_body {H Hc : List Ob} {R s : Value} {id off c n i : Nat} {ps : List (List Nat)} {p : List Nat} (hp : Parts .u8 H id off ps) (hi : i < n) (hN : n < 2 ^ 40) (hpi : ps[i]? = some p) (hS : ps.flatten.length ≤ 2 ^ 40)
    (hB : H.length + 1 ≤ Hc.length) (hc : ∀ j, j < H.length → Hc[j]? = H[j]?) (hg : Grown .u8 (H.length + 1) Hc s ((ps.take i).flatten)) :
    ∃ s' H', evCode T H.length a17_l0 (redI R s (.slice (some ⟨id, off, none⟩) n c) n i Hc []) = some (.normal, redI R s' (.slice (some ⟨id, off, none⟩) n c) n (i + 1) H' []) ∧
      H.length + 1 ≤ H'.length ∧ (∀ j, j < H.length + 1 → H'[j]? = Hc[j]?) ∧ Grown .u8 (H.length + 1) H' s' ((ps.take (i + 1)).flatten) := by
  obtain ⟨o, ho, hps⟩ := hp
  obtain ⟨v, hv, hsl⟩ := hps i p hpi
  have ho' : liveAt Hc id = some o := by rw [liveAt_congr (hc _ (liveAt_lt ho))]; exact ho
  have hsl' := hsl.congr hc
  have hlen := flat_len hpi
  obtain ⟨s', H', M, ha, hg', hM, hL, hK⟩ := hg.append (bytes := 1) hB hsl'.lenV hsl'.elems (by omega) (by decide)
  have h1 : ((i : Int) < (n : Int)) := by omega
  have e10 : IntKind.i64.wrap ((i : Int) + 1) = ((i + 1 : Nat) : Int) := wrap_nat (n := i + 1) (by omega)
  have hm : inMerge H.length [] M = [] := inMerge_ge fun j hj => by have := hM j hj; omega
  refine ⟨s', H', ?_, by omega, hK, by rw [flat_take hpi]; exact hg'⟩
  simp only [redI, a17_l0, envOf, evCode_skip, evCode_exit, evCode_seq, evCode_region, evCode_cond, evCode_block, evCode_ret, evOps_cons, evOps_nil, guardOf, simpleOp, opd, opds, opdOpt, opdParts, Env.get, Env.put, pureV, Option.bind_some, List.nil_append, List.cons_append, inMerge, pairsOk, List.all_nil, List.all_cons, St.after, Env.keep, if_true, if_false, ite_true, ite_false, binV, intBin, unV, shiftOp, resultOf, packed, reduceCtorEq, Option.isNone_none, Option.isSome_none, Bool.false_eq_true, Nat.reduceAdd, Nat.reduceEqDiff, Nat.reduceMul, Nat.zero_add, List.length_cons, List.length_nil, beq_self_eq_true, Bool.not_true, Bool.not_false, evOper_move, evOper_pick, evOper_alloc, evOper_box, evOper_load, evOper_store, evOper_bin, evOper_eqv, evOper_isNil, evOper_un, evOper_conv, evOper_convStr, evOper_s2b, evOper_b2s, evOper_field, evOper_index, evOper_indexStr, evOper_build, evOper_buildSlice, evOper_fieldAddr, evOper_indexAddr, evOper_indexSl, evOper_sliceArr, evOper_sliceSl, evOper_sliceStr, evOper_makeSlice, evOper_extract, evOper_mkIface, evOper_mkFunc, evOper_nilCheck, evOper_s2ap, evOper_append, evOper_copy, evOper_len, evOper_minmax, evOper_call, evOper_callVal, Ob.fresh, live0, live1, live2, Int.natCast_nonneg, and_self, true_and, and_true, Int.toNat_natCast, Nat.mul_one, addr_add, partL, cells_int, cells_int_size, okVar, splice_single, Nat.lt_irrefl, false_and, decide_true, decide_false, Nat.add_zero, Int.reduceEq, Int.reduceLT, Int.reduceLE, Int.reduceToNat, Nat.reduceLT, Nat.reduceSub, rf_int, rf_tuple_ints, toList2, Bool.and_true, Bool.true_and, Bool.and_self, List.getElem?_cons_zero, List.getElem?_cons_succ, nlt1, nlt2, nlt3, nlt4, Nat.le_refl, Int.le_refl, Nat.not_lt_zero, Nat.sub_zero, Nat.zero_mul, cells_agg, cells_agg_size, h1, ho', hv, e10, ha, hm]

theorem of_nil (H : List Ob) : evFun T 40 [.slice none 0 0] H = some (.slice (some ⟨H.length, 0, none⟩) 0 0, H ++ [Ob.fresh []], []) := by
  have hl : evCode T H.length (.loop a40_l0) ⟨[(3, .slice (some ⟨H.length, 0, none⟩) 0 0), (11, .slice none 0 0), (12, .int .i64 0), (13, .int .i64 0)], H ++ [⟨[], true, true, true, 1⟩], []⟩ = some (.exit 0, ⟨[(3, .slice (some ⟨H.length, 0, none⟩) 0 0), (11, .slice none 0 0), (12, .int .i64 0), (13, .int .i64 0), (14, .bool false)], H ++ [⟨[], true, true, true, 1⟩], []⟩) := by
    rw [evCode_loop]
    simp only [a40_l0, envOf, evCode_skip, evCode_exit, evCode_seq, evCode_region, evCode_cond, evCode_block, evCode_ret, evOps_cons, evOps_nil, guardOf, simpleOp, opd, opds, opdOpt, opdParts, Env.get, Env.put, pureV, Option.bind_some, List.nil_append, List.cons_append, inMerge, pairsOk, List.all_nil, List.all_cons, St.after, Env.keep, if_true, if_false, ite_true, ite_false, binV, intBin, unV, shiftOp, resultOf, packed, reduceCtorEq, Option.isNone_none, Option.isSome_none, Bool.false_eq_true, Nat.reduceAdd, Nat.reduceEqDiff, Nat.reduceMul, Nat.zero_add, List.length_cons, List.length_nil, beq_self_eq_true, Bool.not_true, Bool.not_false, evOper_move, evOper_pick, evOper_alloc, evOper_box, evOper_load, evOper_store, evOper_bin, evOper_eqv, evOper_isNil, evOper_un, evOper_conv, evOper_convStr, evOper_s2b, evOper_b2s, evOper_field, evOper_index, evOper_indexStr, evOper_build, evOper_buildSlice, evOper_fieldAddr, evOper_indexAddr, evOper_indexSl, evOper_sliceArr, evOper_sliceSl, evOper_sliceStr, evOper_makeSlice, evOper_extract, evOper_mkIface, evOper_mkFunc, evOper_nilCheck, evOper_s2ap, evOper_append, evOper_copy, evOper_len, evOper_minmax, evOper_call, evOper_callVal, Ob.fresh, live0, live1, live2, Int.natCast_nonneg, and_self, true_and, and_true, Int.toNat_natCast, Nat.mul_one, addr_add, partL, cells_int, cells_int_size, okVar, splice_single, Nat.lt_irrefl, false_and, decide_true, decide_false, Nat.add_zero, Int.reduceEq, Int.reduceLT, Int.reduceLE, Int.reduceToNat, Nat.reduceLT, Nat.reduceSub, rf_int, rf_tuple_ints, toList2, Bool.and_true, Bool.true_and, Bool.and_self, List.getElem?_cons_zero, List.getElem?_cons_succ, nlt1, nlt2, nlt3, nlt4, Nat.le_refl, Int.le_refl, Nat.not_lt_zero, Nat.sub_zero, Nat.zero_mul, cells_agg, cells_agg_size, wrapI64_small, Int.natCast_zero, Int.natCast_one, Int.cast_ofNat_Int, List.length_nil, List.length_cons, List.getElem?_cons_zero, List.getElem?_cons_succ, List.set_cons_zero, List.set_cons_succ, Nat.zero_add, Nat.add_zero, Nat.mul_one, Nat.zero_mul, Int.toNat_natCast, Int.toNat_zero, Int.lt_irrefl, Int.le_refl, Nat.le_refl, and_self, true_and, and_true, decide_true, decide_false, Int.reduceLE, Int.reduceLT, Int.reduceAdd, Int.reduceMul, Int.reduceSub, Int.reduceTDiv, Int.reduceTMod, Int.reduceNeg, Int.reduceToNat, Int.reduceGT, Int.reduceGE, Int.reducePow, Nat.reduceAdd, Nat.reduceMul, Nat.reduceSub, Nat.reduceDiv, Nat.reduceMod, Nat.reducePow, Nat.reduceLT, Nat.reduceLeDiff, Nat.min_self, ge_iff_le, gt_iff_lt, Option.isNone_none, Option.isSome_none, Option.isNone_some, Option.isSome_some, Bool.and_true, Bool.true_and, Bool.and_false, Bool.false_and, not_true_eq_false, not_false_eq_true, or_true, true_or, false_or, or_false]
  rw [evFun_fn (fn := a40) rfl]
  simp only [a40, envOf, evCode_skip, evCode_exit, evCode_seq, evCode_region, evCode_cond, evCode_block, evCode_ret, evOps_cons, evOps_nil, guardOf, simpleOp, opd, opds, opdOpt, opdParts, Env.get, Env.put, pureV, Option.bind_some, List.nil_append, List.cons_append, inMerge, pairsOk, List.all_nil, List.all_cons, St.after, Env.keep, if_true, if_false, ite_true, ite_false, binV, intBin, unV, shiftOp, resultOf, packed, reduceCtorEq, Option.isNone_none, Option.isSome_none, Bool.false_eq_true, Nat.reduceAdd, Nat.reduceEqDiff, Nat.reduceMul, Nat.zero_add, List.length_cons, List.length_nil, beq_self_eq_true, Bool.not_true, Bool.not_false, evOper_move, evOper_pick, evOper_alloc, evOper_box, evOper_load, evOper_store, evOper_bin, evOper_eqv, evOper_isNil, evOper_un, evOper_conv, evOper_convStr, evOper_s2b, evOper_b2s, evOper_field, evOper_index, evOper_indexStr, evOper_build, evOper_buildSlice, evOper_fieldAddr, evOper_indexAddr, evOper_indexSl, evOper_sliceArr, evOper_sliceSl, evOper_sliceStr, evOper_makeSlice, evOper_extract, evOper_mkIface, evOper_mkFunc, evOper_nilCheck, evOper_s2ap, evOper_append, evOper_copy, evOper_len, evOper_minmax, evOper_call, evOper_callVal, Ob.fresh, live0, live1, live2, Int.natCast_nonneg, and_self, true_and, and_true, Int.toNat_natCast, Nat.mul_one, addr_add, partL, cells_int, cells_int_size, okVar, splice_single, Nat.lt_irrefl, false_and, decide_true, decide_false, Nat.add_zero, Int.reduceEq, Int.reduceLT, Int.reduceLE, Int.reduceToNat, Nat.reduceLT, Nat.reduceSub, rf_int, rf_tuple_ints, toList2, Bool.and_true, Bool.true_and, Bool.and_self, List.getElem?_cons_zero, List.getElem?_cons_succ, nlt1, nlt2, nlt3, nlt4, Nat.le_refl, Int.le_refl, Nat.not_lt_zero, Nat.sub_zero, Nat.zero_mul, cells_agg, cells_agg_size, wrapI64_small, Int.natCast_zero, Int.natCast_one, Int.cast_ofNat_Int, List.length_nil, List.length_cons, List.getElem?_cons_zero, List.getElem?_cons_succ, List.set_cons_zero, List.set_cons_succ, Nat.zero_add, Nat.add_zero, Nat.mul_one, Nat.zero_mul, Int.toNat_natCast, Int.toNat_zero, Int.lt_irrefl, Int.le_refl, Nat.le_refl, and_self, true_and, and_true, decide_true, decide_false, Int.reduceLE, Int.reduceLT, Int.reduceAdd, Int.reduceMul, Int.reduceSub, Int.reduceTDiv, Int.reduceTMod, Int.reduceNeg, Int.reduceToNat, Int.reduceGT, Int.reduceGE, Int.reducePow, Nat.reduceAdd, Nat.reduceMul, Nat.reduceSub, Nat.reduceDiv, Nat.reduceMod, Nat.reducePow, Nat.reduceLT, Nat.reduceLeDiff, Nat.min_self, ge_iff_le, gt_iff_lt, Option.isNone_none, Option.isSome_none, Option.isNone_some, Option.isSome_some, Bool.and_true, Bool.true_and, Bool.and_false, Bool.false_and, not_true_eq_false, not_false_eq_true, or_true, true_or, false_or, or_false, List.replicate_zero, List.flatten_nil, hl]
theorem mod_nil (H : List Ob) (id : Nat) : evFun T 41 [.slice (some ⟨id, 0, none⟩) 0 0] H = some (.slice (some ⟨H.length, 0, none⟩) 8 8, H ++ [⟨u32s (dig 4294967296 8 0), true, true, true, 1⟩, ⟨u32s orderW, true, true, true, 1⟩, ⟨u32s (dig 4294967296 8 0), true, true, true, 1⟩], []) := by
  have hz : (List.replicate 8 [Value.int .u32 0]).flatten = u32s (dig 4294967296 8 0) := rfl
  have ho := order_ev (H ++ [⟨u32s (dig 4294967296 8 0), true, true, true, 1⟩])
  have hl : evCode T H.length (.loop a41_l2) ⟨[(0, .slice (some ⟨id, 0, none⟩) 0 0), (3, .slice (some ⟨H.length, 0, none⟩) 8 8), (4, .slice (some ⟨H.length + 1, 0, none⟩) 8 8), (5, .slice (some ⟨H.length + 2, 0, none⟩) 8 8), (6, .int .i64 (-1))], H ++ [⟨u32s (dig 4294967296 8 0), true, true, true, 1⟩, ⟨u32s orderW, true, true, true, 1⟩, ⟨u32s (dig 4294967296 8 0), true, true, true, 1⟩], []⟩ = some (.exit 0, ⟨[(0, .slice (some ⟨id, 0, none⟩) 0 0), (3, .slice (some ⟨H.length, 0, none⟩) 8 8), (4, .slice (some ⟨H.length + 1, 0, none⟩) 8 8), (5, .slice (some ⟨H.length + 2, 0, none⟩) 8 8), (6, .int .i64 (-1)), (19, .bool false)], H ++ [⟨u32s (dig 4294967296 8 0), true, true, true, 1⟩, ⟨u32s orderW, true, true, true, 1⟩, ⟨u32s (dig 4294967296 8 0), true, true, true, 1⟩], []⟩) := by
    rw [evCode_loop]
    have e : ((0 : Int) ≤ -1) = False := by decide
    simp only [a41_l2, envOf, evCode_skip, evCode_exit, evCode_seq, evCode_region, evCode_cond, evCode_block, evCode_ret, evOps_cons, evOps_nil, guardOf, simpleOp, opd, opds, opdOpt, opdParts, Env.get, Env.put, pureV, Option.bind_some, List.nil_append, List.cons_append, inMerge, pairsOk, List.all_nil, List.all_cons, St.after, Env.keep, if_true, if_false, ite_true, ite_false, binV, intBin, unV, shiftOp, resultOf, packed, reduceCtorEq, Option.isNone_none, Option.isSome_none, Bool.false_eq_true, Nat.reduceAdd, Nat.reduceEqDiff, Nat.reduceMul, Nat.zero_add, List.length_cons, List.length_nil, beq_self_eq_true, Bool.not_true, Bool.not_false, evOper_move, evOper_pick, evOper_alloc, evOper_box, evOper_load, evOper_store, evOper_bin, evOper_eqv, evOper_isNil, evOper_un, evOper_conv, evOper_convStr, evOper_s2b, evOper_b2s, evOper_field, evOper_index, evOper_indexStr, evOper_build, evOper_buildSlice, evOper_fieldAddr, evOper_indexAddr, evOper_indexSl, evOper_sliceArr, evOper_sliceSl, evOper_sliceStr, evOper_makeSlice, evOper_extract, evOper_mkIface, evOper_mkFunc, evOper_nilCheck, evOper_s2ap, evOper_append, evOper_copy, evOper_len, evOper_minmax, evOper_call, evOper_callVal, Ob.fresh, live0, live1, live2, Int.natCast_nonneg, and_self, true_and, and_true, Int.toNat_natCast, Nat.mul_one, addr_add, partL, cells_int, cells_int_size, okVar, splice_single, Nat.lt_irrefl, false_and, decide_true, decide_false, Nat.add_zero, Int.reduceEq, Int.reduceLT, Int.reduceLE, Int.reduceToNat, Nat.reduceLT, Nat.reduceSub, rf_int, rf_tuple_ints, toList2, Bool.and_true, Bool.true_and, Bool.and_self, List.getElem?_cons_zero, List.getElem?_cons_succ, nlt1, nlt2, nlt3, nlt4, Nat.le_refl, Int.le_refl, Nat.not_lt_zero, Nat.sub_zero, Nat.zero_mul, cells_agg, cells_agg_size, wrapI64_small, Int.natCast_zero, Int.natCast_one, Int.cast_ofNat_Int, List.length_nil, List.length_cons, List.getElem?_cons_zero, List.getElem?_cons_succ, List.set_cons_zero, List.set_cons_succ, Nat.zero_add, Nat.add_zero, Nat.mul_one, Nat.zero_mul, Int.toNat_natCast, Int.toNat_zero, Int.lt_irrefl, Int.le_refl, Nat.le_refl, and_self, true_and, and_true, decide_true, decide_false, Int.reduceLE, Int.reduceLT, Int.reduceAdd, Int.reduceMul, Int.reduceSub, Int.reduceTDiv, Int.reduceTMod, Int.reduceNeg, Int.reduceToNat, Int.reduceGT, Int.reduceGE, Int.reducePow, Nat.reduceAdd, Nat.reduceMul, Nat.reduceSub, Nat.reduceDiv, Nat.reduceMod, Nat.reducePow, Nat.reduceLT, Nat.reduceLeDiff, Nat.min_self, ge_iff_le, gt_iff_lt, Option.isNone_none, Option.isSome_none, Option.isNone_some, Option.isSome_some, Bool.and_true, Bool.true_and, Bool.and_false, Bool.false_and, not_true_eq_false, not_false_eq_true, or_true, true_or, false_or, or_false, e]
  rw [evFun_fn (fn := a41) rfl]
  simp only [a41, envOf, evCode_skip, evCode_exit, evCode_seq, evCode_region, evCode_cond, evCode_block, evCode_ret, evOps_cons, evOps_nil, guardOf, simpleOp, opd, opds, opdOpt, opdParts, Env.get, Env.put, pureV, Option.bind_some, List.nil_append, List.cons_append, inMerge, pairsOk, List.all_nil, List.all_cons, St.after, Env.keep, if_true, if_false, ite_true, ite_false, binV, intBin, unV, shiftOp, resultOf, packed, reduceCtorEq, Option.isNone_none, Option.isSome_none, Bool.false_eq_true, Nat.reduceAdd, Nat.reduceEqDiff, Nat.reduceMul, Nat.zero_add, List.length_cons, List.length_nil, beq_self_eq_true, Bool.not_true, Bool.not_false, evOper_move, evOper_pick, evOper_alloc, evOper_box, evOper_load, evOper_store, evOper_bin, evOper_eqv, evOper_isNil, evOper_un, evOper_conv, evOper_convStr, evOper_s2b, evOper_b2s, evOper_field, evOper_index, evOper_indexStr, evOper_build, evOper_buildSlice, evOper_fieldAddr, evOper_indexAddr, evOper_indexSl, evOper_sliceArr, evOper_sliceSl, evOper_sliceStr, evOper_makeSlice, evOper_extract, evOper_mkIface, evOper_mkFunc, evOper_nilCheck, evOper_s2ap, evOper_append, evOper_copy, evOper_len, evOper_minmax, evOper_call, evOper_callVal, Ob.fresh, live0, live1, live2, Int.natCast_nonneg, and_self, true_and, and_true, Int.toNat_natCast, Nat.mul_one, addr_add, partL, cells_int, cells_int_size, okVar, splice_single, Nat.lt_irrefl, false_and, decide_true, decide_false, Nat.add_zero, Int.reduceEq, Int.reduceLT, Int.reduceLE, Int.reduceToNat, Nat.reduceLT, Nat.reduceSub, rf_int, rf_tuple_ints, toList2, Bool.and_true, Bool.true_and, Bool.and_self, List.getElem?_cons_zero, List.getElem?_cons_succ, nlt1, nlt2, nlt3, nlt4, Nat.le_refl, Int.le_refl, Nat.not_lt_zero, Nat.sub_zero, Nat.zero_mul, cells_agg, cells_agg_size, wrapI64_small, Int.natCast_zero, Int.natCast_one, Int.cast_ofNat_Int, List.length_nil, List.length_cons, List.getElem?_cons_zero, List.getElem?_cons_succ, List.set_cons_zero, List.set_cons_succ, Nat.zero_add, Nat.add_zero, Nat.mul_one, Nat.zero_mul, Int.toNat_natCast, Int.toNat_zero, Int.lt_irrefl, Int.le_refl, Nat.le_refl, and_self, true_and, and_true, decide_true, decide_false, Int.reduceLE, Int.reduceLT, Int.reduceAdd, Int.reduceMul, Int.reduceSub, Int.reduceTDiv, Int.reduceTMod, Int.reduceNeg, Int.reduceToNat, Int.reduceGT, Int.reduceGE, Int.reducePow, Nat.reduceAdd, Nat.reduceMul, Nat.reduceSub, Nat.reduceDiv, Nat.reduceMod, Nat.reducePow, Nat.reduceLT, Nat.reduceLeDiff, Nat.min_self, ge_iff_le, gt_iff_lt, Option.isNone_none, Option.isSome_none, Option.isNone_some, Option.isSome_some, Bool.and_true, Bool.true_and, Bool.and_false, Bool.false_and, not_true_eq_false, not_false_eq_true, or_true, true_or, false_or, or_false, hz, ho, hl, List.length_append, List.append_assoc, Nat.add_assoc, Ob.fresh]

theorem row_fresh {H : List Ob} {id : Nat} {bs : List Nat} (h : H[id]? = some (Ob.fresh (ns .u8 bs))) : Row .u8 H id 0 bs :=
  ⟨_, liveAt_some h rfl, fun i x hx => by rw [Nat.zero_add]; exact ns_get hx⟩
theorem row_grown {H : List Ob} {id : Nat} {bs : List Nat} (h : H[id]? = some (Ob.grown 1 (ns .u8 bs))) : Row .u8 H id 0 bs :=
  ⟨_, liveAt_some h rfl, fun i x hx => by rw [Nat.zero_add]; exact ns_get hx⟩

theorem red_tail {B : Nat} {H : List Ob} {s : Value} {bs : List Nat} (hg : Grown .u8 B H s bs) (hb : ∀ x ∈ bs, x < 256) (hN : bs.length < 2 ^ 40) :
    ∃ v1 v2 l1 l2 l3, evFun T 40 [s] H = some (v1, H ++ l1, []) ∧ evFun T 41 [v1] (H ++ l1) = some (v2, H ++ l1 ++ l2, []) ∧ evFun T 42 [v2] (H ++ l1 ++ l2) = some (.agg (u8s (dig 256 32 (num 256 bs % ell))).toArray, H ++ l1 ++ l2 ++ l3, []) := by
  cases hg with
  | nil =>
    have h1 := of_nil H
    have h2 := mod_nil (H ++ [Ob.fresh []]) H.length
    have r : Row .u32 (H ++ [Ob.fresh []] ++ [⟨u32s (dig 4294967296 8 0), true, true, true, 1⟩, ⟨u32s orderW, true, true, true, 1⟩, ⟨u32s (dig 4294967296 8 0), true, true, true, 1⟩]) (H ++ [Ob.fresh []]).length 0 (dig 4294967296 8 0) :=
      ⟨_, live0, fun i x hx => by rw [Nat.zero_add]; exact u32s_get hx⟩
    obtain ⟨l3, h3⟩ := bytes_ev (cap := 8) r
    exact ⟨_, _, _, _, l3, h1, h2, h3⟩
  | @own id _ g1 g2 g3 =>
    have h1 := of_ev (c := bs.length) (row_grown g3) rfl hN hb
    have hlt : num 256 bs < 4294967296 ^ ((bs.length + 3) / 4) := by
      refine Nat.lt_of_lt_of_le (num_lt hb) ?_
      rw [show (4294967296 : Nat) = 256 ^ 4 from by decide, ← Nat.pow_mul]
      exact Nat.pow_le_pow_right (by decide) (by omega)
    obtain ⟨k, l2, h2, r2⟩ := mod_ev (cap := (bs.length + 3) / 4) (row_new (H := H) (ws := dig 4294967296 ((bs.length + 3) / 4) (num 256 bs))) (dig_len _ _ _) (by omega) (by omega) dig_lt'
    rw [num_dig (by decide), Nat.mod_eq_of_lt hlt] at r2
    obtain ⟨l3, h3⟩ := bytes_ev (cap := 8) r2
    exact ⟨_, _, _, l2, l3, h1, h2, h3⟩
  | @new id _ g1 g2 g3 =>
    have h1 := of_ev (c := bs.length) (row_fresh g3) rfl hN hb
    have hlt : num 256 bs < 4294967296 ^ ((bs.length + 3) / 4) := by
      refine Nat.lt_of_lt_of_le (num_lt hb) ?_
      rw [show (4294967296 : Nat) = 256 ^ 4 from by decide, ← Nat.pow_mul]
      exact Nat.pow_le_pow_right (by decide) (by omega)
    obtain ⟨k, l2, h2, r2⟩ := mod_ev (cap := (bs.length + 3) / 4) (row_new (H := H) (ws := dig 4294967296 ((bs.length + 3) / 4) (num 256 bs))) (dig_len _ _ _) (by omega) (by omega) dig_lt'
    rw [num_dig (by decide), Nat.mod_eq_of_lt hlt] at r2
    obtain ⟨l3, h3⟩ := bytes_ev (cap := 8) r2
    exact ⟨_, _, _, l2, l3, h1, h2, h3⟩

theorem reduce_ev {H : List Ob} {id off c n : Nat} {ps : List (List Nat)} (hp : Parts .u8 H id off ps) (hn : ps.length = n) (hN : n < 2 ^ 40) (hS : ps.flatten.length < 2 ^ 40) (hb : ∀ x ∈ ps.flatten, x < 256) :
    ∃ l, evFun T 17 [.slice (some ⟨id, off, none⟩) n c] H = some (.agg (u8s (dig 256 32 (num 256 ps.flatten % ell))).toArray, H ++ l, []) := by
  have hz : List.replicate 32 (Value.int .u8 0) = u8s (dig 256 32 0) := rfl
  obtain ⟨s', hb1, s, Hc, rfl, hL, hK, hg⟩ := block_inv (T := T) (base := H.length) (id := 0) (body := a17_l0)
    (fun i st => ∃ s Hc, st = redI (.pointer (some ⟨H.length, 0, none⟩)) s (.slice (some ⟨id, off, none⟩) n c) n i Hc [] ∧ H.length + 1 ≤ Hc.length ∧ (∀ j, j < H.length + 1 → Hc[j]? = (H ++ [⟨u8s (dig 256 32 0), true, true, true, 1⟩])[j]?) ∧ Grown .u8 (H.length + 1) Hc s ((ps.take i).flatten))
    (Q := fun st => ∃ s Hc, st = redI (.pointer (some ⟨H.length, 0, none⟩)) s (.slice (some ⟨id, off, none⟩) n c) n n Hc [(9, .bool false)] ∧ H.length + 1 ≤ Hc.length ∧ (∀ j, j < H.length + 1 → Hc[j]? = (H ++ [⟨u8s (dig 256 32 0), true, true, true, 1⟩])[j]?) ∧ Grown .u8 (H.length + 1) Hc s ps.flatten)
    n (s := redI (.pointer (some ⟨H.length, 0, none⟩)) (.slice none 0 0) (.slice (some ⟨id, off, none⟩) n c) n 0 (H ++ [⟨u8s (dig 256 32 0), true, true, true, 1⟩]) []) ⟨_, _, rfl, by simp, fun _ _ => rfl, .nil⟩
    (fun i st hi hs => by
      obtain ⟨s, Hc, rfl, hL, hK, hg⟩ := hs
      obtain ⟨p, hpi⟩ : ∃ p, ps[i]? = some p := ⟨_, List.getElem?_eq_getElem (by omega)⟩
      obtain ⟨s2, H2, h1, h2, h3, h4⟩ := red_body (R := .pointer (some ⟨H.length, 0, none⟩)) (c := c) hp hi hN hpi (by omega) hL (fun j hj => by rw [hK j (by omega), List.getElem?_append_left hj]) hg
      exact ⟨_, h1, s2, H2, rfl, h2, fun j hj => by rw [h3 j hj, hK j hj], h4⟩)
    (fun st hs => by
      obtain ⟨s, Hc, rfl, hL, hK, hg⟩ := hs
      have h1 : ¬ ((n : Int) < (n : Int)) := by omega
      rw [List.take_of_length_le (by omega)] at hg
      refine ⟨_, ?_, s, Hc, rfl, hL, hK, hg⟩
      simp only [redI, a17_l0, envOf, evCode_skip, evCode_exit, evCode_seq, evCode_region, evCode_cond, evCode_block, evCode_ret, evOps_cons, evOps_nil, guardOf, simpleOp, opd, opds, opdOpt, opdParts, Env.get, Env.put, pureV, Option.bind_some, List.nil_append, List.cons_append, inMerge, pairsOk, List.all_nil, List.all_cons, St.after, Env.keep, if_true, if_false, ite_true, ite_false, binV, intBin, unV, shiftOp, resultOf, packed, reduceCtorEq, Option.isNone_none, Option.isSome_none, Bool.false_eq_true, Nat.reduceAdd, Nat.reduceEqDiff, Nat.reduceMul, Nat.zero_add, List.length_cons, List.length_nil, beq_self_eq_true, Bool.not_true, Bool.not_false, evOper_move, evOper_pick, evOper_alloc, evOper_box, evOper_load, evOper_store, evOper_bin, evOper_eqv, evOper_isNil, evOper_un, evOper_conv, evOper_convStr, evOper_s2b, evOper_b2s, evOper_field, evOper_index, evOper_indexStr, evOper_build, evOper_buildSlice, evOper_fieldAddr, evOper_indexAddr, evOper_indexSl, evOper_sliceArr, evOper_sliceSl, evOper_sliceStr, evOper_makeSlice, evOper_extract, evOper_mkIface, evOper_mkFunc, evOper_nilCheck, evOper_s2ap, evOper_append, evOper_copy, evOper_len, evOper_minmax, evOper_call, evOper_callVal, Ob.fresh, live0, live1, live2, Int.natCast_nonneg, and_self, true_and, and_true, Int.toNat_natCast, Nat.mul_one, addr_add, partL, cells_int, cells_int_size, okVar, splice_single, Nat.lt_irrefl, false_and, decide_true, decide_false, Nat.add_zero, Int.reduceEq, Int.reduceLT, Int.reduceLE, Int.reduceToNat, Nat.reduceLT, Nat.reduceSub, rf_int, rf_tuple_ints, toList2, Bool.and_true, Bool.true_and, Bool.and_self, List.getElem?_cons_zero, List.getElem?_cons_succ, nlt1, nlt2, nlt3, nlt4, Nat.le_refl, Int.le_refl, Nat.not_lt_zero, Nat.sub_zero, Nat.zero_mul, cells_agg, cells_agg_size, h1])
  obtain ⟨l0, hl0⟩ := ext_app (H := H ++ [⟨u8s (dig 256 32 0), true, true, true, 1⟩]) (H' := Hc) (by simpa using hL) (fun i hi => hK i (by simpa using hi))
  obtain ⟨v1, v2, l1, l2, l3, h1, h2, h3⟩ := red_tail hg hb hS
  generalize hR : dig 256 32 (num 256 ps.flatten % ell) = R at *
  have lR : (u8s R).length = 32 := by rw [u8s_len, ← hR, dig_len]
  have hst : storeAt (Hc ++ l1 ++ l2 ++ l3) ⟨H.length, 0, none⟩ (u8s R) = some (H ++ ⟨u8s R, true, true, true, 1⟩ :: (l0 ++ l1 ++ l2 ++ l3)) := by
    have h8 := storeAt0 (H := H) (r := l0 ++ l1 ++ l2 ++ l3) (cs := u8s (dig 256 32 0)) (e := true) (s := 1) (off := 0) (v := u8s R) (by rw [lR, u8s_len, dig_len]; omega)
    rw [splice_all (by rw [lR, u8s_len, dig_len])] at h8
    rw [hl0]
    simpa using h8
  generalize hH1 : Hc ++ l1 = H1 at h1 h2 h3 hst
  generalize hH2 : H1 ++ l2 = H2 at h2 h3 hst
  generalize hH3 : H2 ++ l3 = H3 at h3 hst
  have h9 : ((u8s R).drop 0).take 32 = u8s R := by rw [List.drop_zero, List.take_of_length_le (by omega)]
  refine ⟨⟨u8s R, true, true, true, 1⟩ :: (l0 ++ l1 ++ l2 ++ l3), ?_⟩
  rw [show redI (.pointer (some ⟨H.length, 0, none⟩)) (.slice none 0 0) (.slice (some ⟨id, off, none⟩) n c) n 0 (H ++ [⟨u8s (dig 256 32 0), true, true, true, 1⟩]) [] = ⟨[(2, .pointer (some ⟨H.length, 0, none⟩)), (3, .slice none 0 0), (6, .slice (some ⟨id, off, none⟩) n c), (7, .int .i64 n), (8, .int .i64 0)], H ++ [⟨u8s (dig 256 32 0), true, true, true, 1⟩], []⟩ from rfl] at hb1
  rw [evFun_fn (fn := a17) rfl]
  simp only [a17, envOf, evCode_skip, evCode_exit, evCode_seq, evCode_region, evCode_cond, evCode_block, evCode_ret, evOps_cons, evOps_nil, guardOf, simpleOp, opd, opds, opdOpt, opdParts, Env.get, Env.put, pureV, Option.bind_some, List.nil_append, List.cons_append, inMerge, pairsOk, List.all_nil, List.all_cons, St.after, Env.keep, if_true, if_false, ite_true, ite_false, binV, intBin, unV, shiftOp, resultOf, packed, reduceCtorEq, Option.isNone_none, Option.isSome_none, Bool.false_eq_true, Nat.reduceAdd, Nat.reduceEqDiff, Nat.reduceMul, Nat.zero_add, List.length_cons, List.length_nil, beq_self_eq_true, Bool.not_true, Bool.not_false, evOper_move, evOper_pick, evOper_alloc, evOper_box, evOper_load, evOper_store, evOper_bin, evOper_eqv, evOper_isNil, evOper_un, evOper_conv, evOper_convStr, evOper_s2b, evOper_b2s, evOper_field, evOper_index, evOper_indexStr, evOper_build, evOper_buildSlice, evOper_fieldAddr, evOper_indexAddr, evOper_indexSl, evOper_sliceArr, evOper_sliceSl, evOper_sliceStr, evOper_makeSlice, evOper_extract, evOper_mkIface, evOper_mkFunc, evOper_nilCheck, evOper_s2ap, evOper_append, evOper_copy, evOper_len, evOper_minmax, evOper_call, evOper_callVal, Ob.fresh, live0, live1, live2, Int.natCast_nonneg, and_self, true_and, and_true, Int.toNat_natCast, Nat.mul_one, addr_add, partL, cells_int, cells_int_size, okVar, splice_single, Nat.lt_irrefl, false_and, decide_true, decide_false, Nat.add_zero, Int.reduceEq, Int.reduceLT, Int.reduceLE, Int.reduceToNat, Nat.reduceLT, Nat.reduceSub, rf_int, rf_tuple_ints, toList2, Bool.and_true, Bool.true_and, Bool.and_self, List.getElem?_cons_zero, List.getElem?_cons_succ, nlt1, nlt2, nlt3, nlt4, Nat.le_refl, Int.le_refl, Nat.not_lt_zero, Nat.sub_zero, Nat.zero_mul, cells_agg, cells_agg_size, wrapI64_small, Int.natCast_zero, Int.natCast_one, Int.cast_ofNat_Int, List.length_nil, List.length_cons, List.getElem?_cons_zero, List.getElem?_cons_succ, List.set_cons_zero, List.set_cons_succ, Nat.zero_add, Nat.add_zero, Nat.mul_one, Nat.zero_mul, Int.toNat_natCast, Int.toNat_zero, Int.lt_irrefl, Int.le_refl, Nat.le_refl, and_self, true_and, and_true, decide_true, decide_false, Int.reduceLE, Int.reduceLT, Int.reduceAdd, Int.reduceMul, Int.reduceSub, Int.reduceTDiv, Int.reduceTMod, Int.reduceNeg, Int.reduceToNat, Int.reduceGT, Int.reduceGE, Int.reducePow, Nat.reduceAdd, Nat.reduceMul, Nat.reduceSub, Nat.reduceDiv, Nat.reduceMod, Nat.reducePow, Nat.reduceLT, Nat.reduceLeDiff, Nat.min_self, ge_iff_le, gt_iff_lt, Option.isNone_none, Option.isSome_none, Option.isNone_some, Option.isSome_some, Bool.and_true, Bool.true_and, Bool.and_false, Bool.false_and, not_true_eq_false, not_false_eq_true, or_true, true_or, false_or, or_false, hz, hb1, redI, h1, h2, h3, lR, hst, live0, h9]
end Go.Ev.Ytaceeoghjgggjaa


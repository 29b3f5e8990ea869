/-
  scalar.of: the words of bytes are the digits of their number.
-/
import Derived.Test.YtaceeoghjgggjaaSW1
import Derived.Test.YtaceeoghjgggjaaEvDig
set_option linter.unusedSimpArgs false
set_option linter.unusedVariables false
namespace Go.Ev.Ytaceeoghjgggjaa
open Go Go.Ev
attribute [local congr] bind_congr1
set_option maxRecDepth 100000

def ofStep (ws : List Nat) (j x : Nat) : List Nat := ws.set (j / 4) (ws.getD (j / 4) 0 ||| x * 2 ^ (8 * (j % 4)))
def ofI (H : List Ob) (id off n c m : Nat) (log : List Nat) (W : Nat → List Nat) (j : Nat) : St :=
  ⟨[(3, .slice (some ⟨H.length, 0, none⟩) m m), (11, .slice (some ⟨id, off, none⟩) n c), (12, .int .i64 n), (13, .int .i64 j)], H ++ [Ob.fresh (u32s (W j))], log⟩

theorem of_body {H : List Ob} {id off n c m : Nat} {bs : List Nat} (hr : Row .u8 H id off bs) (hn : bs.length = n) (hm : m = (n + 3) / 4) (hN : n < 2 ^ 40) (hb : ∀ x ∈ bs, x < 256)
    (W : Nat → List Nat) (hW : ∀ j, (W j).length = m ∧ ∀ x ∈ W j, x < 4294967296) (hstep : ∀ j x, bs[j]? = some x → W (j + 1) = ofStep (W j) j x) {j : Nat} (hj : j < n) :
    evCode T H.length a40_l0 (ofI H id off n c m [] W j) = some (.normal, ofI H id off n c m [] W (j + 1)) := by
  obtain ⟨x, hx⟩ : ∃ x, bs[j]? = some x := ⟨_, List.getElem?_eq_getElem (by omega)⟩
  have h1 : ((j : Int) < (n : Int)) := by omega
  have hq : j / 4 < m := by omega
  obtain ⟨y, hy⟩ : ∃ y, (W j)[j / 4]? = some y := ⟨_, List.getElem?_eq_getElem (by rw [(hW j).1]; exact hq)⟩
  obtain ⟨o, ho, hc⟩ := hr
  have ho' := liveAt_app (l := [⟨u32s (W j), true, true, true, 1⟩]) ho
  have hxc := hc j x hx
  have hyc := u32s_get hy
  have hx256 : x < 256 := hb x (List.mem_of_getElem? hx)
  have e1 : IntKind.i64.wrap ((j : Int).tdiv 4) = ((j / 4 : Nat) : Int) := wrap_nat (n := j / 4) (by omega)
  have e2 : ((j : Int).tmod 4) = ((j % 4 : Nat) : Int) := rfl
  have e3 : IntKind.i64.wrap (8 * ((j % 4 : Nat) : Int)) = ((8 * (j % 4) : Nat) : Int) := wrap_nat (n := 8 * (j % 4)) (by omega)
  have e4 : min (8 * (j % 4)) IntKind.u32.bits = 8 * (j % 4) := Nat.min_eq_left (by show _ ≤ 32; omega)
  have e5 : IntKind.u32.wrap (x : Int) = (x : Nat) := wrap_small rfl (by show x < 2 ^ 32; omega)
  have h3 : ((j / 4 : Nat) : Int) < (m : Int) := by omega
  have h4 : ¬ (((8 * (j % 4) : Nat) : Int) < 0) := by omega
  have hp : x * 2 ^ (8 * (j % 4)) < 4294967296 := by
    have h5 : (2 : Nat) ^ (8 * (j % 4)) ≤ 2 ^ 24 := Nat.pow_le_pow_right (by decide) (by omega)
    have h6 : x * 2 ^ (8 * (j % 4)) ≤ 255 * 2 ^ 24 := Nat.mul_le_mul (by omega) h5
    omega
  have hy32 : y < 4294967296 := (hW j).2 y (List.mem_of_getElem? hy)
  have e6 : bitsOp .or .u32 (y : Nat) (IntKind.u32.wrap ((x : Int) * 2 ^ (8 * (j % 4)))) = ((y ||| x * 2 ^ (8 * (j % 4)) : Nat) : Int) := by
    have : ((x : Int) * 2 ^ (8 * (j % 4))) = ((x * 2 ^ (8 * (j % 4)) : Nat) : Int) := by simp
    rw [this, wrap_small rfl hp, bits_or rfl hy32 hp]
  have e7 : IntKind.i64.wrap ((j : Int) + 1) = ((j + 1 : Nat) : Int) := wrap_nat (n := j + 1) (by omega)
  have h5 : j / 4 + 1 ≤ (u32s (W j)).length := by rw [u32s_len, (hW j).1]; omega
  have hs : W (j + 1) = (W j).set (j / 4) (y ||| x * 2 ^ (8 * (j % 4))) := by rw [hstep j x hx, ofStep, List.getD_eq_getElem?_getD, hy]; rfl
  simp only [ofI, a40_l0, envOf, evCode_skip, evCode_exit, evCode_seq, evCode_region, evCode_cond, evCode_block, evCode_ret, evOps_cons, evOps_nil, guardOf, simpleOp, opd, opds, opdOpt, opdParts, Env.get, Env.put, pureV, Option.bind_some, List.nil_append, List.cons_append, inMerge, pairsOk, List.all_nil, List.all_cons, St.after, Env.keep, if_true, if_false, ite_true, ite_false, binV, intBin, unV, shiftOp, resultOf, packed, reduceCtorEq, Option.isNone_none, Option.isSome_none, Bool.false_eq_true, Nat.reduceAdd, Nat.reduceEqDiff, Nat.reduceMul, Nat.zero_add, List.length_cons, List.length_nil, beq_self_eq_true, Bool.not_true, Bool.not_false, evOper_move, evOper_pick, evOper_alloc, evOper_box, evOper_load, evOper_store, evOper_bin, evOper_eqv, evOper_isNil, evOper_un, evOper_conv, evOper_convStr, evOper_s2b, evOper_b2s, evOper_field, evOper_index, evOper_indexStr, evOper_build, evOper_buildSlice, evOper_fieldAddr, evOper_indexAddr, evOper_indexSl, evOper_sliceArr, evOper_sliceSl, evOper_sliceStr, evOper_makeSlice, evOper_extract, evOper_mkIface, evOper_mkFunc, evOper_nilCheck, evOper_s2ap, evOper_append, evOper_copy, evOper_len, evOper_minmax, evOper_call, evOper_callVal, Ob.fresh, live0, live1, live2, Int.natCast_nonneg, and_self, true_and, and_true, Int.toNat_natCast, Nat.mul_one, addr_add, partL, cells_int, cells_int_size, okVar, splice_single, Nat.lt_irrefl, false_and, decide_true, decide_false, Nat.add_zero, Int.reduceEq, Int.reduceLT, Int.reduceLE, Int.reduceToNat, Nat.reduceLT, Nat.reduceSub, rf_int, rf_tuple_ints, toList2, Bool.and_true, Bool.true_and, Bool.and_self, List.getElem?_cons_zero, List.getElem?_cons_succ, nlt1, nlt2, nlt3, nlt4, Nat.le_refl, Int.le_refl, Nat.not_lt_zero, Nat.sub_zero, Nat.zero_mul, cells_agg, cells_agg_size, h1, ho', hxc, hyc, e1, e2, e3, e4, e5, h3, h4, e6, e7, h5, storeAt0, hs, u32s_set]

theorem flat_one (v : Value) : ∀ n, (List.replicate n [v]).flatten = List.replicate n v
  | 0 => rfl
  | n + 1 => by rw [List.replicate_succ, List.flatten_cons, flat_one v n]; rfl
theorem dig_zero (B n : Nat) : dig B n 0 = List.replicate n 0 := by
  symm
  exact dig_ext (by simp) fun i hi => by simp [hi]
theorem u32s_zero (n : Nat) : List.replicate n (Value.int .u32 0) = u32s (dig 4294967296 n 0) := by simp [dig_zero, u32s]

theorem of_ev {H : List Ob} {id off n c : Nat} {bs : List Nat} (hr : Row .u8 H id off bs) (hn : bs.length = n) (hN : n < 2 ^ 40) (hb : ∀ x ∈ bs, x < 256) :
    evFun T 40 [.slice (some ⟨id, off, none⟩) n c] H = some (.slice (some ⟨H.length, 0, none⟩) ((n + 3) / 4) ((n + 3) / 4), H ++ [Ob.fresh (u32s (dig 4294967296 ((n + 3) / 4) (num 256 bs)))], []) := by
  have hbody := block_loop (T := T) (base := H.length) (id := 0) (body := a40_l0) (ofI H id off n c ((n + 3) / 4) [] fun j => dig 4294967296 ((n + 3) / 4) (num 256 (bs.take j))) n
    (s' := ⟨[(3, .slice (some ⟨H.length, 0, none⟩) ((n + 3) / 4) ((n + 3) / 4)), (11, .slice (some ⟨id, off, none⟩) n c), (12, .int .i64 n), (13, .int .i64 n), (14, .bool false)], H ++ [Ob.fresh (u32s (dig 4294967296 ((n + 3) / 4) (num 256 bs)))], []⟩)
    (fun j hj => of_body hr hn rfl hN hb _ (fun j => ⟨dig_len _ _ _, fun x hx => dig_lt (by decide) hx⟩) (fun j x hx => by
      have hj : j < bs.length := (List.getElem?_eq_some_iff.1 hx).1
      have hlt : num 256 (bs.take j) < 256 ^ j := by
        have := num_lt (B := 256) (l := bs.take j) fun y hy => hb y (List.mem_of_mem_take hy)
        rwa [List.length_take, Nat.min_eq_left (Nat.le_of_lt hj)] at this
      rw [num_take hx, ofStep, dig_byte (by omega) hlt (hb x (List.mem_of_getElem? hx))]) hj)
    (by
      have h1 : ¬ ((n : Int) < (n : Int)) := by omega
      have h2 : bs.take n = bs := by rw [← hn]; exact List.take_length
      simp only [ofI, a40_l0, envOf, evCode_skip, evCode_exit, evCode_seq, evCode_region, evCode_cond, evCode_block, evCode_ret, evOps_cons, evOps_nil, guardOf, simpleOp, opd, opds, opdOpt, opdParts, Env.get, Env.put, pureV, Option.bind_some, List.nil_append, List.cons_append, inMerge, pairsOk, List.all_nil, List.all_cons, St.after, Env.keep, if_true, if_false, ite_true, ite_false, binV, intBin, unV, shiftOp, resultOf, packed, reduceCtorEq, Option.isNone_none, Option.isSome_none, Bool.false_eq_true, Nat.reduceAdd, Nat.reduceEqDiff, Nat.reduceMul, Nat.zero_add, List.length_cons, List.length_nil, beq_self_eq_true, Bool.not_true, Bool.not_false, evOper_move, evOper_pick, evOper_alloc, evOper_box, evOper_load, evOper_store, evOper_bin, evOper_eqv, evOper_isNil, evOper_un, evOper_conv, evOper_convStr, evOper_s2b, evOper_b2s, evOper_field, evOper_index, evOper_indexStr, evOper_build, evOper_buildSlice, evOper_fieldAddr, evOper_indexAddr, evOper_indexSl, evOper_sliceArr, evOper_sliceSl, evOper_sliceStr, evOper_makeSlice, evOper_extract, evOper_mkIface, evOper_mkFunc, evOper_nilCheck, evOper_s2ap, evOper_append, evOper_copy, evOper_len, evOper_minmax, evOper_call, evOper_callVal, Ob.fresh, live0, live1, live2, Int.natCast_nonneg, and_self, true_and, and_true, Int.toNat_natCast, Nat.mul_one, addr_add, partL, cells_int, cells_int_size, okVar, splice_single, Nat.lt_irrefl, false_and, decide_true, decide_false, Nat.add_zero, Int.reduceEq, Int.reduceLT, Int.reduceLE, Int.reduceToNat, Nat.reduceLT, Nat.reduceSub, rf_int, rf_tuple_ints, toList2, Bool.and_true, Bool.true_and, Bool.and_self, List.getElem?_cons_zero, List.getElem?_cons_succ, nlt1, nlt2, nlt3, nlt4, Nat.le_refl, Int.le_refl, Nat.not_lt_zero, Nat.sub_zero, Nat.zero_mul, cells_agg, cells_agg_size, h1, h2])
  have e1 : IntKind.i64.wrap ((n : Int) + 3) = ((n + 3 : Nat) : Int) := wrap_nat (n := n + 3) (by omega)
  have e2 : IntKind.i64.wrap (((n + 3 : Nat) : Int).tdiv 4) = (((n + 3) / 4 : Nat) : Int) := wrap_nat (n := (n + 3) / 4) (by omega)
  have h1 : ((((n + 3) / 4 : Nat) : Int) * ((4 : Nat) : Int) ≤ 2 ^ 47) := by omega
  have h2 : (0 : Nat) < 4 := by decide
  rw [evFun_fn (fn := a40) rfl]
  have hz : ofI H id off n c ((n + 3) / 4) [] (fun j => dig 4294967296 ((n + 3) / 4) (num 256 (bs.take j))) 0 = ⟨[(3, .slice (some ⟨H.length, 0, none⟩) ((n + 3) / 4) ((n + 3) / 4)), (11, .slice (some ⟨id, off, none⟩) n c), (12, .int .i64 n), (13, .int .i64 0)], H ++ [Ob.fresh (u32s (dig 4294967296 ((n + 3) / 4) 0))], []⟩ := by simp [ofI, num]
  rw [hz] at hbody
  simp only [Ob.fresh] at hbody
  simp only [a40, envOf, evCode_skip, evCode_exit, evCode_seq, evCode_region, evCode_cond, evCode_block, evCode_ret, evOps_cons, evOps_nil, guardOf, simpleOp, opd, opds, opdOpt, opdParts, Env.get, Env.put, pureV, Option.bind_some, List.nil_append, List.cons_append, inMerge, pairsOk, List.all_nil, List.all_cons, St.after, Env.keep, if_true, if_false, ite_true, ite_false, binV, intBin, unV, shiftOp, resultOf, packed, reduceCtorEq, Option.isNone_none, Option.isSome_none, Bool.false_eq_true, Nat.reduceAdd, Nat.reduceEqDiff, Nat.reduceMul, Nat.zero_add, List.length_cons, List.length_nil, beq_self_eq_true, Bool.not_true, Bool.not_false, evOper_move, evOper_pick, evOper_alloc, evOper_box, evOper_load, evOper_store, evOper_bin, evOper_eqv, evOper_isNil, evOper_un, evOper_conv, evOper_convStr, evOper_s2b, evOper_b2s, evOper_field, evOper_index, evOper_indexStr, evOper_build, evOper_buildSlice, evOper_fieldAddr, evOper_indexAddr, evOper_indexSl, evOper_sliceArr, evOper_sliceSl, evOper_sliceStr, evOper_makeSlice, evOper_extract, evOper_mkIface, evOper_mkFunc, evOper_nilCheck, evOper_s2ap, evOper_append, evOper_copy, evOper_len, evOper_minmax, evOper_call, evOper_callVal, Ob.fresh, live0, live1, live2, Int.natCast_nonneg, and_self, true_and, and_true, Int.toNat_natCast, Nat.mul_one, addr_add, partL, cells_int, cells_int_size, okVar, splice_single, Nat.lt_irrefl, false_and, decide_true, decide_false, Nat.add_zero, Int.reduceEq, Int.reduceLT, Int.reduceLE, Int.reduceToNat, Nat.reduceLT, Nat.reduceSub, rf_int, rf_tuple_ints, toList2, Bool.and_true, Bool.true_and, Bool.and_self, List.getElem?_cons_zero, List.getElem?_cons_succ, nlt1, nlt2, nlt3, nlt4, Nat.le_refl, Int.le_refl, Nat.not_lt_zero, Nat.sub_zero, Nat.zero_mul, cells_agg, cells_agg_size, e1, e2, h1, h2, Int.le_refl, flat_one, u32s_zero, hbody]
end Go.Ev.Ytaceeoghjgggjaa

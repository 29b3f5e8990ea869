/-
  scalar.plus: the words of a sum.
-/
import Derived.Test.YtaceeoghjgggjaaSW3
set_option linter.unusedSimpArgs false
set_option linter.unusedVariables false
namespace Go.Ev.Ytaceeoghjgggjaa
open Go Go.Ev
attribute [local congr] bind_congr1
set_option maxRecDepth 100000

structure PlusInv (n i A : Nat) (os out : List Nat) (c : Nat) : Prop where
  len : out.length = n + 1
  lt : ∀ x ∈ out, x < 4294967296
  cle : c ≤ 1
  eq : num 4294967296 out + c * 4294967296 ^ i = A + num 4294967296 (os.take i)

theorem num_take_getD {B : Nat} (l : List Nat) (i : Nat) : num B (l.take (i + 1)) = num B (l.take i) + l.getD i 0 * B ^ i := by
  cases h : l[i]? with
  | some x => rw [num_take h, List.getD_eq_getElem?_getD, h]; rfl
  | none =>
    have := List.getElem?_eq_none_iff.1 h
    rw [List.getD_eq_getElem?_getD, h, List.take_of_length_le this, List.take_of_length_le (by omega)]
    simp

theorem PlusInv.step {n i A c y : Nat} {os out : List Nat} (h : PlusInv n i A os out c) (hos : ∀ x ∈ os, x < 4294967296) (hy : out[i]? = some y) : PlusInv n (i + 1) A os (out.set i (addS y (os.getD i 0) c)) (addC y (os.getD i 0) c) := by
  have hy' : y < 4294967296 := h.lt y (List.mem_of_getElem? hy)
  have hc := h.cle
  have hx : os.getD i 0 < 4294967296 := by
    rw [List.getD_eq_getElem?_getD]
    cases hh : os[i]? with
    | some x => exact hos x (List.mem_of_getElem? hh)
    | none => decide
  refine ⟨by rw [List.length_set]; exact h.len, set_lt h.lt (Nat.mod_lt _ (by decide)), ?_, ?_⟩
  · unfold addC; omega
  · have h1 := num_set (B := 4294967296) (addS y (os.getD i 0) c) hy
    have h2 := h.eq
    rw [num_take_getD]
    have h3 : 4294967296 * addC y (os.getD i 0) c + addS y (os.getD i 0) c = y + os.getD i 0 + c := Nat.div_add_mod _ _
    generalize addC y (os.getD i 0) c = q at *
    generalize addS y (os.getD i 0) c = r at *
    have e2 : q * 4294967296 ^ (i + 1) = 4294967296 * q * 4294967296 ^ i := by
      rw [Nat.pow_succ]; simp only [Nat.mul_assoc, Nat.mul_left_comm, Nat.mul_comm]
    have e3 : (4294967296 * q + r) * 4294967296 ^ i = (y + os.getD i 0 + c) * 4294967296 ^ i := by rw [h3]
    rw [Nat.add_mul, Nat.add_mul, Nat.add_mul] at e3
    rw [e2]
    omega

def plusI (H : List Ob) (s2 : Value) (n i c : Nat) (out : List Nat) : St :=
  ⟨[(1, s2), (5, .slice (some ⟨H.length, 0, none⟩) (n + 1) (n + 1)), (6, .int .u32 c), (19, .int .i64 ((n + 1 : Nat) : Int)), (20, .int .i64 i)], H ++ [⟨u32s out, true, true, true, 1⟩, ⟨[.int .u32 0], true, true, true, 1⟩], []⟩

theorem plus_body {H : List Ob} {id2 off2 c2 n m i c y : Nat} {os out : List Nat} (hr : Row .u32 H id2 off2 os) (hm : os.length = m) (hN : n < 2 ^ 40) (hmn : m < 2 ^ 40) (hi : i < n + 1) (hos : ∀ x ∈ os, x < 4294967296) (hl : out.length = n + 1) (hy : out[i]? = some y) (hy' : y < 4294967296) (hc : c ≤ 1) :
    evCode T H.length a45_l0 (plusI H (.slice (some ⟨id2, off2, none⟩) m c2) n i c out) = some (.normal, plusI H (.slice (some ⟨id2, off2, none⟩) m c2) n (i + 1) (addC y (os.getD i 0) c) (out.set i (addS y (os.getD i 0) c))) := by
  obtain ⟨o, ho, hcell⟩ := hr
  have ho' := liveAt_app (l := [⟨u32s out, true, true, true, 1⟩, ⟨[.int .u32 0], true, true, true, 1⟩]) ho
  have hyc := u32s_get hy
  have h1 : ((i : Int) < ((n + 1 : Nat) : Int)) := by omega
  have e10 : IntKind.i64.wrap ((i : Int) + 1) = ((i + 1 : Nat) : Int) := wrap_nat (n := i + 1) (by omega)
  have h5 : i + 1 ≤ (u32s out).length := by rw [u32s_len, hl]; omega
  by_cases him : i < m
  · obtain ⟨b, hb⟩ : ∃ b, os[i]? = some b := ⟨_, List.getElem?_eq_getElem (by omega)⟩
    have hd : os.getD i 0 = b := by rw [List.getD_eq_getElem?_getD, hb]; rfl
    have hxc := hcell i b hb
    have h2 : ((i : Int) < (m : Int)) := by omega
    have hadd := add32_ev hy' (hos b (List.mem_of_getElem? hb)) hc
    rw [hd]
    simp only [plusI, a45_l0, envOf, evCode_skip, evCode_exit, evCode_seq, evCode_region, evCode_cond, evCode_block, evCode_ret, evOps_cons, evOps_nil, guardOf, simpleOp, opd, opds, opdOpt, opdParts, Env.get, Env.put, pureV, Option.bind_some, List.nil_append, List.cons_append, inMerge, pairsOk, List.all_nil, List.all_cons, St.after, Env.keep, if_true, if_false, ite_true, ite_false, binV, intBin, unV, shiftOp, resultOf, packed, reduceCtorEq, Option.isNone_none, Option.isSome_none, Bool.false_eq_true, Nat.reduceAdd, Nat.reduceEqDiff, Nat.reduceMul, Nat.zero_add, List.length_cons, List.length_nil, beq_self_eq_true, Bool.not_true, Bool.not_false, evOper_move, evOper_pick, evOper_alloc, evOper_box, evOper_load, evOper_store, evOper_bin, evOper_eqv, evOper_isNil, evOper_un, evOper_conv, evOper_convStr, evOper_s2b, evOper_b2s, evOper_field, evOper_index, evOper_indexStr, evOper_build, evOper_buildSlice, evOper_fieldAddr, evOper_indexAddr, evOper_indexSl, evOper_sliceArr, evOper_sliceSl, evOper_sliceStr, evOper_makeSlice, evOper_extract, evOper_mkIface, evOper_mkFunc, evOper_nilCheck, evOper_s2ap, evOper_append, evOper_copy, evOper_len, evOper_minmax, evOper_call, evOper_callVal, Ob.fresh, live0, live1, live2, Int.natCast_nonneg, and_self, true_and, and_true, Int.toNat_natCast, Nat.mul_one, addr_add, partL, cells_int, cells_int_size, okVar, splice_single, Nat.lt_irrefl, false_and, decide_true, decide_false, Nat.add_zero, Int.reduceEq, Int.reduceLT, Int.reduceLE, Int.reduceToNat, Nat.reduceLT, Nat.reduceSub, rf_int, rf_tuple_ints, toList2, Bool.and_true, Bool.true_and, Bool.and_self, List.getElem?_cons_zero, List.getElem?_cons_succ, nlt1, nlt2, nlt3, nlt4, Nat.le_refl, Int.le_refl, Nat.not_lt_zero, Nat.sub_zero, Nat.zero_mul, cells_agg, cells_agg_size, h1, h2, ho', hxc, hyc, e10, h5, storeAt0, u32s_set, hadd]
  · have hd : os.getD i 0 = 0 := by rw [List.getD_eq_getElem?_getD, List.getElem?_eq_none (by omega)]; rfl
    have h2 : ¬ ((i : Int) < (m : Int)) := by omega
    have hadd : evFun T 76 [.int .u32 (y : Nat), .int .u32 0, .int .u32 (c : Nat)] [] = _ := add32_ev hy' (by decide : 0 < 4294967296) hc
    rw [hd]
    simp only [plusI, a45_l0, envOf, evCode_skip, evCode_exit, evCode_seq, evCode_region, evCode_cond, evCode_block, evCode_ret, evOps_cons, evOps_nil, guardOf, simpleOp, opd, opds, opdOpt, opdParts, Env.get, Env.put, pureV, Option.bind_some, List.nil_append, List.cons_append, inMerge, pairsOk, List.all_nil, List.all_cons, St.after, Env.keep, if_true, if_false, ite_true, ite_false, binV, intBin, unV, shiftOp, resultOf, packed, reduceCtorEq, Option.isNone_none, Option.isSome_none, Bool.false_eq_true, Nat.reduceAdd, Nat.reduceEqDiff, Nat.reduceMul, Nat.zero_add, List.length_cons, List.length_nil, beq_self_eq_true, Bool.not_true, Bool.not_false, evOper_move, evOper_pick, evOper_alloc, evOper_box, evOper_load, evOper_store, evOper_bin, evOper_eqv, evOper_isNil, evOper_un, evOper_conv, evOper_convStr, evOper_s2b, evOper_b2s, evOper_field, evOper_index, evOper_indexStr, evOper_build, evOper_buildSlice, evOper_fieldAddr, evOper_indexAddr, evOper_indexSl, evOper_sliceArr, evOper_sliceSl, evOper_sliceStr, evOper_makeSlice, evOper_extract, evOper_mkIface, evOper_mkFunc, evOper_nilCheck, evOper_s2ap, evOper_append, evOper_copy, evOper_len, evOper_minmax, evOper_call, evOper_callVal, Ob.fresh, live0, live1, live2, Int.natCast_nonneg, and_self, true_and, and_true, Int.toNat_natCast, Nat.mul_one, addr_add, partL, cells_int, cells_int_size, okVar, splice_single, Nat.lt_irrefl, false_and, decide_true, decide_false, Nat.add_zero, Int.reduceEq, Int.reduceLT, Int.reduceLE, Int.reduceToNat, Nat.reduceLT, Nat.reduceSub, rf_int, rf_tuple_ints, toList2, Bool.and_true, Bool.true_and, Bool.and_self, List.getElem?_cons_zero, List.getElem?_cons_succ, nlt1, nlt2, nlt3, nlt4, Nat.le_refl, Int.le_refl, Nat.not_lt_zero, Nat.sub_zero, Nat.zero_mul, cells_agg, cells_agg_size, h1, h2, hyc, e10, h5, storeAt0, u32s_set, hadd]

theorem plus_s1 {ws : List Nat} {n : Nat} (hn : ws.length = n) : splice (u32s (dig 4294967296 (n + 1) 0)) 0 (u32s ws) = u32s (ws ++ [0]) := by
  rw [splice_gen _ _ _ (by rw [u32s_len, u32s_len, dig_len]; omega), u32s_len, hn, dig_zero]
  simp only [List.take_zero, List.nil_append, Nat.zero_add, u32s, List.map_append, List.map_replicate, List.drop_replicate]
  rw [show n + 1 - n = 1 by omega]; rfl
theorem plus_s2 {ws : List Nat} {n : Nat} (hn : ws.length = n) : splice (u32s (ws ++ [0])) n [.int .u32 0] = u32s (ws ++ [0]) := by
  rw [splice_single]
  apply List.ext_getElem?
  intro i
  by_cases hi : i = n
  · subst hi
    rw [List.getElem?_set_self (by rw [u32s_len, List.length_append, hn]; simp), u32s_get (x := 0) (by rw [List.getElem?_append_right (by omega), hn]; simp)]; rfl
  · rw [List.getElem?_set_ne (Ne.symm hi)]
theorem plus_a1 {H : List Ob} {id1 off1 c1 n : Nat} {ws : List Nat} (hr1 : Row .u32 H id1 off1 ws) (hn : ws.length = n) (hn0 : 0 < n) (hN : n < 2 ^ 40) :
    appendV 1 4 (H ++ [⟨u32s (dig 4294967296 (n + 1) 0), true, true, true, 1⟩]) (.slice (some ⟨H.length, 0, none⟩) 0 (n + 1)) (.slice (some ⟨id1, off1, none⟩) n c1) = some (.slice (some ⟨H.length, 0, none⟩) n (n + 1), H ++ [⟨u32s (ws ++ [0]), true, true, true, 1⟩], none, [H.length]) := by
  have h := append_fits (H := H) (r := []) (es := 1) (bytes := 4) (len := 0) (cap := n + 1) (cs := u32s (dig 4294967296 (n + 1) 0)) (x := .slice (some ⟨id1, off1, none⟩) n c1) (n := n) (new := u32s ws) rfl (by rw [← hn]; exact (hr1.app).elems (by omega)) hn0 (by omega) (by omega) (by decide) (by decide) (by rw [u32s_len, u32s_len, dig_len]; omega)
  rw [Nat.zero_mul, plus_s1 hn, Nat.zero_add] at h
  exact h
theorem plus_a2 {H : List Ob} {n : Nat} {ws : List Nat} (hn : ws.length = n) (hN : n < 2 ^ 40) :
    appendV 1 4 (H ++ [⟨u32s (ws ++ [0]), true, true, true, 1⟩, ⟨[.int .u32 0], true, true, true, 1⟩]) (.slice (some ⟨H.length, 0, none⟩) n (n + 1)) (.slice (some ⟨H.length + 1, 0, none⟩) 1 1) = some (.slice (some ⟨H.length, 0, none⟩) (n + 1) (n + 1), H ++ [⟨u32s (ws ++ [0]), true, true, true, 1⟩, ⟨[.int .u32 0], true, true, true, 1⟩], none, [H.length]) := by
  have h := append_fits (H := H) (r := [⟨[.int .u32 0], true, true, true, 1⟩]) (es := 1) (bytes := 4) (len := n) (cap := n + 1) (cs := u32s (ws ++ [0])) (x := .slice (some ⟨H.length + 1, 0, none⟩) 1 1) (n := 1) (new := [.int .u32 0]) rfl (by simp [elemsOf, live1]) (by decide) (by omega) (by omega) (by decide) (by decide) (by rw [u32s_len, List.length_append, hn]; simp)
  rw [Nat.mul_one, plus_s2 hn] at h
  exact h
theorem plus_out {n m A : Nat} {os out : List Nat} {c : Nat} (hinv : PlusInv n (n + 1) A os out c) (hm : os.length = m) (hmn : m ≤ n) (hA : A < 4294967296 ^ n) (hos : ∀ x ∈ os, x < 4294967296) : dig 4294967296 (n + 1) (A + num 4294967296 os) = out := by
    have h1 := hinv.eq
    rw [show os.take (n + 1) = os from List.take_of_length_le (by omega)] at h1
    have h3 := num_lt hos
    rw [hm] at h3
    have h4 : 4294967296 ^ m ≤ 4294967296 ^ n := Nat.pow_le_pow_right (by decide) hmn
    have h5 : c = 0 := by
      have hc := hinv.cle
      rcases Nat.lt_or_ge 0 c with h | h
      · have : c = 1 := by omega
        subst this
        rw [Nat.pow_succ] at h1
        omega
      · omega
    subst h5
    rw [Nat.zero_mul, Nat.add_zero] at h1
    rw [← h1, ← hinv.len, dig_num (by decide) hinv.lt]

theorem plus_loop {H : List Ob} {id1 off1 id2 off2 c2 n m : Nat} {ws os : List Nat} (hr1 : Row .u32 H id1 off1 ws) (hr2 : Row .u32 H id2 off2 os) (hn : ws.length = n) (hm : os.length = m) (hn0 : 0 < n) (hmn : m ≤ n) (hN : n < 2 ^ 40) (hws : ∀ x ∈ ws, x < 4294967296) (hos : ∀ x ∈ os, x < 4294967296) :
    ∃ out c, evCode T H.length (.block 0 (.loop a45_l0)) ⟨[(1, .slice (some ⟨id2, off2, none⟩) m c2), (5, .slice (some ⟨H.length, 0, none⟩) (n + 1) (n + 1)), (6, .int .u32 0), (19, .int .i64 ((n + 1 : Nat) : Int)), (20, .int .i64 0)], H ++ [⟨u32s (ws ++ [0]), true, true, true, 1⟩, ⟨[.int .u32 0], true, true, true, 1⟩], []⟩ = some (.normal, ⟨[(1, .slice (some ⟨id2, off2, none⟩) m c2), (5, .slice (some ⟨H.length, 0, none⟩) (n + 1) (n + 1)), (6, .int .u32 (c : Nat)), (19, .int .i64 ((n + 1 : Nat) : Int)), (20, .int .i64 ((n + 1 : Nat) : Int)), (21, .bool false)], H ++ [⟨u32s out, true, true, true, 1⟩, ⟨[.int .u32 0], true, true, true, 1⟩], []⟩) ∧ PlusInv n (n + 1) (num 4294967296 ws) os out c := by
  have h0 : PlusInv n 0 (num 4294967296 ws) os (ws ++ [0]) 0 := ⟨by simp [hn], fun x hx => by
    rcases List.mem_append.1 hx with h | h
    · exact hws x h
    · simp at h; omega, by decide, by rw [num_append]; simp [num]⟩
  obtain ⟨s', hb, out, c, rfl, hinv⟩ := block_inv (T := T) (base := H.length) (id := 0) (body := a45_l0)
    (fun i s => ∃ out c, s = plusI H (.slice (some ⟨id2, off2, none⟩) m c2) n i c out ∧ PlusInv n i (num 4294967296 ws) os out c)
    (Q := fun s => ∃ out c, s = ⟨[(1, .slice (some ⟨id2, off2, none⟩) m c2), (5, .slice (some ⟨H.length, 0, none⟩) (n + 1) (n + 1)), (6, .int .u32 (c : Nat)), (19, .int .i64 ((n + 1 : Nat) : Int)), (20, .int .i64 ((n + 1 : Nat) : Int)), (21, .bool false)], H ++ [⟨u32s out, true, true, true, 1⟩, ⟨[.int .u32 0], true, true, true, 1⟩], []⟩ ∧ PlusInv n (n + 1) (num 4294967296 ws) os out c)
    (n + 1) ⟨_, _, rfl, h0⟩
    (fun i s hi hs => by
      obtain ⟨out, c, rfl, hI⟩ := hs
      obtain ⟨y, hy⟩ : ∃ y, out[i]? = some y := ⟨_, List.getElem?_eq_getElem (by rw [hI.len]; omega)⟩
      exact ⟨_, plus_body hr2 hm hN (by omega) hi hos hI.len hy (hI.lt y (List.mem_of_getElem? hy)) hI.cle, _, _, rfl, hI.step hos hy⟩)
    (fun s hs => by
      obtain ⟨out, c, rfl, hI⟩ := hs
      have h1 : ¬ (((n + 1 : Nat) : Int) < ((n + 1 : Nat) : Int)) := by omega
      refine ⟨_, ?_, out, c, rfl, hI⟩
      simp only [plusI, a45_l0, envOf, evCode_skip, evCode_exit, evCode_seq, evCode_region, evCode_cond, evCode_block, evCode_ret, evOps_cons, evOps_nil, guardOf, simpleOp, opd, opds, opdOpt, opdParts, Env.get, Env.put, pureV, Option.bind_some, List.nil_append, List.cons_append, inMerge, pairsOk, List.all_nil, List.all_cons, St.after, Env.keep, if_true, if_false, ite_true, ite_false, binV, intBin, unV, shiftOp, resultOf, packed, reduceCtorEq, Option.isNone_none, Option.isSome_none, Bool.false_eq_true, Nat.reduceAdd, Nat.reduceEqDiff, Nat.reduceMul, Nat.zero_add, List.length_cons, List.length_nil, beq_self_eq_true, Bool.not_true, Bool.not_false, evOper_move, evOper_pick, evOper_alloc, evOper_box, evOper_load, evOper_store, evOper_bin, evOper_eqv, evOper_isNil, evOper_un, evOper_conv, evOper_convStr, evOper_s2b, evOper_b2s, evOper_field, evOper_index, evOper_indexStr, evOper_build, evOper_buildSlice, evOper_fieldAddr, evOper_indexAddr, evOper_indexSl, evOper_sliceArr, evOper_sliceSl, evOper_sliceStr, evOper_makeSlice, evOper_extract, evOper_mkIface, evOper_mkFunc, evOper_nilCheck, evOper_s2ap, evOper_append, evOper_copy, evOper_len, evOper_minmax, evOper_call, evOper_callVal, Ob.fresh, live0, live1, live2, Int.natCast_nonneg, and_self, true_and, and_true, Int.toNat_natCast, Nat.mul_one, addr_add, partL, cells_int, cells_int_size, okVar, splice_single, Nat.lt_irrefl, false_and, decide_true, decide_false, Nat.add_zero, Int.reduceEq, Int.reduceLT, Int.reduceLE, Int.reduceToNat, Nat.reduceLT, Nat.reduceSub, rf_int, rf_tuple_ints, toList2, Bool.and_true, Bool.true_and, Bool.and_self, List.getElem?_cons_zero, List.getElem?_cons_succ, nlt1, nlt2, nlt3, nlt4, Nat.le_refl, Int.le_refl, Nat.not_lt_zero, Nat.sub_zero, Nat.zero_mul, cells_agg, cells_agg_size, h1])
  rw [show plusI H (.slice (some ⟨id2, off2, none⟩) m c2) n 0 0 (ws ++ [0]) = ⟨[(1, .slice (some ⟨id2, off2, none⟩) m c2), (5, .slice (some ⟨H.length, 0, none⟩) (n + 1) (n + 1)), (6, .int .u32 0), (19, .int .i64 ((n + 1 : Nat) : Int)), (20, .int .i64 0)], H ++ [⟨u32s (ws ++ [0]), true, true, true, 1⟩, ⟨[.int .u32 0], true, true, true, 1⟩], []⟩ from rfl] at hb
  exact ⟨out, c, hb, hinv⟩

theorem cap_ok {k : Nat} (h : k < 2 ^ 41) : ((k : Nat) : Int) * ((4 : Nat) : Int) ≤ 2 ^ 47 := by omega

theorem plus_fin {H : List Ob} {k n m c : Nat} {id1 off1 c1 id2 off2 c2 : Nat} {ws out : List Nat} (e1 : IntKind.i64.wrap ((n : Int) + 1) = ((k : Nat) : Int)) (h1 : ((k : Nat) : Int) * ((4 : Nat) : Int) ≤ 2 ^ 47)
    (ha1 : appendV 1 4 (H ++ [⟨u32s (dig 4294967296 k 0), true, true, true, 1⟩]) (.slice (some ⟨H.length, 0, none⟩) 0 k) (.slice (some ⟨id1, off1, none⟩) n c1) = some (.slice (some ⟨H.length, 0, none⟩) n k, H ++ [⟨u32s (ws ++ [0]), true, true, true, 1⟩], none, [H.length]))
    (ha2 : appendV 1 4 (H ++ [⟨u32s (ws ++ [0]), true, true, true, 1⟩, ⟨[.int .u32 0], true, true, true, 1⟩]) (.slice (some ⟨H.length, 0, none⟩) n k) (.slice (some ⟨H.length + 1, 0, none⟩) 1 1) = some (.slice (some ⟨H.length, 0, none⟩) k k, H ++ [⟨u32s (ws ++ [0]), true, true, true, 1⟩, ⟨[.int .u32 0], true, true, true, 1⟩], none, [H.length]))
    (hb : evCode T H.length (.block 0 (.loop a45_l0)) ⟨[(1, .slice (some ⟨id2, off2, none⟩) m c2), (5, .slice (some ⟨H.length, 0, none⟩) (k) (k)), (6, .int .u32 0), (19, .int .i64 ((k : Nat) : Int)), (20, .int .i64 0)], H ++ [⟨u32s (ws ++ [0]), true, true, true, 1⟩, ⟨[.int .u32 0], true, true, true, 1⟩], []⟩ = some (.normal, ⟨[(1, .slice (some ⟨id2, off2, none⟩) m c2), (5, .slice (some ⟨H.length, 0, none⟩) (k) (k)), (6, .int .u32 (c : Nat)), (19, .int .i64 ((k : Nat) : Int)), (20, .int .i64 ((k : Nat) : Int)), (21, .bool false)], H ++ [⟨u32s out, true, true, true, 1⟩, ⟨[.int .u32 0], true, true, true, 1⟩], []⟩)) :
    evFun T 45 [.slice (some ⟨id1, off1, none⟩) n c1, .slice (some ⟨id2, off2, none⟩) m c2] H = some (.slice (some ⟨H.length, 0, none⟩) k k, H ++ [⟨u32s out, true, true, true, 1⟩, ⟨[.int .u32 0], true, true, true, 1⟩], []) := by
  have h2 : (0 : Nat) < 4 := by decide
  have hfill : fillL [Value.int .u32 0] [(0, 1, .int .u32 0)] = some [.int .u32 0] := rfl
  rw [evFun_fn (fn := a45) rfl]
  simp only [a45, envOf, evCode_skip, evCode_exit, evCode_seq, evCode_region, evCode_cond, evCode_block, evCode_ret, evOps_cons, evOps_nil, guardOf, simpleOp, opd, opds, opdOpt, opdParts, Env.get, Env.put, pureV, Option.bind_some, List.nil_append, List.cons_append, inMerge, pairsOk, List.all_nil, List.all_cons, St.after, Env.keep, if_true, if_false, ite_true, ite_false, binV, intBin, unV, shiftOp, resultOf, packed, reduceCtorEq, Option.isNone_none, Option.isSome_none, Bool.false_eq_true, Nat.reduceAdd, Nat.reduceEqDiff, Nat.reduceMul, Nat.zero_add, List.length_cons, List.length_nil, beq_self_eq_true, Bool.not_true, Bool.not_false, evOper_move, evOper_pick, evOper_alloc, evOper_box, evOper_load, evOper_store, evOper_bin, evOper_eqv, evOper_isNil, evOper_un, evOper_conv, evOper_convStr, evOper_s2b, evOper_b2s, evOper_field, evOper_index, evOper_indexStr, evOper_build, evOper_buildSlice, evOper_fieldAddr, evOper_indexAddr, evOper_indexSl, evOper_sliceArr, evOper_sliceSl, evOper_sliceStr, evOper_makeSlice, evOper_extract, evOper_mkIface, evOper_mkFunc, evOper_nilCheck, evOper_s2ap, evOper_append, evOper_copy, evOper_len, evOper_minmax, evOper_call, evOper_callVal, Ob.fresh, live0, live1, live2, Int.natCast_nonneg, and_self, true_and, and_true, Int.toNat_natCast, Nat.mul_one, addr_add, partL, cells_int, cells_int_size, okVar, splice_single, Nat.lt_irrefl, false_and, decide_true, decide_false, Nat.add_zero, Int.reduceEq, Int.reduceLT, Int.reduceLE, Int.reduceToNat, Nat.reduceLT, Nat.reduceSub, rf_int, rf_tuple_ints, toList2, Bool.and_true, Bool.true_and, Bool.and_self, List.getElem?_cons_zero, List.getElem?_cons_succ, nlt1, nlt2, nlt3, nlt4, Nat.le_refl, Int.le_refl, Nat.not_lt_zero, Nat.sub_zero, Nat.zero_mul, cells_agg, cells_agg_size, e1, h1, h2, Int.le_refl, flat_one, u32s_zero, hfill, List.length_append, List.append_assoc, ha1, ha2, hb]

theorem plus_ev {H : List Ob} {id1 off1 c1 id2 off2 c2 n m : Nat} {ws os : List Nat} (hr1 : Row .u32 H id1 off1 ws) (hr2 : Row .u32 H id2 off2 os) (hn : ws.length = n) (hm : os.length = m) (hn0 : 0 < n) (hmn : m ≤ n) (hN : n < 2 ^ 40) (hws : ∀ x ∈ ws, x < 4294967296) (hos : ∀ x ∈ os, x < 4294967296) :
    evFun T 45 [.slice (some ⟨id1, off1, none⟩) n c1, .slice (some ⟨id2, off2, none⟩) m c2] H = some (.slice (some ⟨H.length, 0, none⟩) (n + 1) (n + 1), H ++ [⟨u32s (dig 4294967296 (n + 1) (num 4294967296 ws + num 4294967296 os)), true, true, true, 1⟩, ⟨[.int .u32 0], true, true, true, 1⟩], []) := by
  obtain ⟨out, c, hb, hinv⟩ := plus_loop (c2 := c2) hr1 hr2 hn hm hn0 hmn hN hws hos
  have hout := plus_out hinv hm hmn (by rw [← hn]; exact num_lt hws) hos
  rw [hout]
  exact plus_fin (wrap_nat (n := n + 1) (by omega)) (cap_ok (by omega)) (plus_a1 hr1 hn hn0 hN) (plus_a2 hn hN) hb
end Go.Ev.Ytaceeoghjgggjaa

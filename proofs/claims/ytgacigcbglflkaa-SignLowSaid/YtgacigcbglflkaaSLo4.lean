/- What the law leans on, part 4. -/
import Derived.Test.YtgacigcbglflkaaSLo3
set_option linter.unusedSimpArgs false
set_option linter.unusedVariables false
set_option linter.unusedSimpArgs false
set_option linter.unusedVariables false
namespace Go.Ev.Ytgacigcbglflkaa
open Go Go.Ev
attribute [local congr] bind_congr1
set_option maxRecDepth 100000
def ell : Nat := 7237005577332262213973186563042994240857116359379907606001950938285454250989
theorem ell_num : num 4294967296 orderW = ell := by decide
theorem order_lt : ∀ x ∈ orderW, x < 4294967296 := by decide
structure ShInv (k c0 : Nat) (r0 r : List Nat) (c : Nat) : Prop where
  len : r.length = 8
  lt : ∀ x ∈ r, x < 4294967296
  cle : c ≤ 1
  eq : num 4294967296 r + c * 4294967296 ^ k = num 4294967296 r0 + num 4294967296 (r0.take k) + c0
  rest : ∀ j, k ≤ j → r[j]? = r0[j]?
theorem ShInv.step {k c0 c x : Nat} {r0 r : List Nat} (h : ShInv k c0 r0 r c) (hx : r[k]? = some x) : ShInv (k + 1) c0 r0 (r.set k ((2 * x + c) % 4294967296)) (x / 2147483648) := by
  have hx' : x < 4294967296 := h.lt x (List.mem_of_getElem? hx)
  have hc := h.cle
  refine ⟨by rw [List.length_set]; exact h.len, set_lt h.lt (Nat.mod_lt _ (by decide)), by omega, ?_, ?_⟩
  · have h1 := num_set (B := 4294967296) ((2 * x + c) % 4294967296) hx
    have h2 := h.eq
    rw [num_take (by rw [← h.rest k (Nat.le_refl _)]; exact hx)]
    have h3 : 4294967296 * (x / 2147483648) + (2 * x + c) % 4294967296 = 2 * x + c := by omega
    generalize (2 * x + c) % 4294967296 = y at *
    generalize x / 2147483648 = q at *
    have e2 : q * 4294967296 ^ (k + 1) = 4294967296 * q * 4294967296 ^ k := by
      rw [Nat.pow_succ]; simp only [Nat.mul_assoc, Nat.mul_left_comm, Nat.mul_comm]
    have e3 : (4294967296 * q + y) * 4294967296 ^ k = (2 * x + c) * 4294967296 ^ k := by rw [h3]
    rw [Nat.add_mul, Nat.add_mul, Nat.mul_assoc 2] at e3
    rw [e2]
    omega
  · intro j hj
    rw [List.getElem?_set_ne (by omega)]
    exact h.rest j (by omega)
structure SbInv (k : Nat) (r nx : List Nat) (b : Nat) : Prop where
  len : nx.length = 8
  lt : ∀ x ∈ nx, x < 4294967296
  ble : b ≤ 1
  eq : num 4294967296 (r.take k) + b * 4294967296 ^ k = num 4294967296 (orderW.take k) + num 4294967296 (nx.take k)
theorem take_set_self {l : List Nat} {k y : Nat} : (l.set k y).take k = l.take k := by
  apply List.ext_getElem?
  intro i
  rw [List.getElem?_take, List.getElem?_take]
  by_cases h : i < k
  · rw [if_pos h, if_pos h, List.getElem?_set_ne (by omega)]
  · rw [if_neg h, if_neg h]
theorem SbInv.step {k b x l : Nat} {r nx : List Nat} (h : SbInv k r nx b) (hr : ∀ x ∈ r, x < 4294967296) (hk : k < 8) (hx : r[k]? = some x) (hl : orderW[k]? = some l) : SbInv (k + 1) r (nx.set k (subD x l b)) (subB x l b) := by
  have hx' : x < 4294967296 := hr x (List.mem_of_getElem? hx)
  have hl' : l < 4294967296 := order_lt l (List.mem_of_getElem? hl)
  have hb := h.ble
  have hd : subD x l b < 4294967296 ∧ x + 4294967296 * subB x l b = l + b + subD x l b ∧ subB x l b ≤ 1 := by
    unfold subD subB; split <;> omega
  refine ⟨by rw [List.length_set]; exact h.len, set_lt h.lt hd.1, hd.2.2, ?_⟩
  have h2 := h.eq
  have hy : (nx.set k (subD x l b))[k]? = some (subD x l b) := List.getElem?_set_self (by rw [h.len]; exact hk)
  rw [num_take hx, num_take hl, num_take hy, take_set_self]
  have h3 := hd.2.1
  generalize subD x l b = d at *
  generalize subB x l b = q at *
  have e2 : q * 4294967296 ^ (k + 1) = 4294967296 * q * 4294967296 ^ k := by
    rw [Nat.pow_succ]; simp only [Nat.mul_assoc, Nat.mul_left_comm, Nat.mul_comm]
  have e3 : (x + 4294967296 * q) * 4294967296 ^ k = (l + b + d) * 4294967296 ^ k := by rw [h3]
  rw [Nat.add_mul, Nat.add_mul, Nat.add_mul] at e3
  rw [e2]
  omega
theorem sh_body0 {H : List Ob} {s v : Value} {k c x : Nat} {r nx : List Nat} (hk : k < 8) (hl : r.length = 8) (hx : r[k]? = some x) (hx' : x < 4294967296) (hc : c ≤ 1) :
    evCode T H.length a41_l1 (⟨[(0, s), (3, (.slice (some ⟨H.length, 0, none⟩) 8 8)), (4, (.slice (some ⟨H.length + 1, 0, none⟩) 8 8)), (5, (.slice (some ⟨(H.length + 2), 0, none⟩) 8 8)), (6, v), (7, .int .u32 ((c : Nat))), (32, .int .i64 8), (33, .int .i64 ((k : Nat)))], H ++ [⟨u32s (r), true, true, true, 1⟩, ⟨u32s orderW, true, true, true, 1⟩, ⟨u32s (nx), true, true, true, 1⟩], []⟩ : St) = some (.normal, (⟨[(0, s), (3, (.slice (some ⟨H.length, 0, none⟩) 8 8)), (4, (.slice (some ⟨H.length + 1, 0, none⟩) 8 8)), (5, (.slice (some ⟨(H.length + 2), 0, none⟩) 8 8)), (6, v), (7, .int .u32 (((x / 2147483648 : Nat) : Int))), (32, .int .i64 8), (33, .int .i64 (((k + 1 : Nat) : Int)))], H ++ [⟨u32s (r.set k ((2 * x + c) % 4294967296)), true, true, true, 1⟩, ⟨u32s orderW, true, true, true, 1⟩, ⟨u32s (nx), true, true, true, 1⟩], []⟩ : St)) := by
  have hxc := u32s_get hx
  have h1 : ((k : Int) < (8 : Int)) := by omega
  have h1' : ((k : Int) < ((8 : Nat) : Int)) := by omega
  have e1 : IntKind.u32.wrap ((x : Int) * 2 ^ min 1 IntKind.u32.bits) = ((2 * x % 4294967296 : Nat) : Int) := by
    rw [wrap_u32, show min 1 IntKind.u32.bits = 1 from rfl]; omega
  have e2 : bitsOp .or .u32 ((2 * x % 4294967296 : Nat) : Int) (c : Int) = (((2 * x + c) % 4294967296 : Nat) : Int) := by
    rw [bits_or (k := .u32) (a := 2 * x % 4294967296) (b := c) rfl (Nat.mod_lt _ (by decide)) (by show c < 2 ^ 32; omega)]
    congr 1
    have h2 : 2 * x % 4294967296 = 2 ^ 1 * (x % 2147483648) := by omega
    rw [h2, ← Nat.two_pow_add_eq_or_of_lt (by omega : c < 2 ^ 1)]
    omega
  have e3 : Int.fdiv (x : Int) (2 ^ min 31 IntKind.u32.bits) = ((x / 2147483648 : Nat) : Int) := by
    rw [Int.fdiv_eq_ediv_of_nonneg _ (by decide)]; rfl
  have e10 : IntKind.i64.wrap ((k : Int) + 1) = ((k + 1 : Nat) : Int) := wrap_nat (n := k + 1) (by omega)
  have h5 : k + 1 ≤ (u32s r).length := by rw [u32s_len, hl]; omega
  simp only [a41_l1, envOf, evCode_skip, evCode_exit, evCode_seq, evCode_region, evCode_cond, evCode_block, evCode_ret, evOps_cons, evOps_nil, guardOf, simpleOp, opd, opds, opdOpt, opdParts, Env.get, Env.put, pureV, Option.bind_some, List.nil_append, List.cons_append, inMerge, pairsOk, List.all_nil, List.all_cons, St.after, Env.keep, if_true, if_false, ite_true, ite_false, binV, intBin, unV, shiftOp, resultOf, packed, reduceCtorEq, Option.isNone_none, Option.isSome_none, Bool.false_eq_true, Nat.reduceAdd, Nat.reduceEqDiff, Nat.reduceMul, Nat.zero_add, List.length_cons, List.length_nil, beq_self_eq_true, Bool.not_true, Bool.not_false, evOper_move, evOper_pick, evOper_alloc, evOper_box, evOper_load, evOper_store, evOper_bin, evOper_eqv, evOper_isNil, evOper_un, evOper_conv, evOper_convStr, evOper_s2b, evOper_b2s, evOper_field, evOper_index, evOper_indexStr, evOper_build, evOper_buildSlice, evOper_fieldAddr, evOper_indexAddr, evOper_indexSl, evOper_sliceArr, evOper_sliceSl, evOper_sliceStr, evOper_makeSlice, evOper_extract, evOper_mkIface, evOper_mkFunc, evOper_nilCheck, evOper_s2ap, evOper_append, evOper_copy, evOper_len, evOper_minmax, evOper_call, evOper_callVal, Ob.fresh, live0, live1, live2, Int.natCast_nonneg, and_self, true_and, and_true, Int.toNat_natCast, Nat.mul_one, addr_add, partL, cells_int, cells_int_size, okVar, splice_single, Nat.lt_irrefl, false_and, decide_true, decide_false, Nat.add_zero, Int.reduceEq, Int.reduceLT, Int.reduceLE, Int.reduceToNat, Nat.reduceLT, Nat.reduceSub, rf_int, rf_tuple_ints, toList2, Bool.and_true, Bool.true_and, Bool.and_self, List.getElem?_cons_zero, List.getElem?_cons_succ, nlt1, nlt2, nlt3, nlt4, Nat.le_refl, Int.le_refl, Nat.not_lt_zero, Nat.sub_zero, Nat.zero_mul, cells_agg, cells_agg_size, h1, h1', hxc, e1, e2, e3, e10, h5, storeAt0, u32s_set]
theorem sb_body0 {H : List Ob} {s v : Value} {k b x l : Nat} {r nx : List Nat} (hk : k < 8) (hl : nx.length = 8) (hx : r[k]? = some x) (hx' : x < 4294967296) (ho : orderW[k]? = some l) (hb : b ≤ 1) :
    evCode T H.length a41_l0 (⟨[(0, s), (3, (.slice (some ⟨H.length, 0, none⟩) 8 8)), (4, (.slice (some ⟨H.length + 1, 0, none⟩) 8 8)), (5, (.slice (some ⟨(H.length + 2), 0, none⟩) 8 8)), (6, v), (9, .int .u32 ((b : Nat))), (53, .int .i64 8), (54, .int .i64 ((k : Nat)))], H ++ [⟨u32s (r), true, true, true, 1⟩, ⟨u32s orderW, true, true, true, 1⟩, ⟨u32s (nx), true, true, true, 1⟩], []⟩ : St) = some (.normal, (⟨[(0, s), (3, (.slice (some ⟨H.length, 0, none⟩) 8 8)), (4, (.slice (some ⟨H.length + 1, 0, none⟩) 8 8)), (5, (.slice (some ⟨(H.length + 2), 0, none⟩) 8 8)), (6, v), (9, .int .u32 (((subB x l b : Nat) : Int))), (53, .int .i64 8), (54, .int .i64 (((k + 1 : Nat) : Int)))], H ++ [⟨u32s (r), true, true, true, 1⟩, ⟨u32s orderW, true, true, true, 1⟩, ⟨u32s (nx.set k (subD x l b)), true, true, true, 1⟩], []⟩ : St)) := by
  have hxc := u32s_get hx
  have hlc := u32s_get ho
  have h1 : ((k : Int) < (8 : Int)) := by omega
  have h1' : ((k : Int) < ((8 : Nat) : Int)) := by omega
  have hsub := sub32_ev hx' (order_lt l (List.mem_of_getElem? ho)) hb
  have e10 : IntKind.i64.wrap ((k : Int) + 1) = ((k + 1 : Nat) : Int) := wrap_nat (n := k + 1) (by omega)
  have h5 : k + 1 ≤ (u32s nx).length := by rw [u32s_len, hl]; omega
  simp only [a41_l0, envOf, evCode_skip, evCode_exit, evCode_seq, evCode_region, evCode_cond, evCode_block, evCode_ret, evOps_cons, evOps_nil, guardOf, simpleOp, opd, opds, opdOpt, opdParts, Env.get, Env.put, pureV, Option.bind_some, List.nil_append, List.cons_append, inMerge, pairsOk, List.all_nil, List.all_cons, St.after, Env.keep, if_true, if_false, ite_true, ite_false, binV, intBin, unV, shiftOp, resultOf, packed, reduceCtorEq, Option.isNone_none, Option.isSome_none, Bool.false_eq_true, Nat.reduceAdd, Nat.reduceEqDiff, Nat.reduceMul, Nat.zero_add, List.length_cons, List.length_nil, beq_self_eq_true, Bool.not_true, Bool.not_false, evOper_move, evOper_pick, evOper_alloc, evOper_box, evOper_load, evOper_store, evOper_bin, evOper_eqv, evOper_isNil, evOper_un, evOper_conv, evOper_convStr, evOper_s2b, evOper_b2s, evOper_field, evOper_index, evOper_indexStr, evOper_build, evOper_buildSlice, evOper_fieldAddr, evOper_indexAddr, evOper_indexSl, evOper_sliceArr, evOper_sliceSl, evOper_sliceStr, evOper_makeSlice, evOper_extract, evOper_mkIface, evOper_mkFunc, evOper_nilCheck, evOper_s2ap, evOper_append, evOper_copy, evOper_len, evOper_minmax, evOper_call, evOper_callVal, Ob.fresh, live0, live1, live2, Int.natCast_nonneg, and_self, true_and, and_true, Int.toNat_natCast, Nat.mul_one, addr_add, partL, cells_int, cells_int_size, okVar, splice_single, Nat.lt_irrefl, false_and, decide_true, decide_false, Nat.add_zero, Int.reduceEq, Int.reduceLT, Int.reduceLE, Int.reduceToNat, Nat.reduceLT, Nat.reduceSub, rf_int, rf_tuple_ints, toList2, Bool.and_true, Bool.true_and, Bool.and_self, List.getElem?_cons_zero, List.getElem?_cons_succ, nlt1, nlt2, nlt3, nlt4, Nat.le_refl, Int.le_refl, Nat.not_lt_zero, Nat.sub_zero, Nat.zero_mul, cells_agg, cells_agg_size, h1, h1', hxc, hlc, hsub, e10, h5, storeAt2, u32s_set]
theorem sh_loop0 {H : List Ob} {s v : Value} {c : Nat} {r nx : List Nat} (hl : r.length = 8) (hr : ∀ x ∈ r, x < 4294967296) (hc : c ≤ 1) :
    ∃ r' c', evCode T H.length (.block 2 (.loop a41_l1)) (⟨[(0, s), (3, (.slice (some ⟨H.length, 0, none⟩) 8 8)), (4, (.slice (some ⟨H.length + 1, 0, none⟩) 8 8)), (5, (.slice (some ⟨(H.length + 2), 0, none⟩) 8 8)), (6, v), (7, .int .u32 ((c : Nat))), (32, .int .i64 8), (33, .int .i64 (0))], H ++ [⟨u32s (r), true, true, true, 1⟩, ⟨u32s orderW, true, true, true, 1⟩, ⟨u32s (nx), true, true, true, 1⟩], []⟩ : St) = some (.normal, (⟨[(0, s), (3, (.slice (some ⟨H.length, 0, none⟩) 8 8)), (4, (.slice (some ⟨H.length + 1, 0, none⟩) 8 8)), (5, (.slice (some ⟨(H.length + 2), 0, none⟩) 8 8)), (6, v), (7, .int .u32 ((c' : Nat))), (32, .int .i64 8), (33, .int .i64 (8)), (34, .bool false)], H ++ [⟨u32s (r'), true, true, true, 1⟩, ⟨u32s orderW, true, true, true, 1⟩, ⟨u32s (nx), true, true, true, 1⟩], []⟩ : St)) ∧ ShInv 8 c r r' c' := by
  obtain ⟨s', hb, r', c', rfl, hinv⟩ := block_inv (T := T) (base := H.length) (id := 2) (body := a41_l1)
    (fun k s1 => ∃ r' c', s1 = (⟨[(0, s), (3, (.slice (some ⟨H.length, 0, none⟩) 8 8)), (4, (.slice (some ⟨H.length + 1, 0, none⟩) 8 8)), (5, (.slice (some ⟨(H.length + 2), 0, none⟩) 8 8)), (6, v), (7, .int .u32 ((c' : Nat))), (32, .int .i64 8), (33, .int .i64 ((k : Nat)))], H ++ [⟨u32s (r'), true, true, true, 1⟩, ⟨u32s orderW, true, true, true, 1⟩, ⟨u32s (nx), true, true, true, 1⟩], []⟩ : St) ∧ ShInv k c r r' c')
    (Q := fun s1 => ∃ r' c', s1 = (⟨[(0, s), (3, (.slice (some ⟨H.length, 0, none⟩) 8 8)), (4, (.slice (some ⟨H.length + 1, 0, none⟩) 8 8)), (5, (.slice (some ⟨(H.length + 2), 0, none⟩) 8 8)), (6, v), (7, .int .u32 ((c' : Nat))), (32, .int .i64 8), (33, .int .i64 (8)), (34, .bool false)], H ++ [⟨u32s (r'), true, true, true, 1⟩, ⟨u32s orderW, true, true, true, 1⟩, ⟨u32s (nx), true, true, true, 1⟩], []⟩ : St) ∧ ShInv 8 c r r' c')
    8 (s := (⟨[(0, s), (3, (.slice (some ⟨H.length, 0, none⟩) 8 8)), (4, (.slice (some ⟨H.length + 1, 0, none⟩) 8 8)), (5, (.slice (some ⟨(H.length + 2), 0, none⟩) 8 8)), (6, v), (7, .int .u32 ((c : Nat))), (32, .int .i64 8), (33, .int .i64 (((0 : Nat) : Int)))], H ++ [⟨u32s (r), true, true, true, 1⟩, ⟨u32s orderW, true, true, true, 1⟩, ⟨u32s (nx), true, true, true, 1⟩], []⟩ : St)) ⟨_, _, rfl, ⟨hl, hr, hc, by simp [num], fun _ _ => rfl⟩⟩
    (fun k s1 hk hs => by
      obtain ⟨r', c', rfl, hI⟩ := hs
      obtain ⟨x, hx⟩ : ∃ x, r'[k]? = some x := ⟨_, List.getElem?_eq_getElem (by rw [hI.len]; omega)⟩
      exact ⟨_, sh_body0 hk hI.len hx (hI.lt x (List.mem_of_getElem? hx)) hI.cle, _, _, rfl, hI.step hx⟩)
    (fun s1 hs => by
      obtain ⟨r', c', rfl, hI⟩ := hs
      have h1 : ¬ (((8 : Nat) : Int) < (8 : Int)) := by omega
      refine ⟨_, ?_, r', c', rfl, hI⟩
      simp only [a41_l1, envOf, evCode_skip, evCode_exit, evCode_seq, evCode_region, evCode_cond, evCode_block, evCode_ret, evOps_cons, evOps_nil, guardOf, simpleOp, opd, opds, opdOpt, opdParts, Env.get, Env.put, pureV, Option.bind_some, List.nil_append, List.cons_append, inMerge, pairsOk, List.all_nil, List.all_cons, St.after, Env.keep, if_true, if_false, ite_true, ite_false, binV, intBin, unV, shiftOp, resultOf, packed, reduceCtorEq, Option.isNone_none, Option.isSome_none, Bool.false_eq_true, Nat.reduceAdd, Nat.reduceEqDiff, Nat.reduceMul, Nat.zero_add, List.length_cons, List.length_nil, beq_self_eq_true, Bool.not_true, Bool.not_false, evOper_move, evOper_pick, evOper_alloc, evOper_box, evOper_load, evOper_store, evOper_bin, evOper_eqv, evOper_isNil, evOper_un, evOper_conv, evOper_convStr, evOper_s2b, evOper_b2s, evOper_field, evOper_index, evOper_indexStr, evOper_build, evOper_buildSlice, evOper_fieldAddr, evOper_indexAddr, evOper_indexSl, evOper_sliceArr, evOper_sliceSl, evOper_sliceStr, evOper_makeSlice, evOper_extract, evOper_mkIface, evOper_mkFunc, evOper_nilCheck, evOper_s2ap, evOper_append, evOper_copy, evOper_len, evOper_minmax, evOper_call, evOper_callVal, Ob.fresh, live0, live1, live2, Int.natCast_nonneg, and_self, true_and, and_true, Int.toNat_natCast, Nat.mul_one, addr_add, partL, cells_int, cells_int_size, okVar, splice_single, Nat.lt_irrefl, false_and, decide_true, decide_false, Nat.add_zero, Int.reduceEq, Int.reduceLT, Int.reduceLE, Int.reduceToNat, Nat.reduceLT, Nat.reduceSub, rf_int, rf_tuple_ints, toList2, Bool.and_true, Bool.true_and, Bool.and_self, List.getElem?_cons_zero, List.getElem?_cons_succ, nlt1, nlt2, nlt3, nlt4, Nat.le_refl, Int.le_refl, Nat.not_lt_zero, Nat.sub_zero, Nat.zero_mul, cells_agg, cells_agg_size, h1]
      rfl)
  exact ⟨r', c', hb, hinv⟩
theorem sb_loop0 {H : List Ob} {s v : Value} {r nx : List Nat} (hl : r.length = 8) (hr : ∀ x ∈ r, x < 4294967296) (hl2 : nx.length = 8) (hr2 : ∀ x ∈ nx, x < 4294967296) :
    ∃ nx' b, evCode T H.length (.block 4 (.loop a41_l0)) (⟨[(0, s), (3, (.slice (some ⟨H.length, 0, none⟩) 8 8)), (4, (.slice (some ⟨H.length + 1, 0, none⟩) 8 8)), (5, (.slice (some ⟨(H.length + 2), 0, none⟩) 8 8)), (6, v), (9, .int .u32 (0)), (53, .int .i64 8), (54, .int .i64 (0))], H ++ [⟨u32s (r), true, true, true, 1⟩, ⟨u32s orderW, true, true, true, 1⟩, ⟨u32s (nx), true, true, true, 1⟩], []⟩ : St) = some (.normal, (⟨[(0, s), (3, (.slice (some ⟨H.length, 0, none⟩) 8 8)), (4, (.slice (some ⟨H.length + 1, 0, none⟩) 8 8)), (5, (.slice (some ⟨(H.length + 2), 0, none⟩) 8 8)), (6, v), (9, .int .u32 ((b : Nat))), (53, .int .i64 8), (54, .int .i64 (8)), (55, .bool false)], H ++ [⟨u32s (r), true, true, true, 1⟩, ⟨u32s orderW, true, true, true, 1⟩, ⟨u32s (nx'), true, true, true, 1⟩], []⟩ : St)) ∧ SbInv 8 r nx' b := by
  obtain ⟨s', hb, nx', b, rfl, hinv⟩ := block_inv (T := T) (base := H.length) (id := 4) (body := a41_l0)
    (fun k s1 => ∃ nx' b, s1 = (⟨[(0, s), (3, (.slice (some ⟨H.length, 0, none⟩) 8 8)), (4, (.slice (some ⟨H.length + 1, 0, none⟩) 8 8)), (5, (.slice (some ⟨(H.length + 2), 0, none⟩) 8 8)), (6, v), (9, .int .u32 ((b : Nat))), (53, .int .i64 8), (54, .int .i64 ((k : Nat)))], H ++ [⟨u32s (r), true, true, true, 1⟩, ⟨u32s orderW, true, true, true, 1⟩, ⟨u32s (nx'), true, true, true, 1⟩], []⟩ : St) ∧ SbInv k r nx' b)
    (Q := fun s1 => ∃ nx' b, s1 = (⟨[(0, s), (3, (.slice (some ⟨H.length, 0, none⟩) 8 8)), (4, (.slice (some ⟨H.length + 1, 0, none⟩) 8 8)), (5, (.slice (some ⟨(H.length + 2), 0, none⟩) 8 8)), (6, v), (9, .int .u32 ((b : Nat))), (53, .int .i64 8), (54, .int .i64 (8)), (55, .bool false)], H ++ [⟨u32s (r), true, true, true, 1⟩, ⟨u32s orderW, true, true, true, 1⟩, ⟨u32s (nx'), true, true, true, 1⟩], []⟩ : St) ∧ SbInv 8 r nx' b)
    8 (s := (⟨[(0, s), (3, (.slice (some ⟨H.length, 0, none⟩) 8 8)), (4, (.slice (some ⟨H.length + 1, 0, none⟩) 8 8)), (5, (.slice (some ⟨(H.length + 2), 0, none⟩) 8 8)), (6, v), (9, .int .u32 (((0 : Nat) : Int))), (53, .int .i64 8), (54, .int .i64 (((0 : Nat) : Int)))], H ++ [⟨u32s (r), true, true, true, 1⟩, ⟨u32s orderW, true, true, true, 1⟩, ⟨u32s (nx), true, true, true, 1⟩], []⟩ : St)) ⟨_, _, rfl, ⟨hl2, hr2, by decide, by simp [num]⟩⟩
    (fun k s1 hk hs => by
      obtain ⟨nx', b, rfl, hI⟩ := hs
      obtain ⟨x, hx⟩ : ∃ x, r[k]? = some x := ⟨_, List.getElem?_eq_getElem (by omega)⟩
      obtain ⟨l, hlk⟩ : ∃ l, orderW[k]? = some l := ⟨_, List.getElem?_eq_getElem (show k < orderW.length from hk)⟩
      exact ⟨_, sb_body0 hk hI.len hx (hr x (List.mem_of_getElem? hx)) hlk hI.ble, _, _, rfl, hI.step hr hk hx hlk⟩)
    (fun s1 hs => by
      obtain ⟨nx', b, rfl, hI⟩ := hs
      have h1 : ¬ (((8 : Nat) : Int) < (8 : Int)) := by omega
      refine ⟨_, ?_, nx', b, rfl, hI⟩
      simp only [a41_l0, envOf, evCode_skip, evCode_exit, evCode_seq, evCode_region, evCode_cond, evCode_block, evCode_ret, evOps_cons, evOps_nil, guardOf, simpleOp, opd, opds, opdOpt, opdParts, Env.get, Env.put, pureV, Option.bind_some, List.nil_append, List.cons_append, inMerge, pairsOk, List.all_nil, List.all_cons, St.after, Env.keep, if_true, if_false, ite_true, ite_false, binV, intBin, unV, shiftOp, resultOf, packed, reduceCtorEq, Option.isNone_none, Option.isSome_none, Bool.false_eq_true, Nat.reduceAdd, Nat.reduceEqDiff, Nat.reduceMul, Nat.zero_add, List.length_cons, List.length_nil, beq_self_eq_true, Bool.not_true, Bool.not_false, evOper_move, evOper_pick, evOper_alloc, evOper_box, evOper_load, evOper_store, evOper_bin, evOper_eqv, evOper_isNil, evOper_un, evOper_conv, evOper_convStr, evOper_s2b, evOper_b2s, evOper_field, evOper_index, evOper_indexStr, evOper_build, evOper_buildSlice, evOper_fieldAddr, evOper_indexAddr, evOper_indexSl, evOper_sliceArr, evOper_sliceSl, evOper_sliceStr, evOper_makeSlice, evOper_extract, evOper_mkIface, evOper_mkFunc, evOper_nilCheck, evOper_s2ap, evOper_append, evOper_copy, evOper_len, evOper_minmax, evOper_call, evOper_callVal, Ob.fresh, live0, live1, live2, Int.natCast_nonneg, and_self, true_and, and_true, Int.toNat_natCast, Nat.mul_one, addr_add, partL, cells_int, cells_int_size, okVar, splice_single, Nat.lt_irrefl, false_and, decide_true, decide_false, Nat.add_zero, Int.reduceEq, Int.reduceLT, Int.reduceLE, Int.reduceToNat, Nat.reduceLT, Nat.reduceSub, rf_int, rf_tuple_ints, toList2, Bool.and_true, Bool.true_and, Bool.and_self, List.getElem?_cons_zero, List.getElem?_cons_succ, nlt1, nlt2, nlt3, nlt4, Nat.le_refl, Int.le_refl, Nat.not_lt_zero, Nat.sub_zero, Nat.zero_mul, cells_agg, cells_agg_size, h1]
      rfl)
  exact ⟨nx', b, hb, hinv⟩
theorem sh_body1 {H : List Ob} {s v : Value} {k c x : Nat} {r nx : List Nat} (hk : k < 8) (hl : r.length = 8) (hx : r[k]? = some x) (hx' : x < 4294967296) (hc : c ≤ 1) :
    evCode T H.length a41_l1 (⟨[(0, s), (3, (.slice (some ⟨(H.length + 2), 0, none⟩) 8 8)), (4, (.slice (some ⟨H.length + 1, 0, none⟩) 8 8)), (5, (.slice (some ⟨H.length, 0, none⟩) 8 8)), (6, v), (7, .int .u32 ((c : Nat))), (32, .int .i64 8), (33, .int .i64 ((k : Nat)))], H ++ [⟨u32s (nx), true, true, true, 1⟩, ⟨u32s orderW, true, true, true, 1⟩, ⟨u32s (r), true, true, true, 1⟩], []⟩ : St) = some (.normal, (⟨[(0, s), (3, (.slice (some ⟨(H.length + 2), 0, none⟩) 8 8)), (4, (.slice (some ⟨H.length + 1, 0, none⟩) 8 8)), (5, (.slice (some ⟨H.length, 0, none⟩) 8 8)), (6, v), (7, .int .u32 (((x / 2147483648 : Nat) : Int))), (32, .int .i64 8), (33, .int .i64 (((k + 1 : Nat) : Int)))], H ++ [⟨u32s (nx), true, true, true, 1⟩, ⟨u32s orderW, true, true, true, 1⟩, ⟨u32s (r.set k ((2 * x + c) % 4294967296)), true, true, true, 1⟩], []⟩ : St)) := by
  have hxc := u32s_get hx
  have h1 : ((k : Int) < (8 : Int)) := by omega
  have h1' : ((k : Int) < ((8 : Nat) : Int)) := by omega
  have e1 : IntKind.u32.wrap ((x : Int) * 2 ^ min 1 IntKind.u32.bits) = ((2 * x % 4294967296 : Nat) : Int) := by
    rw [wrap_u32, show min 1 IntKind.u32.bits = 1 from rfl]; omega
  have e2 : bitsOp .or .u32 ((2 * x % 4294967296 : Nat) : Int) (c : Int) = (((2 * x + c) % 4294967296 : Nat) : Int) := by
    rw [bits_or (k := .u32) (a := 2 * x % 4294967296) (b := c) rfl (Nat.mod_lt _ (by decide)) (by show c < 2 ^ 32; omega)]
    congr 1
    have h2 : 2 * x % 4294967296 = 2 ^ 1 * (x % 2147483648) := by omega
    rw [h2, ← Nat.two_pow_add_eq_or_of_lt (by omega : c < 2 ^ 1)]
    omega
  have e3 : Int.fdiv (x : Int) (2 ^ min 31 IntKind.u32.bits) = ((x / 2147483648 : Nat) : Int) := by
    rw [Int.fdiv_eq_ediv_of_nonneg _ (by decide)]; rfl
  have e10 : IntKind.i64.wrap ((k : Int) + 1) = ((k + 1 : Nat) : Int) := wrap_nat (n := k + 1) (by omega)
  have h5 : k + 1 ≤ (u32s r).length := by rw [u32s_len, hl]; omega
  simp only [a41_l1, envOf, evCode_skip, evCode_exit, evCode_seq, evCode_region, evCode_cond, evCode_block, evCode_ret, evOps_cons, evOps_nil, guardOf, simpleOp, opd, opds, opdOpt, opdParts, Env.get, Env.put, pureV, Option.bind_some, List.nil_append, List.cons_append, inMerge, pairsOk, List.all_nil, List.all_cons, St.after, Env.keep, if_true, if_false, ite_true, ite_false, binV, intBin, unV, shiftOp, resultOf, packed, reduceCtorEq, Option.isNone_none, Option.isSome_none, Bool.false_eq_true, Nat.reduceAdd, Nat.reduceEqDiff, Nat.reduceMul, Nat.zero_add, List.length_cons, List.length_nil, beq_self_eq_true, Bool.not_true, Bool.not_false, evOper_move, evOper_pick, evOper_alloc, evOper_box, evOper_load, evOper_store, evOper_bin, evOper_eqv, evOper_isNil, evOper_un, evOper_conv, evOper_convStr, evOper_s2b, evOper_b2s, evOper_field, evOper_index, evOper_indexStr, evOper_build, evOper_buildSlice, evOper_fieldAddr, evOper_indexAddr, evOper_indexSl, evOper_sliceArr, evOper_sliceSl, evOper_sliceStr, evOper_makeSlice, evOper_extract, evOper_mkIface, evOper_mkFunc, evOper_nilCheck, evOper_s2ap, evOper_append, evOper_copy, evOper_len, evOper_minmax, evOper_call, evOper_callVal, Ob.fresh, live0, live1, live2, Int.natCast_nonneg, and_self, true_and, and_true, Int.toNat_natCast, Nat.mul_one, addr_add, partL, cells_int, cells_int_size, okVar, splice_single, Nat.lt_irrefl, false_and, decide_true, decide_false, Nat.add_zero, Int.reduceEq, Int.reduceLT, Int.reduceLE, Int.reduceToNat, Nat.reduceLT, Nat.reduceSub, rf_int, rf_tuple_ints, toList2, Bool.and_true, Bool.true_and, Bool.and_self, List.getElem?_cons_zero, List.getElem?_cons_succ, nlt1, nlt2, nlt3, nlt4, Nat.le_refl, Int.le_refl, Nat.not_lt_zero, Nat.sub_zero, Nat.zero_mul, cells_agg, cells_agg_size, h1, h1', hxc, e1, e2, e3, e10, h5, storeAt2, u32s_set]
theorem sb_body1 {H : List Ob} {s v : Value} {k b x l : Nat} {r nx : List Nat} (hk : k < 8) (hl : nx.length = 8) (hx : r[k]? = some x) (hx' : x < 4294967296) (ho : orderW[k]? = some l) (hb : b ≤ 1) :
    evCode T H.length a41_l0 (⟨[(0, s), (3, (.slice (some ⟨(H.length + 2), 0, none⟩) 8 8)), (4, (.slice (some ⟨H.length + 1, 0, none⟩) 8 8)), (5, (.slice (some ⟨H.length, 0, none⟩) 8 8)), (6, v), (9, .int .u32 ((b : Nat))), (53, .int .i64 8), (54, .int .i64 ((k : Nat)))], H ++ [⟨u32s (nx), true, true, true, 1⟩, ⟨u32s orderW, true, true, true, 1⟩, ⟨u32s (r), true, true, true, 1⟩], []⟩ : St) = some (.normal, (⟨[(0, s), (3, (.slice (some ⟨(H.length + 2), 0, none⟩) 8 8)), (4, (.slice (some ⟨H.length + 1, 0, none⟩) 8 8)), (5, (.slice (some ⟨H.length, 0, none⟩) 8 8)), (6, v), (9, .int .u32 (((subB x l b : Nat) : Int))), (53, .int .i64 8), (54, .int .i64 (((k + 1 : Nat) : Int)))], H ++ [⟨u32s (nx.set k (subD x l b)), true, true, true, 1⟩, ⟨u32s orderW, true, true, true, 1⟩, ⟨u32s (r), true, true, true, 1⟩], []⟩ : St)) := by
  have hxc := u32s_get hx
  have hlc := u32s_get ho
  have h1 : ((k : Int) < (8 : Int)) := by omega
  have h1' : ((k : Int) < ((8 : Nat) : Int)) := by omega
  have hsub := sub32_ev hx' (order_lt l (List.mem_of_getElem? ho)) hb
  have e10 : IntKind.i64.wrap ((k : Int) + 1) = ((k + 1 : Nat) : Int) := wrap_nat (n := k + 1) (by omega)
  have h5 : k + 1 ≤ (u32s nx).length := by rw [u32s_len, hl]; omega
  simp only [a41_l0, envOf, evCode_skip, evCode_exit, evCode_seq, evCode_region, evCode_cond, evCode_block, evCode_ret, evOps_cons, evOps_nil, guardOf, simpleOp, opd, opds, opdOpt, opdParts, Env.get, Env.put, pureV, Option.bind_some, List.nil_append, List.cons_append, inMerge, pairsOk, List.all_nil, List.all_cons, St.after, Env.keep, if_true, if_false, ite_true, ite_false, binV, intBin, unV, shiftOp, resultOf, packed, reduceCtorEq, Option.isNone_none, Option.isSome_none, Bool.false_eq_true, Nat.reduceAdd, Nat.reduceEqDiff, Nat.reduceMul, Nat.zero_add, List.length_cons, List.length_nil, beq_self_eq_true, Bool.not_true, Bool.not_false, evOper_move, evOper_pick, evOper_alloc, evOper_box, evOper_load, evOper_store, evOper_bin, evOper_eqv, evOper_isNil, evOper_un, evOper_conv, evOper_convStr, evOper_s2b, evOper_b2s, evOper_field, evOper_index, evOper_indexStr, evOper_build, evOper_buildSlice, evOper_fieldAddr, evOper_indexAddr, evOper_indexSl, evOper_sliceArr, evOper_sliceSl, evOper_sliceStr, evOper_makeSlice, evOper_extract, evOper_mkIface, evOper_mkFunc, evOper_nilCheck, evOper_s2ap, evOper_append, evOper_copy, evOper_len, evOper_minmax, evOper_call, evOper_callVal, Ob.fresh, live0, live1, live2, Int.natCast_nonneg, and_self, true_and, and_true, Int.toNat_natCast, Nat.mul_one, addr_add, partL, cells_int, cells_int_size, okVar, splice_single, Nat.lt_irrefl, false_and, decide_true, decide_false, Nat.add_zero, Int.reduceEq, Int.reduceLT, Int.reduceLE, Int.reduceToNat, Nat.reduceLT, Nat.reduceSub, rf_int, rf_tuple_ints, toList2, Bool.and_true, Bool.true_and, Bool.and_self, List.getElem?_cons_zero, List.getElem?_cons_succ, nlt1, nlt2, nlt3, nlt4, Nat.le_refl, Int.le_refl, Nat.not_lt_zero, Nat.sub_zero, Nat.zero_mul, cells_agg, cells_agg_size, h1, h1', hxc, hlc, hsub, e10, h5, storeAt0, u32s_set]
theorem sh_loop1 {H : List Ob} {s v : Value} {c : Nat} {r nx : List Nat} (hl : r.length = 8) (hr : ∀ x ∈ r, x < 4294967296) (hc : c ≤ 1) :
    ∃ r' c', evCode T H.length (.block 2 (.loop a41_l1)) (⟨[(0, s), (3, (.slice (some ⟨(H.length + 2), 0, none⟩) 8 8)), (4, (.slice (some ⟨H.length + 1, 0, none⟩) 8 8)), (5, (.slice (some ⟨H.length, 0, none⟩) 8 8)), (6, v), (7, .int .u32 ((c : Nat))), (32, .int .i64 8), (33, .int .i64 (0))], H ++ [⟨u32s (nx), true, true, true, 1⟩, ⟨u32s orderW, true, true, true, 1⟩, ⟨u32s (r), true, true, true, 1⟩], []⟩ : St) = some (.normal, (⟨[(0, s), (3, (.slice (some ⟨(H.length + 2), 0, none⟩) 8 8)), (4, (.slice (some ⟨H.length + 1, 0, none⟩) 8 8)), (5, (.slice (some ⟨H.length, 0, none⟩) 8 8)), (6, v), (7, .int .u32 ((c' : Nat))), (32, .int .i64 8), (33, .int .i64 (8)), (34, .bool false)], H ++ [⟨u32s (nx), true, true, true, 1⟩, ⟨u32s orderW, true, true, true, 1⟩, ⟨u32s (r'), true, true, true, 1⟩], []⟩ : St)) ∧ ShInv 8 c r r' c' := by
  obtain ⟨s', hb, r', c', rfl, hinv⟩ := block_inv (T := T) (base := H.length) (id := 2) (body := a41_l1)
    (fun k s1 => ∃ r' c', s1 = (⟨[(0, s), (3, (.slice (some ⟨(H.length + 2), 0, none⟩) 8 8)), (4, (.slice (some ⟨H.length + 1, 0, none⟩) 8 8)), (5, (.slice (some ⟨H.length, 0, none⟩) 8 8)), (6, v), (7, .int .u32 ((c' : Nat))), (32, .int .i64 8), (33, .int .i64 ((k : Nat)))], H ++ [⟨u32s (nx), true, true, true, 1⟩, ⟨u32s orderW, true, true, true, 1⟩, ⟨u32s (r'), true, true, true, 1⟩], []⟩ : St) ∧ ShInv k c r r' c')
    (Q := fun s1 => ∃ r' c', s1 = (⟨[(0, s), (3, (.slice (some ⟨(H.length + 2), 0, none⟩) 8 8)), (4, (.slice (some ⟨H.length + 1, 0, none⟩) 8 8)), (5, (.slice (some ⟨H.length, 0, none⟩) 8 8)), (6, v), (7, .int .u32 ((c' : Nat))), (32, .int .i64 8), (33, .int .i64 (8)), (34, .bool false)], H ++ [⟨u32s (nx), true, true, true, 1⟩, ⟨u32s orderW, true, true, true, 1⟩, ⟨u32s (r'), true, true, true, 1⟩], []⟩ : St) ∧ ShInv 8 c r r' c')
    8 (s := (⟨[(0, s), (3, (.slice (some ⟨(H.length + 2), 0, none⟩) 8 8)), (4, (.slice (some ⟨H.length + 1, 0, none⟩) 8 8)), (5, (.slice (some ⟨H.length, 0, none⟩) 8 8)), (6, v), (7, .int .u32 ((c : Nat))), (32, .int .i64 8), (33, .int .i64 (((0 : Nat) : Int)))], H ++ [⟨u32s (nx), true, true, true, 1⟩, ⟨u32s orderW, true, true, true, 1⟩, ⟨u32s (r), true, true, true, 1⟩], []⟩ : St)) ⟨_, _, rfl, ⟨hl, hr, hc, by simp [num], fun _ _ => rfl⟩⟩
    (fun k s1 hk hs => by
      obtain ⟨r', c', rfl, hI⟩ := hs
      obtain ⟨x, hx⟩ : ∃ x, r'[k]? = some x := ⟨_, List.getElem?_eq_getElem (by rw [hI.len]; omega)⟩
      exact ⟨_, sh_body1 hk hI.len hx (hI.lt x (List.mem_of_getElem? hx)) hI.cle, _, _, rfl, hI.step hx⟩)
    (fun s1 hs => by
      obtain ⟨r', c', rfl, hI⟩ := hs
      have h1 : ¬ (((8 : Nat) : Int) < (8 : Int)) := by omega
      refine ⟨_, ?_, r', c', rfl, hI⟩
      simp only [a41_l1, envOf, evCode_skip, evCode_exit, evCode_seq, evCode_region, evCode_cond, evCode_block, evCode_ret, evOps_cons, evOps_nil, guardOf, simpleOp, opd, opds, opdOpt, opdParts, Env.get, Env.put, pureV, Option.bind_some, List.nil_append, List.cons_append, inMerge, pairsOk, List.all_nil, List.all_cons, St.after, Env.keep, if_true, if_false, ite_true, ite_false, binV, intBin, unV, shiftOp, resultOf, packed, reduceCtorEq, Option.isNone_none, Option.isSome_none, Bool.false_eq_true, Nat.reduceAdd, Nat.reduceEqDiff, Nat.reduceMul, Nat.zero_add, List.length_cons, List.length_nil, beq_self_eq_true, Bool.not_true, Bool.not_false, evOper_move, evOper_pick, evOper_alloc, evOper_box, evOper_load, evOper_store, evOper_bin, evOper_eqv, evOper_isNil, evOper_un, evOper_conv, evOper_convStr, evOper_s2b, evOper_b2s, evOper_field, evOper_index, evOper_indexStr, evOper_build, evOper_buildSlice, evOper_fieldAddr, evOper_indexAddr, evOper_indexSl, evOper_sliceArr, evOper_sliceSl, evOper_sliceStr, evOper_makeSlice, evOper_extract, evOper_mkIface, evOper_mkFunc, evOper_nilCheck, evOper_s2ap, evOper_append, evOper_copy, evOper_len, evOper_minmax, evOper_call, evOper_callVal, Ob.fresh, live0, live1, live2, Int.natCast_nonneg, and_self, true_and, and_true, Int.toNat_natCast, Nat.mul_one, addr_add, partL, cells_int, cells_int_size, okVar, splice_single, Nat.lt_irrefl, false_and, decide_true, decide_false, Nat.add_zero, Int.reduceEq, Int.reduceLT, Int.reduceLE, Int.reduceToNat, Nat.reduceLT, Nat.reduceSub, rf_int, rf_tuple_ints, toList2, Bool.and_true, Bool.true_and, Bool.and_self, List.getElem?_cons_zero, List.getElem?_cons_succ, nlt1, nlt2, nlt3, nlt4, Nat.le_refl, Int.le_refl, Nat.not_lt_zero, Nat.sub_zero, Nat.zero_mul, cells_agg, cells_agg_size, h1]
      rfl)
  exact ⟨r', c', hb, hinv⟩
theorem sb_loop1 {H : List Ob} {s v : Value} {r nx : List Nat} (hl : r.length = 8) (hr : ∀ x ∈ r, x < 4294967296) (hl2 : nx.length = 8) (hr2 : ∀ x ∈ nx, x < 4294967296) :
    ∃ nx' b, evCode T H.length (.block 4 (.loop a41_l0)) (⟨[(0, s), (3, (.slice (some ⟨(H.length + 2), 0, none⟩) 8 8)), (4, (.slice (some ⟨H.length + 1, 0, none⟩) 8 8)), (5, (.slice (some ⟨H.length, 0, none⟩) 8 8)), (6, v), (9, .int .u32 (0)), (53, .int .i64 8), (54, .int .i64 (0))], H ++ [⟨u32s (nx), true, true, true, 1⟩, ⟨u32s orderW, true, true, true, 1⟩, ⟨u32s (r), true, true, true, 1⟩], []⟩ : St) = some (.normal, (⟨[(0, s), (3, (.slice (some ⟨(H.length + 2), 0, none⟩) 8 8)), (4, (.slice (some ⟨H.length + 1, 0, none⟩) 8 8)), (5, (.slice (some ⟨H.length, 0, none⟩) 8 8)), (6, v), (9, .int .u32 ((b : Nat))), (53, .int .i64 8), (54, .int .i64 (8)), (55, .bool false)], H ++ [⟨u32s (nx'), true, true, true, 1⟩, ⟨u32s orderW, true, true, true, 1⟩, ⟨u32s (r), true, true, true, 1⟩], []⟩ : St)) ∧ SbInv 8 r nx' b := by
  obtain ⟨s', hb, nx', b, rfl, hinv⟩ := block_inv (T := T) (base := H.length) (id := 4) (body := a41_l0)
    (fun k s1 => ∃ nx' b, s1 = (⟨[(0, s), (3, (.slice (some ⟨(H.length + 2), 0, none⟩) 8 8)), (4, (.slice (some ⟨H.length + 1, 0, none⟩) 8 8)), (5, (.slice (some ⟨H.length, 0, none⟩) 8 8)), (6, v), (9, .int .u32 ((b : Nat))), (53, .int .i64 8), (54, .int .i64 ((k : Nat)))], H ++ [⟨u32s (nx'), true, true, true, 1⟩, ⟨u32s orderW, true, true, true, 1⟩, ⟨u32s (r), true, true, true, 1⟩], []⟩ : St) ∧ SbInv k r nx' b)
    (Q := fun s1 => ∃ nx' b, s1 = (⟨[(0, s), (3, (.slice (some ⟨(H.length + 2), 0, none⟩) 8 8)), (4, (.slice (some ⟨H.length + 1, 0, none⟩) 8 8)), (5, (.slice (some ⟨H.length, 0, none⟩) 8 8)), (6, v), (9, .int .u32 ((b : Nat))), (53, .int .i64 8), (54, .int .i64 (8)), (55, .bool false)], H ++ [⟨u32s (nx'), true, true, true, 1⟩, ⟨u32s orderW, true, true, true, 1⟩, ⟨u32s (r), true, true, true, 1⟩], []⟩ : St) ∧ SbInv 8 r nx' b)
    8 (s := (⟨[(0, s), (3, (.slice (some ⟨(H.length + 2), 0, none⟩) 8 8)), (4, (.slice (some ⟨H.length + 1, 0, none⟩) 8 8)), (5, (.slice (some ⟨H.length, 0, none⟩) 8 8)), (6, v), (9, .int .u32 (((0 : Nat) : Int))), (53, .int .i64 8), (54, .int .i64 (((0 : Nat) : Int)))], H ++ [⟨u32s (nx), true, true, true, 1⟩, ⟨u32s orderW, true, true, true, 1⟩, ⟨u32s (r), true, true, true, 1⟩], []⟩ : St)) ⟨_, _, rfl, ⟨hl2, hr2, by decide, by simp [num]⟩⟩
    (fun k s1 hk hs => by
      obtain ⟨nx', b, rfl, hI⟩ := hs
      obtain ⟨x, hx⟩ : ∃ x, r[k]? = some x := ⟨_, List.getElem?_eq_getElem (by omega)⟩
      obtain ⟨l, hlk⟩ : ∃ l, orderW[k]? = some l := ⟨_, List.getElem?_eq_getElem (show k < orderW.length from hk)⟩
      exact ⟨_, sb_body1 hk hI.len hx (hr x (List.mem_of_getElem? hx)) hlk hI.ble, _, _, rfl, hI.step hr hk hx hlk⟩)
    (fun s1 hs => by
      obtain ⟨nx', b, rfl, hI⟩ := hs
      have h1 : ¬ (((8 : Nat) : Int) < (8 : Int)) := by omega
      refine ⟨_, ?_, nx', b, rfl, hI⟩
      simp only [a41_l0, envOf, evCode_skip, evCode_exit, evCode_seq, evCode_region, evCode_cond, evCode_block, evCode_ret, evOps_cons, evOps_nil, guardOf, simpleOp, opd, opds, opdOpt, opdParts, Env.get, Env.put, pureV, Option.bind_some, List.nil_append, List.cons_append, inMerge, pairsOk, List.all_nil, List.all_cons, St.after, Env.keep, if_true, if_false, ite_true, ite_false, binV, intBin, unV, shiftOp, resultOf, packed, reduceCtorEq, Option.isNone_none, Option.isSome_none, Bool.false_eq_true, Nat.reduceAdd, Nat.reduceEqDiff, Nat.reduceMul, Nat.zero_add, List.length_cons, List.length_nil, beq_self_eq_true, Bool.not_true, Bool.not_false, evOper_move, evOper_pick, evOper_alloc, evOper_box, evOper_load, evOper_store, evOper_bin, evOper_eqv, evOper_isNil, evOper_un, evOper_conv, evOper_convStr, evOper_s2b, evOper_b2s, evOper_field, evOper_index, evOper_indexStr, evOper_build, evOper_buildSlice, evOper_fieldAddr, evOper_indexAddr, evOper_indexSl, evOper_sliceArr, evOper_sliceSl, evOper_sliceStr, evOper_makeSlice, evOper_extract, evOper_mkIface, evOper_mkFunc, evOper_nilCheck, evOper_s2ap, evOper_append, evOper_copy, evOper_len, evOper_minmax, evOper_call, evOper_callVal, Ob.fresh, live0, live1, live2, Int.natCast_nonneg, and_self, true_and, and_true, Int.toNat_natCast, Nat.mul_one, addr_add, partL, cells_int, cells_int_size, okVar, splice_single, Nat.lt_irrefl, false_and, decide_true, decide_false, Nat.add_zero, Int.reduceEq, Int.reduceLT, Int.reduceLE, Int.reduceToNat, Nat.reduceLT, Nat.reduceSub, rf_int, rf_tuple_ints, toList2, Bool.and_true, Bool.true_and, Bool.and_self, List.getElem?_cons_zero, List.getElem?_cons_succ, nlt1, nlt2, nlt3, nlt4, Nat.le_refl, Int.le_refl, Nat.not_lt_zero, Nat.sub_zero, Nat.zero_mul, cells_agg, cells_agg_size, h1]
      rfl)
  exact ⟨nx', b, hb, hinv⟩
end Go.Ev.Ytgacigcbglflkaa
set_option linter.unusedSimpArgs false
set_option linter.unusedVariables false
namespace Go.Ev.Ytgacigcbglflkaa
open Go Go.Ev
attribute [local congr] bind_congr1
set_option maxRecDepth 100000
structure RInv (V : Nat) (r nx : List Nat) : Prop where
  len : r.length = 8
  lt : ∀ x ∈ r, x < 4294967296
  len2 : nx.length = 8
  lt2 : ∀ x ∈ nx, x < 4294967296
  eq : num 4294967296 r = V % ell
theorem ell_pow : 2 * ell + 1 < 4294967296 ^ 8 := by decide
theorem ell_pos : 0 < ell := by decide
theorem RInv.step {V c c' b : Nat} {r nx r' nx' : List Nat} (h : RInv V r nx) (hc : c ≤ 1) (h1 : ShInv 8 c r r' c') (h2 : SbInv 8 r' nx' b) : (b = 0 → RInv (2 * V + c) nx' r') ∧ (b ≠ 0 → RInv (2 * V + c) r' nx') := by
  have e1 := h1.eq
  have e2 := h2.eq
  have l1 := h.len
  have l2 := h1.len
  have l3 := h2.len
  rw [List.take_of_length_le (by omega)] at e1
  rw [List.take_of_length_le (by omega), List.take_of_length_le (show orderW.length ≤ 8 from Nat.le_refl _), List.take_of_length_le (by omega), ell_num] at e2
  have b1 := num_lt h1.lt
  have b2 := num_lt h2.lt
  rw [l2] at b1
  rw [l3] at b2
  have hp := ell_pow
  have hr : num 4294967296 r < ell := by rw [h.eq]; exact Nat.mod_lt _ ell_pos
  have hV : (2 * V + c) % ell = (2 * num 4294967296 r + c) % ell := by
    rw [h.eq, Nat.add_mod, Nat.mul_mod, Nat.add_mod (2 * (V % ell)), Nat.mul_mod 2 (V % ell), Nat.mod_mod]
  have hle := h1.cle
  have hbe := h2.ble
  generalize 4294967296 ^ 8 = W at *
  have hc0 : c' = 0 := by
    rcases Nat.lt_or_ge 0 c' with hh | hh
    · have : c' = 1 := by omega
      subst this
      omega
    · omega
  subst hc0
  generalize num 4294967296 r = x at *
  generalize hyy : num 4294967296 r' = y at *
  generalize hz : num 4294967296 nx' = z at *
  have hy : y = 2 * x + c := by omega
  subst hy
  refine ⟨fun h0 => ⟨l3, h2.lt, l2, h1.lt, ?_⟩, fun h0 => ⟨l2, h1.lt, l3, h2.lt, ?_⟩⟩
  · subst h0
    rw [hV, show 2 * x + c = z + ell by omega, Nat.add_mod_right, Nat.mod_eq_of_lt (by omega)]
    exact hz
  · have : b = 1 := by omega
    subst this
    have hlt : 2 * x + c < ell := by omega
    rw [hV, Nat.mod_eq_of_lt hlt]
    exact hyy
theorem mod_round0 {H : List Ob} {id off n cap i w V : Nat} {ws r nx : List Nat} (hr : Row .u32 H id off ws) (hn : ws.length = n) (hN : n < 2 ^ 40) (hi : i < 32 * n) (hw : ws[i / 32]? = some w) (hw' : w < 4294967296) (h : RInv V r nx) :
    ∃ r' nx', RInv (2 * V + w / 2 ^ (i % 32) % 2) r' nx' ∧ (evCode T H.length a41_l2 (⟨[(0, (.slice (some ⟨id, off, none⟩) n cap)), (3, (.slice (some ⟨H.length, 0, none⟩) 8 8)), (4, (.slice (some ⟨H.length + 1, 0, none⟩) 8 8)), (5, (.slice (some ⟨(H.length + 2), 0, none⟩) 8 8)), (6, .int .i64 ((i : Nat)))], H ++ [⟨u32s (r), true, true, true, 1⟩, ⟨u32s orderW, true, true, true, 1⟩, ⟨u32s (nx), true, true, true, 1⟩], []⟩ : St) = some (.normal, (⟨[(0, (.slice (some ⟨id, off, none⟩) n cap)), (3, (.slice (some ⟨H.length, 0, none⟩) 8 8)), (4, (.slice (some ⟨H.length + 1, 0, none⟩) 8 8)), (5, (.slice (some ⟨(H.length + 2), 0, none⟩) 8 8)), (6, .int .i64 ((i : Int) - 1))], H ++ [⟨u32s (r'), true, true, true, 1⟩, ⟨u32s orderW, true, true, true, 1⟩, ⟨u32s (nx'), true, true, true, 1⟩], []⟩ : St)) ∨ evCode T H.length a41_l2 (⟨[(0, (.slice (some ⟨id, off, none⟩) n cap)), (3, (.slice (some ⟨H.length, 0, none⟩) 8 8)), (4, (.slice (some ⟨H.length + 1, 0, none⟩) 8 8)), (5, (.slice (some ⟨(H.length + 2), 0, none⟩) 8 8)), (6, .int .i64 ((i : Nat)))], H ++ [⟨u32s (r), true, true, true, 1⟩, ⟨u32s orderW, true, true, true, 1⟩, ⟨u32s (nx), true, true, true, 1⟩], []⟩ : St) = some (.normal, (⟨[(0, (.slice (some ⟨id, off, none⟩) n cap)), (3, (.slice (some ⟨(H.length + 2), 0, none⟩) 8 8)), (4, (.slice (some ⟨H.length + 1, 0, none⟩) 8 8)), (5, (.slice (some ⟨H.length, 0, none⟩) 8 8)), (6, .int .i64 ((i : Int) - 1))], H ++ [⟨u32s (nx'), true, true, true, 1⟩, ⟨u32s orderW, true, true, true, 1⟩, ⟨u32s (r'), true, true, true, 1⟩], []⟩ : St))) := by
  have hc : w / 2 ^ (i % 32) % 2 ≤ 1 := by omega
  obtain ⟨r1, c1, hb1, i1⟩ := sh_loop0 (H := H) (s := (.slice (some ⟨id, off, none⟩) n cap)) (v := .int .i64 (i : Nat)) (nx := nx) h.len h.lt hc
  obtain ⟨nx1, b, hb2, i2⟩ := sb_loop0 (H := H) (s := (.slice (some ⟨id, off, none⟩) n cap)) (v := .int .i64 (i : Nat)) (r := r1) (nx := nx) i1.len i1.lt h.len2 h.lt2
  obtain ⟨o, ho, hcell⟩ := hr
  have ho' := liveAt_app (l := [⟨u32s (r), true, true, true, 1⟩, ⟨u32s orderW, true, true, true, 1⟩, ⟨u32s (nx), true, true, true, 1⟩]) ho
  have hwc := hcell (i / 32) w hw
  have h1 : ((i : Int) ≥ 0) := by omega
  have h2 : ((i / 32 : Nat) : Int) < (n : Int) := by omega
  have h4 : ¬ (((i % 32 : Nat) : Int) < 0) := by omega
  have e1 : IntKind.i64.wrap ((i : Int).tdiv 32) = ((i / 32 : Nat) : Int) := wrap_nat (n := i / 32) (by omega)
  have e2 : ((i : Int).tmod 32) = ((i % 32 : Nat) : Int) := rfl
  have e3 : Int.fdiv (w : Int) (2 ^ min (i % 32) IntKind.u32.bits) = ((w / 2 ^ (i % 32) : Nat) : Int) := by
    rw [Nat.min_eq_left (by show _ ≤ 32; omega), Int.fdiv_eq_ediv_of_nonneg _ (Int.le_of_lt (Int.pow_pos (by decide)))]; simp
  have e4 : bitsOp .and .u32 ((w / 2 ^ (i % 32) : Nat) : Int) 1 = ((w / 2 ^ (i % 32) % 2 : Nat) : Int) := by
    rw [show (1 : Int) = ((1 : Nat) : Int) from rfl, bits_and (k := .u32) (a := w / 2 ^ (i % 32)) (b := 1) rfl (Nat.lt_of_le_of_lt (Nat.div_le_self _ _) hw') (by decide), Nat.and_one_is_mod]
  have e5 : IntKind.i64.wrap ((i : Int) - 1) = (i : Int) - 1 := wrapI64_small (by omega) (by omega)
  have e8 : ((8 : Nat) : Int) = 8 := rfl
  have hst := h.step hc i1 i2
  generalize w / 2 ^ (i % 32) % 2 = c at *
  by_cases hb0 : b = 0
  · subst hb0
    have e6 : (((0 : Nat) : Int) == 0) = true := rfl
    refine ⟨nx1, r1, hst.1 rfl, .inr ?_⟩
    simp only [a41_l2, envOf, evCode_skip, evCode_exit, evCode_seq, evCode_region, evCode_cond, evCode_block, evCode_ret, evOps_cons, evOps_nil, guardOf, simpleOp, opd, opds, opdOpt, opdParts, Env.get, Env.put, pureV, Option.bind_some, List.nil_append, List.cons_append, inMerge, pairsOk, List.all_nil, List.all_cons, St.after, Env.keep, if_true, if_false, ite_true, ite_false, binV, intBin, unV, shiftOp, resultOf, packed, reduceCtorEq, Option.isNone_none, Option.isSome_none, Bool.false_eq_true, Nat.reduceAdd, Nat.reduceEqDiff, Nat.reduceMul, Nat.zero_add, List.length_cons, List.length_nil, beq_self_eq_true, Bool.not_true, Bool.not_false, evOper_move, evOper_pick, evOper_alloc, evOper_box, evOper_load, evOper_store, evOper_bin, evOper_eqv, evOper_isNil, evOper_un, evOper_conv, evOper_convStr, evOper_s2b, evOper_b2s, evOper_field, evOper_index, evOper_indexStr, evOper_build, evOper_buildSlice, evOper_fieldAddr, evOper_indexAddr, evOper_indexSl, evOper_sliceArr, evOper_sliceSl, evOper_sliceStr, evOper_makeSlice, evOper_extract, evOper_mkIface, evOper_mkFunc, evOper_nilCheck, evOper_s2ap, evOper_append, evOper_copy, evOper_len, evOper_minmax, evOper_call, evOper_callVal, Ob.fresh, live0, live1, live2, Int.natCast_nonneg, and_self, true_and, and_true, Int.toNat_natCast, Nat.mul_one, addr_add, partL, cells_int, cells_int_size, okVar, splice_single, Nat.lt_irrefl, false_and, decide_true, decide_false, Nat.add_zero, Int.reduceEq, Int.reduceLT, Int.reduceLE, Int.reduceToNat, Nat.reduceLT, Nat.reduceSub, rf_int, rf_tuple_ints, toList2, Bool.and_true, Bool.true_and, Bool.and_self, List.getElem?_cons_zero, List.getElem?_cons_succ, nlt1, nlt2, nlt3, nlt4, Nat.le_refl, Int.le_refl, Nat.not_lt_zero, Nat.sub_zero, Nat.zero_mul, cells_agg, cells_agg_size, h1, h2, h4, ho', hwc, e1, e2, e3, e4, e5, e6, e8, hb1, hb2]
  · have hb1' : b = 1 := by have := i2.ble; omega
    subst hb1'
    have e6 : (((1 : Nat) : Int) == 0) = false := rfl
    refine ⟨r1, nx1, hst.2 (by decide), .inl ?_⟩
    simp only [a41_l2, envOf, evCode_skip, evCode_exit, evCode_seq, evCode_region, evCode_cond, evCode_block, evCode_ret, evOps_cons, evOps_nil, guardOf, simpleOp, opd, opds, opdOpt, opdParts, Env.get, Env.put, pureV, Option.bind_some, List.nil_append, List.cons_append, inMerge, pairsOk, List.all_nil, List.all_cons, St.after, Env.keep, if_true, if_false, ite_true, ite_false, binV, intBin, unV, shiftOp, resultOf, packed, reduceCtorEq, Option.isNone_none, Option.isSome_none, Bool.false_eq_true, Nat.reduceAdd, Nat.reduceEqDiff, Nat.reduceMul, Nat.zero_add, List.length_cons, List.length_nil, beq_self_eq_true, Bool.not_true, Bool.not_false, evOper_move, evOper_pick, evOper_alloc, evOper_box, evOper_load, evOper_store, evOper_bin, evOper_eqv, evOper_isNil, evOper_un, evOper_conv, evOper_convStr, evOper_s2b, evOper_b2s, evOper_field, evOper_index, evOper_indexStr, evOper_build, evOper_buildSlice, evOper_fieldAddr, evOper_indexAddr, evOper_indexSl, evOper_sliceArr, evOper_sliceSl, evOper_sliceStr, evOper_makeSlice, evOper_extract, evOper_mkIface, evOper_mkFunc, evOper_nilCheck, evOper_s2ap, evOper_append, evOper_copy, evOper_len, evOper_minmax, evOper_call, evOper_callVal, Ob.fresh, live0, live1, live2, Int.natCast_nonneg, and_self, true_and, and_true, Int.toNat_natCast, Nat.mul_one, addr_add, partL, cells_int, cells_int_size, okVar, splice_single, Nat.lt_irrefl, false_and, decide_true, decide_false, Nat.add_zero, Int.reduceEq, Int.reduceLT, Int.reduceLE, Int.reduceToNat, Nat.reduceLT, Nat.reduceSub, rf_int, rf_tuple_ints, toList2, Bool.and_true, Bool.true_and, Bool.and_self, List.getElem?_cons_zero, List.getElem?_cons_succ, nlt1, nlt2, nlt3, nlt4, Nat.le_refl, Int.le_refl, Nat.not_lt_zero, Nat.sub_zero, Nat.zero_mul, cells_agg, cells_agg_size, h1, h2, h4, ho', hwc, e1, e2, e3, e4, e5, e6, e8, hb1, hb2]
theorem mod_round1 {H : List Ob} {id off n cap i w V : Nat} {ws r nx : List Nat} (hr : Row .u32 H id off ws) (hn : ws.length = n) (hN : n < 2 ^ 40) (hi : i < 32 * n) (hw : ws[i / 32]? = some w) (hw' : w < 4294967296) (h : RInv V r nx) :
    ∃ r' nx', RInv (2 * V + w / 2 ^ (i % 32) % 2) r' nx' ∧ (evCode T H.length a41_l2 (⟨[(0, (.slice (some ⟨id, off, none⟩) n cap)), (3, (.slice (some ⟨(H.length + 2), 0, none⟩) 8 8)), (4, (.slice (some ⟨H.length + 1, 0, none⟩) 8 8)), (5, (.slice (some ⟨H.length, 0, none⟩) 8 8)), (6, .int .i64 ((i : Nat)))], H ++ [⟨u32s (nx), true, true, true, 1⟩, ⟨u32s orderW, true, true, true, 1⟩, ⟨u32s (r), true, true, true, 1⟩], []⟩ : St) = some (.normal, (⟨[(0, (.slice (some ⟨id, off, none⟩) n cap)), (3, (.slice (some ⟨(H.length + 2), 0, none⟩) 8 8)), (4, (.slice (some ⟨H.length + 1, 0, none⟩) 8 8)), (5, (.slice (some ⟨H.length, 0, none⟩) 8 8)), (6, .int .i64 ((i : Int) - 1))], H ++ [⟨u32s (nx'), true, true, true, 1⟩, ⟨u32s orderW, true, true, true, 1⟩, ⟨u32s (r'), true, true, true, 1⟩], []⟩ : St)) ∨ evCode T H.length a41_l2 (⟨[(0, (.slice (some ⟨id, off, none⟩) n cap)), (3, (.slice (some ⟨(H.length + 2), 0, none⟩) 8 8)), (4, (.slice (some ⟨H.length + 1, 0, none⟩) 8 8)), (5, (.slice (some ⟨H.length, 0, none⟩) 8 8)), (6, .int .i64 ((i : Nat)))], H ++ [⟨u32s (nx), true, true, true, 1⟩, ⟨u32s orderW, true, true, true, 1⟩, ⟨u32s (r), true, true, true, 1⟩], []⟩ : St) = some (.normal, (⟨[(0, (.slice (some ⟨id, off, none⟩) n cap)), (3, (.slice (some ⟨H.length, 0, none⟩) 8 8)), (4, (.slice (some ⟨H.length + 1, 0, none⟩) 8 8)), (5, (.slice (some ⟨(H.length + 2), 0, none⟩) 8 8)), (6, .int .i64 ((i : Int) - 1))], H ++ [⟨u32s (r'), true, true, true, 1⟩, ⟨u32s orderW, true, true, true, 1⟩, ⟨u32s (nx'), true, true, true, 1⟩], []⟩ : St))) := by
  have hc : w / 2 ^ (i % 32) % 2 ≤ 1 := by omega
  obtain ⟨r1, c1, hb1, i1⟩ := sh_loop1 (H := H) (s := (.slice (some ⟨id, off, none⟩) n cap)) (v := .int .i64 (i : Nat)) (nx := nx) h.len h.lt hc
  obtain ⟨nx1, b, hb2, i2⟩ := sb_loop1 (H := H) (s := (.slice (some ⟨id, off, none⟩) n cap)) (v := .int .i64 (i : Nat)) (r := r1) (nx := nx) i1.len i1.lt h.len2 h.lt2
  obtain ⟨o, ho, hcell⟩ := hr
  have ho' := liveAt_app (l := [⟨u32s (nx), true, true, true, 1⟩, ⟨u32s orderW, true, true, true, 1⟩, ⟨u32s (r), true, true, true, 1⟩]) ho
  have hwc := hcell (i / 32) w hw
  have h1 : ((i : Int) ≥ 0) := by omega
  have h2 : ((i / 32 : Nat) : Int) < (n : Int) := by omega
  have h4 : ¬ (((i % 32 : Nat) : Int) < 0) := by omega
  have e1 : IntKind.i64.wrap ((i : Int).tdiv 32) = ((i / 32 : Nat) : Int) := wrap_nat (n := i / 32) (by omega)
  have e2 : ((i : Int).tmod 32) = ((i % 32 : Nat) : Int) := rfl
  have e3 : Int.fdiv (w : Int) (2 ^ min (i % 32) IntKind.u32.bits) = ((w / 2 ^ (i % 32) : Nat) : Int) := by
    rw [Nat.min_eq_left (by show _ ≤ 32; omega), Int.fdiv_eq_ediv_of_nonneg _ (Int.le_of_lt (Int.pow_pos (by decide)))]; simp
  have e4 : bitsOp .and .u32 ((w / 2 ^ (i % 32) : Nat) : Int) 1 = ((w / 2 ^ (i % 32) % 2 : Nat) : Int) := by
    rw [show (1 : Int) = ((1 : Nat) : Int) from rfl, bits_and (k := .u32) (a := w / 2 ^ (i % 32)) (b := 1) rfl (Nat.lt_of_le_of_lt (Nat.div_le_self _ _) hw') (by decide), Nat.and_one_is_mod]
  have e5 : IntKind.i64.wrap ((i : Int) - 1) = (i : Int) - 1 := wrapI64_small (by omega) (by omega)
  have e8 : ((8 : Nat) : Int) = 8 := rfl
  have hst := h.step hc i1 i2
  generalize w / 2 ^ (i % 32) % 2 = c at *
  by_cases hb0 : b = 0
  · subst hb0
    have e6 : (((0 : Nat) : Int) == 0) = true := rfl
    refine ⟨nx1, r1, hst.1 rfl, .inr ?_⟩
    simp only [a41_l2, envOf, evCode_skip, evCode_exit, evCode_seq, evCode_region, evCode_cond, evCode_block, evCode_ret, evOps_cons, evOps_nil, guardOf, simpleOp, opd, opds, opdOpt, opdParts, Env.get, Env.put, pureV, Option.bind_some, List.nil_append, List.cons_append, inMerge, pairsOk, List.all_nil, List.all_cons, St.after, Env.keep, if_true, if_false, ite_true, ite_false, binV, intBin, unV, shiftOp, resultOf, packed, reduceCtorEq, Option.isNone_none, Option.isSome_none, Bool.false_eq_true, Nat.reduceAdd, Nat.reduceEqDiff, Nat.reduceMul, Nat.zero_add, List.length_cons, List.length_nil, beq_self_eq_true, Bool.not_true, Bool.not_false, evOper_move, evOper_pick, evOper_alloc, evOper_box, evOper_load, evOper_store, evOper_bin, evOper_eqv, evOper_isNil, evOper_un, evOper_conv, evOper_convStr, evOper_s2b, evOper_b2s, evOper_field, evOper_index, evOper_indexStr, evOper_build, evOper_buildSlice, evOper_fieldAddr, evOper_indexAddr, evOper_indexSl, evOper_sliceArr, evOper_sliceSl, evOper_sliceStr, evOper_makeSlice, evOper_extract, evOper_mkIface, evOper_mkFunc, evOper_nilCheck, evOper_s2ap, evOper_append, evOper_copy, evOper_len, evOper_minmax, evOper_call, evOper_callVal, Ob.fresh, live0, live1, live2, Int.natCast_nonneg, and_self, true_and, and_true, Int.toNat_natCast, Nat.mul_one, addr_add, partL, cells_int, cells_int_size, okVar, splice_single, Nat.lt_irrefl, false_and, decide_true, decide_false, Nat.add_zero, Int.reduceEq, Int.reduceLT, Int.reduceLE, Int.reduceToNat, Nat.reduceLT, Nat.reduceSub, rf_int, rf_tuple_ints, toList2, Bool.and_true, Bool.true_and, Bool.and_self, List.getElem?_cons_zero, List.getElem?_cons_succ, nlt1, nlt2, nlt3, nlt4, Nat.le_refl, Int.le_refl, Nat.not_lt_zero, Nat.sub_zero, Nat.zero_mul, cells_agg, cells_agg_size, h1, h2, h4, ho', hwc, e1, e2, e3, e4, e5, e6, e8, hb1, hb2]
  · have hb1' : b = 1 := by have := i2.ble; omega
    subst hb1'
    have e6 : (((1 : Nat) : Int) == 0) = false := rfl
    refine ⟨r1, nx1, hst.2 (by decide), .inl ?_⟩
    simp only [a41_l2, envOf, evCode_skip, evCode_exit, evCode_seq, evCode_region, evCode_cond, evCode_block, evCode_ret, evOps_cons, evOps_nil, guardOf, simpleOp, opd, opds, opdOpt, opdParts, Env.get, Env.put, pureV, Option.bind_some, List.nil_append, List.cons_append, inMerge, pairsOk, List.all_nil, List.all_cons, St.after, Env.keep, if_true, if_false, ite_true, ite_false, binV, intBin, unV, shiftOp, resultOf, packed, reduceCtorEq, Option.isNone_none, Option.isSome_none, Bool.false_eq_true, Nat.reduceAdd, Nat.reduceEqDiff, Nat.reduceMul, Nat.zero_add, List.length_cons, List.length_nil, beq_self_eq_true, Bool.not_true, Bool.not_false, evOper_move, evOper_pick, evOper_alloc, evOper_box, evOper_load, evOper_store, evOper_bin, evOper_eqv, evOper_isNil, evOper_un, evOper_conv, evOper_convStr, evOper_s2b, evOper_b2s, evOper_field, evOper_index, evOper_indexStr, evOper_build, evOper_buildSlice, evOper_fieldAddr, evOper_indexAddr, evOper_indexSl, evOper_sliceArr, evOper_sliceSl, evOper_sliceStr, evOper_makeSlice, evOper_extract, evOper_mkIface, evOper_mkFunc, evOper_nilCheck, evOper_s2ap, evOper_append, evOper_copy, evOper_len, evOper_minmax, evOper_call, evOper_callVal, Ob.fresh, live0, live1, live2, Int.natCast_nonneg, and_self, true_and, and_true, Int.toNat_natCast, Nat.mul_one, addr_add, partL, cells_int, cells_int_size, okVar, splice_single, Nat.lt_irrefl, false_and, decide_true, decide_false, Nat.add_zero, Int.reduceEq, Int.reduceLT, Int.reduceLE, Int.reduceToNat, Nat.reduceLT, Nat.reduceSub, rf_int, rf_tuple_ints, toList2, Bool.and_true, Bool.true_and, Bool.and_self, List.getElem?_cons_zero, List.getElem?_cons_succ, nlt1, nlt2, nlt3, nlt4, Nat.le_refl, Int.le_refl, Nat.not_lt_zero, Nat.sub_zero, Nat.zero_mul, cells_agg, cells_agg_size, h1, h2, h4, ho', hwc, e1, e2, e3, e4, e5, e6, e8, hb1, hb2]
def modSt (H : List Ob) (s : Value) (p : Bool) (v : Int) (r nx : List Nat) : St := match p with
  | false => (⟨[(0, s), (3, (.slice (some ⟨H.length, 0, none⟩) 8 8)), (4, (.slice (some ⟨H.length + 1, 0, none⟩) 8 8)), (5, (.slice (some ⟨(H.length + 2), 0, none⟩) 8 8)), (6, .int .i64 (v))], H ++ [⟨u32s (r), true, true, true, 1⟩, ⟨u32s orderW, true, true, true, 1⟩, ⟨u32s (nx), true, true, true, 1⟩], []⟩ : St)
  | true => (⟨[(0, s), (3, (.slice (some ⟨(H.length + 2), 0, none⟩) 8 8)), (4, (.slice (some ⟨H.length + 1, 0, none⟩) 8 8)), (5, (.slice (some ⟨H.length, 0, none⟩) 8 8)), (6, .int .i64 (v))], H ++ [⟨u32s (nx), true, true, true, 1⟩, ⟨u32s orderW, true, true, true, 1⟩, ⟨u32s (r), true, true, true, 1⟩], []⟩ : St)
def modEnd (H : List Ob) (s : Value) (p : Bool) (r nx : List Nat) : St := match p with
  | false => (⟨[(0, s), (3, (.slice (some ⟨H.length, 0, none⟩) 8 8)), (4, (.slice (some ⟨H.length + 1, 0, none⟩) 8 8)), (5, (.slice (some ⟨(H.length + 2), 0, none⟩) 8 8)), (6, .int .i64 (-1)), (19, .bool false)], H ++ [⟨u32s (r), true, true, true, 1⟩, ⟨u32s orderW, true, true, true, 1⟩, ⟨u32s (nx), true, true, true, 1⟩], []⟩ : St)
  | true => (⟨[(0, s), (3, (.slice (some ⟨(H.length + 2), 0, none⟩) 8 8)), (4, (.slice (some ⟨H.length + 1, 0, none⟩) 8 8)), (5, (.slice (some ⟨H.length, 0, none⟩) 8 8)), (6, .int .i64 (-1)), (19, .bool false)], H ++ [⟨u32s (nx), true, true, true, 1⟩, ⟨u32s orderW, true, true, true, 1⟩, ⟨u32s (r), true, true, true, 1⟩], []⟩ : St)
theorem mod_round {H : List Ob} {id off n cap i w V : Nat} {ws r nx : List Nat} (p : Bool) (hr : Row .u32 H id off ws) (hn : ws.length = n) (hN : n < 2 ^ 40) (hi : i < 32 * n) (hw : ws[i / 32]? = some w) (hw' : w < 4294967296) (h : RInv V r nx) :
    ∃ q r' nx', RInv (2 * V + w / 2 ^ (i % 32) % 2) r' nx' ∧ evCode T H.length a41_l2 (modSt H (.slice (some ⟨id, off, none⟩) n cap) p (i : Nat) r nx) = some (.normal, modSt H (.slice (some ⟨id, off, none⟩) n cap) q ((i : Int) - 1) r' nx') := by
  cases p with
  | false =>
    obtain ⟨r', nx', h1, h2⟩ := mod_round0 (cap := cap) hr hn hN hi hw hw' h
    rcases h2 with h2 | h2
    · exact ⟨false, r', nx', h1, h2⟩
    · exact ⟨true, r', nx', h1, h2⟩
  | true =>
    obtain ⟨r', nx', h1, h2⟩ := mod_round1 (cap := cap) hr hn hN hi hw hw' h
    rcases h2 with h2 | h2
    · exact ⟨true, r', nx', h1, h2⟩
    · exact ⟨false, r', nx', h1, h2⟩
theorem bit_of {ws : List Nat} {i w : Nat} (hws : ∀ x ∈ ws, x < 4294967296) (hw : ws[i / 32]? = some w) : 2 * (num 4294967296 ws / 2 ^ (i + 1)) + w / 2 ^ (i % 32) % 2 = num 4294967296 ws / 2 ^ i := by
  have h1 := num_get (B := 4294967296) (by decide) hws hw
  generalize num 4294967296 ws = v at *
  have h2 : w / 2 ^ (i % 32) % 2 = v / 2 ^ i % 2 := by
    have e1 : (4294967296 : Nat) ^ (i / 32) = 2 ^ (32 * (i / 32)) := by rw [show (4294967296 : Nat) = 2 ^ 32 from rfl, ← Nat.pow_mul]
    rw [← h1, e1]
    have e2 : (2 : Nat) ^ i = 2 ^ (32 * (i / 32)) * 2 ^ (i % 32) := by rw [← Nat.pow_add]; congr 1; omega
    rw [e2, ← Nat.div_div_eq_div_mul]
    generalize v / 2 ^ (32 * (i / 32)) = u
    have e3 : (4294967296 : Nat) = 2 ^ (i % 32) * 2 ^ (32 - i % 32) := by rw [← Nat.pow_add]; rw [show i % 32 + (32 - i % 32) = 32 by omega]
    rw [e3, Nat.mod_mul_right_div_self, Nat.mod_mod_of_dvd]
    exact ⟨2 ^ (31 - i % 32), by rw [← Nat.pow_add_one']; congr 1; omega⟩
  rw [h2, Nat.pow_succ, ← Nat.div_div_eq_div_mul]
  omega
theorem mod_ev {H : List Ob} {id off n cap : Nat} {ws : List Nat} (hr : Row .u32 H id off ws) (hn : ws.length = n) (hn0 : 0 < n) (hN : n < 2 ^ 40) (hws : ∀ x ∈ ws, x < 4294967296) :
    ∃ k l, evFun T 41 [.slice (some ⟨id, off, none⟩) n cap] H = some (.slice (some ⟨k, 0, none⟩) 8 8, H ++ l, []) ∧ Row .u32 (H ++ l) k 0 (dig 4294967296 8 (num 4294967296 ws % ell)) := by
  have h0 : RInv (num 4294967296 ws / 2 ^ (32 * n)) (dig 4294967296 8 0) (dig 4294967296 8 0) := by
    refine ⟨dig_len _ _ _, fun x hx => dig_lt (by decide) hx, dig_len _ _ _, fun x hx => dig_lt (by decide) hx, ?_⟩
    have h1 := num_lt hws
    rw [hn, show (4294967296 : Nat) = 2 ^ 32 from rfl, ← Nat.pow_mul] at h1
    rw [num_dig (by decide), show (4294967296 : Nat) = 2 ^ 32 from rfl, Nat.div_eq_of_lt h1]
    simp
  obtain ⟨s', hb, q, r, nx, rfl, hinv⟩ := block_inv (T := T) (base := H.length) (id := 0) (body := a41_l2)
    (fun j s => ∃ p r nx, s = modSt H (.slice (some ⟨id, off, none⟩) n cap) p (((32 * n - j : Nat) : Int) - 1) r nx ∧ RInv (num 4294967296 ws / 2 ^ (32 * n - j)) r nx)
    (Q := fun s => ∃ p r nx, s = modEnd H (.slice (some ⟨id, off, none⟩) n cap) p r nx ∧ RInv (num 4294967296 ws) r nx)
    (32 * n) (s := modSt H (.slice (some ⟨id, off, none⟩) n cap) false (((32 * n - 0 : Nat) : Int) - 1) (dig 4294967296 8 0) (dig 4294967296 8 0)) ⟨false, _, _, rfl, h0⟩
    (fun j s hj hs => by
      obtain ⟨p, r, nx, rfl, hI⟩ := hs
      obtain ⟨i, hi⟩ : ∃ i, 32 * n - j = i + 1 := ⟨32 * n - j - 1, by omega⟩
      obtain ⟨w, hw⟩ : ∃ w, ws[i / 32]? = some w := ⟨_, List.getElem?_eq_getElem (by omega)⟩
      rw [hi] at hI
      obtain ⟨q, r', nx', g1, g2⟩ := mod_round (cap := cap) p hr hn hN (by omega) hw (hws w (List.mem_of_getElem? hw)) hI
      rw [bit_of hws hw] at g1
      refine ⟨_, ?_, q, r', nx', rfl, by rw [show 32 * n - (j + 1) = i by omega]; exact g1⟩
      rw [hi, show 32 * n - (j + 1) = i by omega, show (((i + 1 : Nat) : Int) - 1) = (i : Nat) by omega]
      exact g2)
    (fun s hs => by
      obtain ⟨p, r, nx, rfl, hI⟩ := hs
      rw [Nat.sub_self, Nat.pow_zero, Nat.div_one] at hI
      refine ⟨_, ?_, p, r, nx, rfl, hI⟩
      rw [Nat.sub_self]
      have h1 : ¬ ((-1 : Int) ≥ 0) := by decide
      cases p with
      | false =>
        rw [show modSt H (.slice (some ⟨id, off, none⟩) n cap) false (((0 : Nat) : Int) - 1) r nx = (⟨[(0, .slice (some ⟨id, off, none⟩) n cap), (3, (.slice (some ⟨H.length, 0, none⟩) 8 8)), (4, (.slice (some ⟨H.length + 1, 0, none⟩) 8 8)), (5, (.slice (some ⟨(H.length + 2), 0, none⟩) 8 8)), (6, .int .i64 (-1))], H ++ [⟨u32s (r), true, true, true, 1⟩, ⟨u32s orderW, true, true, true, 1⟩, ⟨u32s (nx), true, true, true, 1⟩], []⟩ : St) from rfl]
        simp only [a41_l2, envOf, evCode_skip, evCode_exit, evCode_seq, evCode_region, evCode_cond, evCode_block, evCode_ret, evOps_cons, evOps_nil, guardOf, simpleOp, opd, opds, opdOpt, opdParts, Env.get, Env.put, pureV, Option.bind_some, List.nil_append, List.cons_append, inMerge, pairsOk, List.all_nil, List.all_cons, St.after, Env.keep, if_true, if_false, ite_true, ite_false, binV, intBin, unV, shiftOp, resultOf, packed, reduceCtorEq, Option.isNone_none, Option.isSome_none, Bool.false_eq_true, Nat.reduceAdd, Nat.reduceEqDiff, Nat.reduceMul, Nat.zero_add, List.length_cons, List.length_nil, beq_self_eq_true, Bool.not_true, Bool.not_false, evOper_move, evOper_pick, evOper_alloc, evOper_box, evOper_load, evOper_store, evOper_bin, evOper_eqv, evOper_isNil, evOper_un, evOper_conv, evOper_convStr, evOper_s2b, evOper_b2s, evOper_field, evOper_index, evOper_indexStr, evOper_build, evOper_buildSlice, evOper_fieldAddr, evOper_indexAddr, evOper_indexSl, evOper_sliceArr, evOper_sliceSl, evOper_sliceStr, evOper_makeSlice, evOper_extract, evOper_mkIface, evOper_mkFunc, evOper_nilCheck, evOper_s2ap, evOper_append, evOper_copy, evOper_len, evOper_minmax, evOper_call, evOper_callVal, Ob.fresh, live0, live1, live2, Int.natCast_nonneg, and_self, true_and, and_true, Int.toNat_natCast, Nat.mul_one, addr_add, partL, cells_int, cells_int_size, okVar, splice_single, Nat.lt_irrefl, false_and, decide_true, decide_false, Nat.add_zero, Int.reduceEq, Int.reduceLT, Int.reduceLE, Int.reduceToNat, Nat.reduceLT, Nat.reduceSub, rf_int, rf_tuple_ints, toList2, Bool.and_true, Bool.true_and, Bool.and_self, List.getElem?_cons_zero, List.getElem?_cons_succ, nlt1, nlt2, nlt3, nlt4, Nat.le_refl, Int.le_refl, Nat.not_lt_zero, Nat.sub_zero, Nat.zero_mul, cells_agg, cells_agg_size, h1, modEnd]
      | true =>
        rw [show modSt H (.slice (some ⟨id, off, none⟩) n cap) true (((0 : Nat) : Int) - 1) r nx = (⟨[(0, .slice (some ⟨id, off, none⟩) n cap), (3, (.slice (some ⟨(H.length + 2), 0, none⟩) 8 8)), (4, (.slice (some ⟨H.length + 1, 0, none⟩) 8 8)), (5, (.slice (some ⟨H.length, 0, none⟩) 8 8)), (6, .int .i64 (-1))], H ++ [⟨u32s (nx), true, true, true, 1⟩, ⟨u32s orderW, true, true, true, 1⟩, ⟨u32s (r), true, true, true, 1⟩], []⟩ : St) from rfl]
        simp only [a41_l2, envOf, evCode_skip, evCode_exit, evCode_seq, evCode_region, evCode_cond, evCode_block, evCode_ret, evOps_cons, evOps_nil, guardOf, simpleOp, opd, opds, opdOpt, opdParts, Env.get, Env.put, pureV, Option.bind_some, List.nil_append, List.cons_append, inMerge, pairsOk, List.all_nil, List.all_cons, St.after, Env.keep, if_true, if_false, ite_true, ite_false, binV, intBin, unV, shiftOp, resultOf, packed, reduceCtorEq, Option.isNone_none, Option.isSome_none, Bool.false_eq_true, Nat.reduceAdd, Nat.reduceEqDiff, Nat.reduceMul, Nat.zero_add, List.length_cons, List.length_nil, beq_self_eq_true, Bool.not_true, Bool.not_false, evOper_move, evOper_pick, evOper_alloc, evOper_box, evOper_load, evOper_store, evOper_bin, evOper_eqv, evOper_isNil, evOper_un, evOper_conv, evOper_convStr, evOper_s2b, evOper_b2s, evOper_field, evOper_index, evOper_indexStr, evOper_build, evOper_buildSlice, evOper_fieldAddr, evOper_indexAddr, evOper_indexSl, evOper_sliceArr, evOper_sliceSl, evOper_sliceStr, evOper_makeSlice, evOper_extract, evOper_mkIface, evOper_mkFunc, evOper_nilCheck, evOper_s2ap, evOper_append, evOper_copy, evOper_len, evOper_minmax, evOper_call, evOper_callVal, Ob.fresh, live0, live1, live2, Int.natCast_nonneg, and_self, true_and, and_true, Int.toNat_natCast, Nat.mul_one, addr_add, partL, cells_int, cells_int_size, okVar, splice_single, Nat.lt_irrefl, false_and, decide_true, decide_false, Nat.add_zero, Int.reduceEq, Int.reduceLT, Int.reduceLE, Int.reduceToNat, Nat.reduceLT, Nat.reduceSub, rf_int, rf_tuple_ints, toList2, Bool.and_true, Bool.true_and, Bool.and_self, List.getElem?_cons_zero, List.getElem?_cons_succ, nlt1, nlt2, nlt3, nlt4, Nat.le_refl, Int.le_refl, Nat.not_lt_zero, Nat.sub_zero, Nat.zero_mul, cells_agg, cells_agg_size, h1, modEnd])
  obtain ⟨m, hm⟩ : ∃ m : Int, m = ((32 * n - 0 : Nat) : Int) - 1 := ⟨_, rfl⟩
  rw [← hm, show modSt H (.slice (some ⟨id, off, none⟩) n cap) false m (dig 4294967296 8 0) (dig 4294967296 8 0) = (⟨[(0, .slice (some ⟨id, off, none⟩) n cap), (3, (.slice (some ⟨H.length, 0, none⟩) 8 8)), (4, (.slice (some ⟨H.length + 1, 0, none⟩) 8 8)), (5, (.slice (some ⟨(H.length + 2), 0, none⟩) 8 8)), (6, .int .i64 (m))], H ++ [⟨u32s (dig 4294967296 8 0), true, true, true, 1⟩, ⟨u32s orderW, true, true, true, 1⟩, ⟨u32s (dig 4294967296 8 0), true, true, true, 1⟩], []⟩ : St) from rfl] at hb
  have e1 : IntKind.i64.wrap (IntKind.i64.wrap (32 * (n : Int)) - 1) = m := by rw [wrapI64_small (x := 32 * (n : Int)) (by omega) (by omega), wrapI64_small (by omega) (by omega)]; omega
  have h1 : ((8 : Int) * ((4 : Nat) : Int) ≤ 2 ^ 47) := by decide
  have h2 : (0 : Nat) < 4 := by decide
  have h3 : ((0 : Int) ≤ 8) := by decide
  have hz : List.replicate 8 (Value.int .u32 0) = u32s (dig 4294967296 8 0) := rfl
  have horder := order_ev (H ++ [⟨u32s (dig 4294967296 8 0), true, true, true, 1⟩])
  simp only [List.length_append, List.length_cons, List.length_nil, Nat.zero_add, List.append_assoc, List.cons_append, List.nil_append, Ob.fresh] at horder
  have hdig : r = dig 4294967296 8 (num 4294967296 ws % ell) := by rw [← hinv.eq, ← hinv.len, dig_num (by decide) hinv.lt]
  cases q with
  | false =>
    refine ⟨H.length, [⟨u32s r, true, true, true, 1⟩, ⟨u32s orderW, true, true, true, 1⟩, ⟨u32s nx, true, true, true, 1⟩], ?_, ?_⟩
    · rw [evFun_fn (fn := a41) rfl]
      simp only [a41, envOf, evCode_skip, evCode_exit, evCode_seq, evCode_region, evCode_cond, evCode_block, evCode_ret, evOps_cons, evOps_nil, guardOf, simpleOp, opd, opds, opdOpt, opdParts, Env.get, Env.put, pureV, Option.bind_some, List.nil_append, List.cons_append, inMerge, pairsOk, List.all_nil, List.all_cons, St.after, Env.keep, if_true, if_false, ite_true, ite_false, binV, intBin, unV, shiftOp, resultOf, packed, reduceCtorEq, Option.isNone_none, Option.isSome_none, Bool.false_eq_true, Nat.reduceAdd, Nat.reduceEqDiff, Nat.reduceMul, Nat.zero_add, List.length_cons, List.length_nil, beq_self_eq_true, Bool.not_true, Bool.not_false, evOper_move, evOper_pick, evOper_alloc, evOper_box, evOper_load, evOper_store, evOper_bin, evOper_eqv, evOper_isNil, evOper_un, evOper_conv, evOper_convStr, evOper_s2b, evOper_b2s, evOper_field, evOper_index, evOper_indexStr, evOper_build, evOper_buildSlice, evOper_fieldAddr, evOper_indexAddr, evOper_indexSl, evOper_sliceArr, evOper_sliceSl, evOper_sliceStr, evOper_makeSlice, evOper_extract, evOper_mkIface, evOper_mkFunc, evOper_nilCheck, evOper_s2ap, evOper_append, evOper_copy, evOper_len, evOper_minmax, evOper_call, evOper_callVal, Ob.fresh, live0, live1, live2, Int.natCast_nonneg, and_self, true_and, and_true, Int.toNat_natCast, Nat.mul_one, addr_add, partL, cells_int, cells_int_size, okVar, splice_single, Nat.lt_irrefl, false_and, decide_true, decide_false, Nat.add_zero, Int.reduceEq, Int.reduceLT, Int.reduceLE, Int.reduceToNat, Nat.reduceLT, Nat.reduceSub, rf_int, rf_tuple_ints, toList2, Bool.and_true, Bool.true_and, Bool.and_self, List.getElem?_cons_zero, List.getElem?_cons_succ, nlt1, nlt2, nlt3, nlt4, Nat.le_refl, Int.le_refl, Nat.not_lt_zero, Nat.sub_zero, Nat.zero_mul, cells_agg, cells_agg_size, e1, h1, h2, h3, Int.le_refl, flat_one, hz, horder, List.length_append, List.append_assoc, hb, modEnd]
    · exact ⟨_, live0, fun i x hx => by rw [Nat.zero_add]; exact u32s_get (by rw [hdig]; exact hx)⟩
  | true =>
    refine ⟨H.length + 2, [⟨u32s nx, true, true, true, 1⟩, ⟨u32s orderW, true, true, true, 1⟩, ⟨u32s r, true, true, true, 1⟩], ?_, ?_⟩
    · rw [evFun_fn (fn := a41) rfl]
      simp only [a41, envOf, evCode_skip, evCode_exit, evCode_seq, evCode_region, evCode_cond, evCode_block, evCode_ret, evOps_cons, evOps_nil, guardOf, simpleOp, opd, opds, opdOpt, opdParts, Env.get, Env.put, pureV, Option.bind_some, List.nil_append, List.cons_append, inMerge, pairsOk, List.all_nil, List.all_cons, St.after, Env.keep, if_true, if_false, ite_true, ite_false, binV, intBin, unV, shiftOp, resultOf, packed, reduceCtorEq, Option.isNone_none, Option.isSome_none, Bool.false_eq_true, Nat.reduceAdd, Nat.reduceEqDiff, Nat.reduceMul, Nat.zero_add, List.length_cons, List.length_nil, beq_self_eq_true, Bool.not_true, Bool.not_false, evOper_move, evOper_pick, evOper_alloc, evOper_box, evOper_load, evOper_store, evOper_bin, evOper_eqv, evOper_isNil, evOper_un, evOper_conv, evOper_convStr, evOper_s2b, evOper_b2s, evOper_field, evOper_index, evOper_indexStr, evOper_build, evOper_buildSlice, evOper_fieldAddr, evOper_indexAddr, evOper_indexSl, evOper_sliceArr, evOper_sliceSl, evOper_sliceStr, evOper_makeSlice, evOper_extract, evOper_mkIface, evOper_mkFunc, evOper_nilCheck, evOper_s2ap, evOper_append, evOper_copy, evOper_len, evOper_minmax, evOper_call, evOper_callVal, Ob.fresh, live0, live1, live2, Int.natCast_nonneg, and_self, true_and, and_true, Int.toNat_natCast, Nat.mul_one, addr_add, partL, cells_int, cells_int_size, okVar, splice_single, Nat.lt_irrefl, false_and, decide_true, decide_false, Nat.add_zero, Int.reduceEq, Int.reduceLT, Int.reduceLE, Int.reduceToNat, Nat.reduceLT, Nat.reduceSub, rf_int, rf_tuple_ints, toList2, Bool.and_true, Bool.true_and, Bool.and_self, List.getElem?_cons_zero, List.getElem?_cons_succ, nlt1, nlt2, nlt3, nlt4, Nat.le_refl, Int.le_refl, Nat.not_lt_zero, Nat.sub_zero, Nat.zero_mul, cells_agg, cells_agg_size, e1, h1, h2, h3, Int.le_refl, flat_one, hz, horder, List.length_append, List.append_assoc, hb, modEnd]
    · exact ⟨_, live2, fun i x hx => by rw [Nat.zero_add]; exact u32s_get (by rw [hdig]; exact hx)⟩
end Go.Ev.Ytgacigcbglflkaa
set_option linter.unusedSimpArgs false
set_option linter.unusedVariables false
namespace Go.Ev.Ytgacigcbglflkaa
open Go Go.Ev
attribute [local congr] bind_congr1
set_option maxRecDepth 100000
theorem splice_all {cs v : List Value} (h : v.length = cs.length) : splice cs 0 v = v := by
  rw [splice_gen _ _ _ (by omega), List.take_zero, List.nil_append, Nat.zero_add, h, List.drop_length, List.append_nil]
theorem byte_of {v w i : Nat} (hw : v / 4294967296 ^ (i / 4) % 4294967296 = w) : w / 2 ^ (8 * (i % 4)) % 256 = v / 256 ^ i % 256 := by
  subst hw
  have e1 : (4294967296 : Nat) ^ (i / 4) = 2 ^ (32 * (i / 4)) := by rw [show (4294967296 : Nat) = 2 ^ 32 from rfl, ← Nat.pow_mul]
  have e2 : (256 : Nat) ^ i = 2 ^ (32 * (i / 4)) * 2 ^ (8 * (i % 4)) := by
    rw [show (256 : Nat) = 2 ^ 8 from rfl, ← Nat.pow_mul, ← Nat.pow_add]; congr 1; omega
  rw [e1, e2, ← Nat.div_div_eq_div_mul]
  generalize v / 2 ^ (32 * (i / 4)) = u
  have e3 : (4294967296 : Nat) = 2 ^ (8 * (i % 4)) * 2 ^ (32 - 8 * (i % 4)) := by rw [← Nat.pow_add]; rw [show 8 * (i % 4) + (32 - 8 * (i % 4)) = 32 by omega]
  rw [e3, Nat.mod_mul_right_div_self, Nat.mod_mod_of_dvd]
  exact ⟨2 ^ (24 - 8 * (i % 4)), by rw [show (256 : Nat) = 2 ^ 8 from rfl, ← Nat.pow_add]; congr 1; omega⟩
def byI (H : List Ob) (s : Value) (i : Int) (k : List Nat) (ex : Env) : St :=
  ⟨[(0, s), (2, .pointer (some ⟨H.length, 0, none⟩)), (3, .pointer (some ⟨H.length + 1, 0, none⟩)), (5, .int .i64 i)] ++ ex, H ++ [⟨u8s (dig 256 32 0), true, true, true, 1⟩, ⟨u8s k, true, true, true, 1⟩], []⟩
theorem by_body {H : List Ob} {id off cap i w : Nat} {ws k : List Nat} (hr : Row .u32 H id off ws) (hn : ws.length = 8) (hi : i < 32) (hw : ws[i / 4]? = some w) (hl : k.length = 32) :
    evCode T H.length a42_l0 (byI H (.slice (some ⟨id, off, none⟩) 8 cap) (i : Nat) k []) = some (.normal, byI H (.slice (some ⟨id, off, none⟩) 8 cap) ((i + 1 : Nat) : Int) (k.set i (w / 2 ^ (8 * (i % 4)) % 256)) []) := by
  obtain ⟨o, ho, hcell⟩ := hr
  have ho' := liveAt_app (l := [⟨u8s (dig 256 32 0), true, true, true, 1⟩, ⟨u8s k, true, true, true, 1⟩]) ho
  have hwc := hcell (i / 4) w hw
  have h1 : ((i : Int) < 32) := by omega
  have h1' : ((i : Int) < ((32 : Nat) : Int)) := by omega
  have h2 : ((i / 4 : Nat) : Int) < ((8 : Nat) : Int) := by omega
  have h2' : ((i / 4 : Nat) : Int) < (8 : Int) := by omega
  have h4 : ¬ (((8 * (i % 4) : Nat) : Int) < 0) := by omega
  have e1 : IntKind.i64.wrap ((i : Int).tdiv 4) = ((i / 4 : Nat) : Int) := wrap_nat (n := i / 4) (by omega)
  have e2 : ((i : Int).tmod 4) = ((i % 4 : Nat) : Int) := rfl
  have e3 : IntKind.i64.wrap (8 * ((i % 4 : Nat) : Int)) = ((8 * (i % 4) : Nat) : Int) := wrap_nat (n := 8 * (i % 4)) (by omega)
  have e4 : Int.fdiv (w : Int) (2 ^ min (8 * (i % 4)) IntKind.u32.bits) = ((w / 2 ^ (8 * (i % 4)) : Nat) : Int) := by
    rw [Nat.min_eq_left (by show _ ≤ 32; omega), Int.fdiv_eq_ediv_of_nonneg _ (Int.le_of_lt (Int.pow_pos (by decide)))]; simp
  have e5 : IntKind.u8.wrap ((w / 2 ^ (8 * (i % 4)) : Nat) : Int) = ((w / 2 ^ (8 * (i % 4)) % 256 : Nat) : Int) := by rw [wrap_u8]; rfl
  have e6 : IntKind.i64.wrap ((i : Int) + 1) = ((i + 1 : Nat) : Int) := wrap_nat (n := i + 1) (by omega)
  have h5 : i + 1 ≤ (u8s k).length := by rw [u8s_len, hl]; omega
  simp only [byI, a42_l0, envOf, evCode_skip, evCode_exit, evCode_seq, evCode_region, evCode_cond, evCode_block, evCode_ret, evOps_cons, evOps_nil, guardOf, simpleOp, opd, opds, opdOpt, opdParts, Env.get, Env.put, pureV, Option.bind_some, List.nil_append, List.cons_append, inMerge, pairsOk, List.all_nil, List.all_cons, St.after, Env.keep, if_true, if_false, ite_true, ite_false, binV, intBin, unV, shiftOp, resultOf, packed, reduceCtorEq, Option.isNone_none, Option.isSome_none, Bool.false_eq_true, Nat.reduceAdd, Nat.reduceEqDiff, Nat.reduceMul, Nat.zero_add, List.length_cons, List.length_nil, beq_self_eq_true, Bool.not_true, Bool.not_false, evOper_move, evOper_pick, evOper_alloc, evOper_box, evOper_load, evOper_store, evOper_bin, evOper_eqv, evOper_isNil, evOper_un, evOper_conv, evOper_convStr, evOper_s2b, evOper_b2s, evOper_field, evOper_index, evOper_indexStr, evOper_build, evOper_buildSlice, evOper_fieldAddr, evOper_indexAddr, evOper_indexSl, evOper_sliceArr, evOper_sliceSl, evOper_sliceStr, evOper_makeSlice, evOper_extract, evOper_mkIface, evOper_mkFunc, evOper_nilCheck, evOper_s2ap, evOper_append, evOper_copy, evOper_len, evOper_minmax, evOper_call, evOper_callVal, Ob.fresh, live0, live1, live2, Int.natCast_nonneg, and_self, true_and, and_true, Int.toNat_natCast, Nat.mul_one, addr_add, partL, cells_int, cells_int_size, okVar, splice_single, Nat.lt_irrefl, false_and, decide_true, decide_false, Nat.add_zero, Int.reduceEq, Int.reduceLT, Int.reduceLE, Int.reduceToNat, Nat.reduceLT, Nat.reduceSub, rf_int, rf_tuple_ints, toList2, Bool.and_true, Bool.true_and, Bool.and_self, List.getElem?_cons_zero, List.getElem?_cons_succ, nlt1, nlt2, nlt3, nlt4, Nat.le_refl, Int.le_refl, Nat.not_lt_zero, Nat.sub_zero, Nat.zero_mul, cells_agg, cells_agg_size, h1, h1', h2, h2', h4, ho', hwc, e1, e2, e3, e4, e5, e6, h5, storeAt1, u8s_set]
theorem bytes_ev {H : List Ob} {id off cap v : Nat} (hr : Row .u32 H id off (dig 4294967296 8 v)) :
    ∃ l, evFun T 42 [.slice (some ⟨id, off, none⟩) 8 cap] H = some (.agg (u8s (dig 256 32 v)).toArray, H ++ l, []) := by
  obtain ⟨s', hb, k, rfl, hlen, hk⟩ := block_inv (T := T) (base := H.length) (id := 0) (body := a42_l0)
    (fun i s => ∃ k, s = byI H (.slice (some ⟨id, off, none⟩) 8 cap) (i : Nat) k [] ∧ k.length = 32 ∧ ∀ t, t < i → k[t]? = some (v / 256 ^ t % 256))
    (Q := fun s => ∃ k, s = byI H (.slice (some ⟨id, off, none⟩) 8 cap) 32 k [(6, .bool false)] ∧ k.length = 32 ∧ ∀ t, t < 32 → k[t]? = some (v / 256 ^ t % 256))
    32 (s := byI H (.slice (some ⟨id, off, none⟩) 8 cap) ((0 : Nat) : Int) (dig 256 32 0) []) ⟨_, rfl, dig_len _ _ _, fun t ht => by omega⟩
    (fun i s hi hs => by
      obtain ⟨k, rfl, hl, hk⟩ := hs
      refine ⟨_, by_body hr (dig_len _ _ _) hi (dig_get (by omega)) hl, _, rfl, by rw [List.length_set]; exact hl, fun t ht => ?_⟩
      by_cases h : t = i
      · subst h
        rw [List.getElem?_set_self (by omega), byte_of rfl]
      · rw [List.getElem?_set_ne (by omega)]
        exact hk t (by omega))
    (fun s hs => by
      obtain ⟨k, rfl, hl, hk⟩ := hs
      have h1 : ¬ (((32 : Nat) : Int) < (32 : Int)) := by omega
      refine ⟨_, ?_, k, rfl, hl, hk⟩
      simp only [byI, a42_l0, envOf, evCode_skip, evCode_exit, evCode_seq, evCode_region, evCode_cond, evCode_block, evCode_ret, evOps_cons, evOps_nil, guardOf, simpleOp, opd, opds, opdOpt, opdParts, Env.get, Env.put, pureV, Option.bind_some, List.nil_append, List.cons_append, inMerge, pairsOk, List.all_nil, List.all_cons, St.after, Env.keep, if_true, if_false, ite_true, ite_false, binV, intBin, unV, shiftOp, resultOf, packed, reduceCtorEq, Option.isNone_none, Option.isSome_none, Bool.false_eq_true, Nat.reduceAdd, Nat.reduceEqDiff, Nat.reduceMul, Nat.zero_add, List.length_cons, List.length_nil, beq_self_eq_true, Bool.not_true, Bool.not_false, evOper_move, evOper_pick, evOper_alloc, evOper_box, evOper_load, evOper_store, evOper_bin, evOper_eqv, evOper_isNil, evOper_un, evOper_conv, evOper_convStr, evOper_s2b, evOper_b2s, evOper_field, evOper_index, evOper_indexStr, evOper_build, evOper_buildSlice, evOper_fieldAddr, evOper_indexAddr, evOper_indexSl, evOper_sliceArr, evOper_sliceSl, evOper_sliceStr, evOper_makeSlice, evOper_extract, evOper_mkIface, evOper_mkFunc, evOper_nilCheck, evOper_s2ap, evOper_append, evOper_copy, evOper_len, evOper_minmax, evOper_call, evOper_callVal, Ob.fresh, live0, live1, live2, Int.natCast_nonneg, and_self, true_and, and_true, Int.toNat_natCast, Nat.mul_one, addr_add, partL, cells_int, cells_int_size, okVar, splice_single, Nat.lt_irrefl, false_and, decide_true, decide_false, Nat.add_zero, Int.reduceEq, Int.reduceLT, Int.reduceLE, Int.reduceToNat, Nat.reduceLT, Nat.reduceSub, rf_int, rf_tuple_ints, toList2, Bool.and_true, Bool.true_and, Bool.and_self, List.getElem?_cons_zero, List.getElem?_cons_succ, nlt1, nlt2, nlt3, nlt4, Nat.le_refl, Int.le_refl, Nat.not_lt_zero, Nat.sub_zero, Nat.zero_mul, cells_agg, cells_agg_size, h1]
      rfl)
  have hkk : k = dig 256 32 v := dig_ext hlen fun i hi => hk i hi
  subst hkk
  have hz : List.replicate 32 (Value.int .u8 0) = u8s (dig 256 32 0) := rfl
  have h1 : 0 + 32 ≤ (u8s (dig 256 32 v)).length := by rw [u8s_len, dig_len]; omega
  have h1' : 32 ≤ (u8s (dig 256 32 v)).length := by rw [u8s_len, dig_len]; omega
  have h2 : ((u8s (dig 256 32 v)).drop 0).take 32 = u8s (dig 256 32 v) := by rw [List.drop_zero, List.take_of_length_le (by rw [u8s_len, dig_len]; omega)]
  have h3 : (u8s (dig 256 32 v)).length = 32 := by rw [u8s_len, dig_len]
  have h4 : 0 + (u8s (dig 256 32 v)).length ≤ (u8s (dig 256 32 0)).length := by rw [u8s_len, u8s_len, dig_len, dig_len]; omega
  have h5 : splice (u8s (dig 256 32 0)) 0 (u8s (dig 256 32 v)) = u8s (dig 256 32 v) := splice_all (by rw [u8s_len, u8s_len, dig_len, dig_len])
  have h6 := storeAt0 (H := H) (r := [⟨u8s (dig 256 32 v), true, true, true, 1⟩]) (e := true) (s := 1) h4
  rw [h5] at h6
  refine ⟨[⟨u8s (dig 256 32 v), true, true, true, 1⟩, ⟨u8s (dig 256 32 v), true, true, true, 1⟩], ?_⟩
  rw [show byI H (.slice (some ⟨id, off, none⟩) 8 cap) ((0 : Nat) : Int) (dig 256 32 0) [] = ⟨[(0, .slice (some ⟨id, off, none⟩) 8 cap), (2, .pointer (some ⟨H.length, 0, none⟩)), (3, .pointer (some ⟨H.length + 1, 0, none⟩)), (5, .int .i64 0)], H ++ [⟨u8s (dig 256 32 0), true, true, true, 1⟩, ⟨u8s (dig 256 32 0), true, true, true, 1⟩], []⟩ from rfl] at hb
  rw [evFun_fn (fn := a42) rfl]
  simp only [a42, envOf, evCode_skip, evCode_exit, evCode_seq, evCode_region, evCode_cond, evCode_block, evCode_ret, evOps_cons, evOps_nil, guardOf, simpleOp, opd, opds, opdOpt, opdParts, Env.get, Env.put, pureV, Option.bind_some, List.nil_append, List.cons_append, inMerge, pairsOk, List.all_nil, List.all_cons, St.after, Env.keep, if_true, if_false, ite_true, ite_false, binV, intBin, unV, shiftOp, resultOf, packed, reduceCtorEq, Option.isNone_none, Option.isSome_none, Bool.false_eq_true, Nat.reduceAdd, Nat.reduceEqDiff, Nat.reduceMul, Nat.zero_add, List.length_cons, List.length_nil, beq_self_eq_true, Bool.not_true, Bool.not_false, evOper_move, evOper_pick, evOper_alloc, evOper_box, evOper_load, evOper_store, evOper_bin, evOper_eqv, evOper_isNil, evOper_un, evOper_conv, evOper_convStr, evOper_s2b, evOper_b2s, evOper_field, evOper_index, evOper_indexStr, evOper_build, evOper_buildSlice, evOper_fieldAddr, evOper_indexAddr, evOper_indexSl, evOper_sliceArr, evOper_sliceSl, evOper_sliceStr, evOper_makeSlice, evOper_extract, evOper_mkIface, evOper_mkFunc, evOper_nilCheck, evOper_s2ap, evOper_append, evOper_copy, evOper_len, evOper_minmax, evOper_call, evOper_callVal, Ob.fresh, live0, live1, live2, Int.natCast_nonneg, and_self, true_and, and_true, Int.toNat_natCast, Nat.mul_one, addr_add, partL, cells_int, cells_int_size, okVar, splice_single, Nat.lt_irrefl, false_and, decide_true, decide_false, Nat.add_zero, Int.reduceEq, Int.reduceLT, Int.reduceLE, Int.reduceToNat, Nat.reduceLT, Nat.reduceSub, rf_int, rf_tuple_ints, toList2, Bool.and_true, Bool.true_and, Bool.and_self, List.getElem?_cons_zero, List.getElem?_cons_succ, nlt1, nlt2, nlt3, nlt4, Nat.le_refl, Int.le_refl, Nat.not_lt_zero, Nat.sub_zero, Nat.zero_mul, cells_agg, cells_agg_size, hz, hb, byI, h1, h1', h2, cells_agg, cells_agg_size, h3, h6, List.length_append, List.append_assoc]
end Go.Ev.Ytgacigcbglflkaa
set_option linter.unusedSimpArgs false
set_option linter.unusedVariables false
namespace Go.Ev.Ytgacigcbglflkaa
open Go Go.Ev
attribute [local congr] bind_congr1
set_option maxRecDepth 100000
theorem row_new {H : List Ob} {ws : List Nat} : Row .u32 (H ++ [Ob.fresh (u32s ws)]) H.length 0 ws := ⟨_, live0, fun i x hx => by rw [Nat.zero_add]; exact u32s_get hx⟩
theorem row_new2 {H : List Ob} {ws : List Nat} {o : Ob} : Row .u32 (H ++ [⟨u32s ws, true, true, true, 1⟩, o]) H.length 0 ws := ⟨_, live0, fun i x hx => by rw [Nat.zero_add]; exact u32s_get hx⟩
def keyV (l : List Nat) : Value := .agg (u8s l).toArray
theorem bnd32 : bounds3 32 32 none none none = some (0, 32, 32) := rfl
theorem dig_lt' {n v : Nat} : ∀ x ∈ dig 4294967296 n v, x < 4294967296 := fun x hx => dig_lt (by decide) hx
theorem num_key {l : List Nat} (hl : l.length = 32) (h : ∀ x ∈ l, x < 256) : num 256 l < 4294967296 ^ 8 := by
  have := num_lt h
  rw [hl] at this
  rw [show (4294967296 : Nat) ^ 8 = 256 ^ 32 from by decide]; exact this
theorem mulAdd_mid {H : List Ob} {a b c : List Nat} (ha : Row .u8 H 0 0 a) (hb : Row .u8 H 1 0 b) (hc : Row .u8 H 2 0 c) (la : a.length = 32) (lb : b.length = 32) (lc : c.length = 32)
    (xa : ∀ x ∈ a, x < 256) (xb : ∀ x ∈ b, x < 256) (xc : ∀ x ∈ c, x < 256) :
    ∃ k l l2, evFun T 38 [.slice (some ⟨0, 0, none⟩) 32 32] H = some (.slice (some ⟨H.length, 0, none⟩) 8 8, H ++ [Ob.fresh (u32s (dig 4294967296 8 (num 256 a)))], []) ∧
      (let H5 := H ++ [Ob.fresh (u32s (dig 4294967296 8 (num 256 a)))]
       let H6 := H5 ++ [Ob.fresh (u32s (dig 4294967296 8 (num 256 b)))]
       let H7 := H6 ++ [Ob.fresh (u32s (dig 4294967296 16 (num 256 a * num 256 b)))]
       let H8 := H7 ++ [Ob.fresh (u32s (dig 4294967296 8 (num 256 c)))]
       let H10 := H8 ++ [⟨u32s (dig 4294967296 17 (num 256 a * num 256 b + num 256 c)), true, true, true, 1⟩, ⟨[.int .u32 0], true, true, true, 1⟩]
       evFun T 38 [.slice (some ⟨1, 0, none⟩) 32 32] H5 = some (.slice (some ⟨H5.length, 0, none⟩) 8 8, H6, []) ∧
       evFun T 39 [.slice (some ⟨H.length, 0, none⟩) 8 8, .slice (some ⟨H5.length, 0, none⟩) 8 8] H6 = some (.slice (some ⟨H6.length, 0, none⟩) 16 16, H7, []) ∧
       evFun T 38 [.slice (some ⟨2, 0, none⟩) 32 32] H7 = some (.slice (some ⟨H7.length, 0, none⟩) 8 8, H8, []) ∧
       evFun T 40 [.slice (some ⟨H6.length, 0, none⟩) 16 16, .slice (some ⟨H7.length, 0, none⟩) 8 8] H8 = some (.slice (some ⟨H8.length, 0, none⟩) 17 17, H10, []) ∧
       evFun T 41 [.slice (some ⟨H8.length, 0, none⟩) 17 17] H10 = some (.slice (some ⟨k, 0, none⟩) 8 8, H10 ++ l, []) ∧
       evFun T 42 [.slice (some ⟨k, 0, none⟩) 8 8] (H10 ++ l) = some (keyV (dig 256 32 ((num 256 a * num 256 b + num 256 c) % ell)), H10 ++ l ++ l2, [])) := by
  have na := num_key la xa
  have nb := num_key lb xb
  have nc := num_key lc xc
  have h1 := of_ev (c := 32) ha la (by decide) xa
  have h2 := of_ev (c := 32) (hb.app (l := [Ob.fresh (u32s (dig 4294967296 8 (num 256 a)))])) lb (by decide) xb
  have r1 := (row_new (H := H) (ws := dig 4294967296 8 (num 256 a))).app (l := [Ob.fresh (u32s (dig 4294967296 8 (num 256 b)))])
  have r2 := row_new (H := H ++ [Ob.fresh (u32s (dig 4294967296 8 (num 256 a)))]) (ws := dig 4294967296 8 (num 256 b))
  have h3 := times_ev (c1 := 8) (c2 := 8) r1 r2 (dig_len _ _ _) (dig_len _ _ _) (by decide) dig_lt' dig_lt'
  rw [num_dig (by decide), num_dig (by decide), Nat.mod_eq_of_lt na, Nat.mod_eq_of_lt nb] at h3
  have h4 := of_ev (c := 32) (((hc.app (l := [Ob.fresh (u32s (dig 4294967296 8 (num 256 a)))])).app (l := [Ob.fresh (u32s (dig 4294967296 8 (num 256 b)))])).app (l := [Ob.fresh (u32s (dig 4294967296 16 (num 256 a * num 256 b)))])) lc (by decide) xc
  have r3 := (row_new (H := H ++ [Ob.fresh (u32s (dig 4294967296 8 (num 256 a)))] ++ [Ob.fresh (u32s (dig 4294967296 8 (num 256 b)))]) (ws := dig 4294967296 16 (num 256 a * num 256 b))).app (l := [Ob.fresh (u32s (dig 4294967296 8 (num 256 c)))])
  have r4 := row_new (H := H ++ [Ob.fresh (u32s (dig 4294967296 8 (num 256 a)))] ++ [Ob.fresh (u32s (dig 4294967296 8 (num 256 b)))] ++ [Ob.fresh (u32s (dig 4294967296 16 (num 256 a * num 256 b)))]) (ws := dig 4294967296 8 (num 256 c))
  have h5 := plus_ev (c1 := 16) (c2 := 8) r3 r4 (dig_len _ _ _) (dig_len _ _ _) (by decide) (by decide) (by decide) dig_lt' dig_lt'
  have nab : num 256 a * num 256 b < 4294967296 ^ 16 := by
    rw [show (4294967296 : Nat) ^ 16 = 4294967296 ^ 8 * 4294967296 ^ 8 from by decide]
    exact Nat.mul_lt_mul'' na nb
  rw [num_dig (by decide), num_dig (by decide), Nat.mod_eq_of_lt nab, Nat.mod_eq_of_lt nc] at h5
  have r5 := row_new2 (H := H ++ [Ob.fresh (u32s (dig 4294967296 8 (num 256 a)))] ++ [Ob.fresh (u32s (dig 4294967296 8 (num 256 b)))] ++ [Ob.fresh (u32s (dig 4294967296 16 (num 256 a * num 256 b)))] ++ [Ob.fresh (u32s (dig 4294967296 8 (num 256 c)))]) (ws := dig 4294967296 17 (num 256 a * num 256 b + num 256 c)) (o := ⟨[.int .u32 0], true, true, true, 1⟩)
  obtain ⟨k, l, h6, r6⟩ := mod_ev (cap := 17) r5 (dig_len _ _ _) (by decide) (by decide) dig_lt'
  have nabc : num 256 a * num 256 b + num 256 c < 4294967296 ^ 17 := by
    have : (4294967296 : Nat) ^ 16 + 4294967296 ^ 8 ≤ 4294967296 ^ 17 := by decide
    omega
  rw [num_dig (by decide), Nat.mod_eq_of_lt nabc] at r6
  obtain ⟨l2, h7⟩ := bytes_ev (cap := 8) r6
  exact ⟨k, l, l2, h1, h2, h3, h4, h5, h6, h7⟩
theorem mulAdd_ev {a b c : List Nat} (la : a.length = 32) (lb : b.length = 32) (lc : c.length = 32) (xa : ∀ x ∈ a, x < 256) (xb : ∀ x ∈ b, x < 256) (xc : ∀ x ∈ c, x < 256) :
    ∃ l, evFun T 18 [keyV a, keyV b, keyV c] [] = some (keyV (dig 256 32 ((num 256 a * num 256 b + num 256 c) % ell)), l, []) := by
  have hz : List.replicate 32 (Value.int .u8 0) = u8s (dig 256 32 0) := rfl
  obtain ⟨H, hH⟩ : ∃ H : List Ob, H = [⟨u8s a, true, true, true, 1⟩, ⟨u8s b, true, true, true, 1⟩, ⟨u8s c, true, true, true, 1⟩, ⟨u8s (dig 256 32 0), true, true, true, 1⟩] := ⟨_, rfl⟩
  have ra : Row .u8 H 0 0 a := by subst hH; exact ⟨_, rfl, fun i x hx => by rw [Nat.zero_add]; exact u8s_get hx⟩
  have rb : Row .u8 H 1 0 b := by subst hH; exact ⟨_, rfl, fun i x hx => by rw [Nat.zero_add]; exact u8s_get hx⟩
  have rc : Row .u8 H 2 0 c := by subst hH; exact ⟨_, rfl, fun i x hx => by rw [Nat.zero_add]; exact u8s_get hx⟩
  obtain ⟨k, l, l2, h1, h2, h3, h4, h5, h6, h7⟩ := mulAdd_mid ra rb rc la lb lc xa xb xc
  generalize hR : dig 256 32 ((num 256 a * num 256 b + num 256 c) % ell) = R at *
  have lR : (u8s R).length = 32 := by rw [u8s_len, ← hR, dig_len]
  generalize hH5 : H ++ [Ob.fresh (u32s (dig 4294967296 8 (num 256 a)))] = H5 at h1 h2 h3 h4 h5 h6 h7
  generalize hH6 : H5 ++ [Ob.fresh (u32s (dig 4294967296 8 (num 256 b)))] = H6 at h2 h3 h4 h5 h6 h7
  generalize hH7 : H6 ++ [Ob.fresh (u32s (dig 4294967296 16 (num 256 a * num 256 b)))] = H7 at h3 h4 h5 h6 h7
  generalize hH8 : H7 ++ [Ob.fresh (u32s (dig 4294967296 8 (num 256 c)))] = H8 at h4 h5 h6 h7
  generalize hH10 : H8 ++ [⟨u32s (dig 4294967296 17 (num 256 a * num 256 b + num 256 c)), true, true, true, 1⟩, ⟨[.int .u32 0], true, true, true, 1⟩] = H10 at h5 h6 h7
  generalize hH11 : H10 ++ l = H11 at h6 h7
  generalize hG : H11 ++ l2 = G at h7
  obtain ⟨t, hGt⟩ : ∃ t, G = ⟨u8s a, true, true, true, 1⟩ :: ⟨u8s b, true, true, true, 1⟩ :: ⟨u8s c, true, true, true, 1⟩ :: ⟨u8s (dig 256 32 0), true, true, true, 1⟩ :: t := by
    rw [← hG, ← hH11, ← hH10, ← hH8, ← hH7, ← hH6, ← hH5, hH]; exact ⟨_, rfl⟩
  have hst : storeAt G ⟨3, 0, none⟩ (u8s R) = some (⟨u8s a, true, true, true, 1⟩ :: ⟨u8s b, true, true, true, 1⟩ :: ⟨u8s c, true, true, true, 1⟩ :: ⟨u8s R, true, true, true, 1⟩ :: t) := by
    rw [hGt]
    have h8 := storeAt0 (H := [⟨u8s a, true, true, true, 1⟩, ⟨u8s b, true, true, true, 1⟩, ⟨u8s c, true, true, true, 1⟩]) (r := t) (cs := u8s (dig 256 32 0)) (e := true) (s := 1) (off := 0) (v := u8s R) (by rw [lR, u8s_len, dig_len]; omega)
    rw [splice_all (by rw [lR, u8s_len, dig_len])] at h8
    exact h8
  have hlv : liveAt (⟨u8s a, true, true, true, 1⟩ :: ⟨u8s b, true, true, true, 1⟩ :: ⟨u8s c, true, true, true, 1⟩ :: ⟨u8s R, true, true, true, 1⟩ :: t) 3 = some ⟨u8s R, true, true, true, 1⟩ := rfl
  have h9 : ((u8s R).drop 0).take 32 = u8s R := by rw [List.drop_zero, List.take_of_length_le (by omega)]
  refine ⟨⟨u8s a, true, true, true, 1⟩ :: ⟨u8s b, true, true, true, 1⟩ :: ⟨u8s c, true, true, true, 1⟩ :: ⟨u8s R, true, true, true, 1⟩ :: t, ?_⟩
  rw [evFun_fn (fn := a19) rfl]
  simp only [keyV] at h7 ⊢
  simp only [a19, envOf, evCode_skip, evCode_exit, evCode_seq, evCode_region, evCode_cond, evCode_block, evCode_ret, evOps_cons, evOps_nil, guardOf, simpleOp, opd, opds, opdOpt, opdParts, Env.get, Env.put, pureV, Option.bind_some, List.nil_append, List.cons_append, inMerge, pairsOk, List.all_nil, List.all_cons, St.after, Env.keep, if_true, if_false, ite_true, ite_false, binV, intBin, unV, shiftOp, resultOf, packed, reduceCtorEq, Option.isNone_none, Option.isSome_none, Bool.false_eq_true, Nat.reduceAdd, Nat.reduceEqDiff, Nat.reduceMul, Nat.zero_add, List.length_cons, List.length_nil, beq_self_eq_true, Bool.not_true, Bool.not_false, evOper_move, evOper_pick, evOper_alloc, evOper_box, evOper_load, evOper_store, evOper_bin, evOper_eqv, evOper_isNil, evOper_un, evOper_conv, evOper_convStr, evOper_s2b, evOper_b2s, evOper_field, evOper_index, evOper_indexStr, evOper_build, evOper_buildSlice, evOper_fieldAddr, evOper_indexAddr, evOper_indexSl, evOper_sliceArr, evOper_sliceSl, evOper_sliceStr, evOper_makeSlice, evOper_extract, evOper_mkIface, evOper_mkFunc, evOper_nilCheck, evOper_s2ap, evOper_append, evOper_copy, evOper_len, evOper_minmax, evOper_call, evOper_callVal, Ob.fresh, live0, live1, live2, Int.natCast_nonneg, and_self, true_and, and_true, Int.toNat_natCast, Nat.mul_one, addr_add, partL, cells_int, cells_int_size, okVar, splice_single, Nat.lt_irrefl, false_and, decide_true, decide_false, Nat.add_zero, Int.reduceEq, Int.reduceLT, Int.reduceLE, Int.reduceToNat, Nat.reduceLT, Nat.reduceSub, rf_int, rf_tuple_ints, toList2, Bool.and_true, Bool.true_and, Bool.and_self, List.getElem?_cons_zero, List.getElem?_cons_succ, nlt1, nlt2, nlt3, nlt4, Nat.le_refl, Int.le_refl, Nat.not_lt_zero, Nat.sub_zero, Nat.zero_mul, cells_agg, cells_agg_size, hz, ← hH, bnd32, h1, h2, h3, h4, h5, h6, h7, lR, hst, hlv, h9]
end Go.Ev.Ytgacigcbglflkaa
set_option linter.unusedSimpArgs false
set_option linter.unusedVariables false
namespace Go.Ev.Ytgacigcbglflkaa
open Go Go.Ev
attribute [local congr] bind_congr1
set_option maxRecDepth 100000
def k1 (n : Nat) : List Nat := n :: List.replicate 31 0
def clampL (a : List Nat) (x y : Nat) : List Nat := (a.set 0 (x &&& 248)).set 31 ((y &&& 127) ||| 64)
theorem and_lt8 {a b : Nat} (h : a < 256) : a &&& b < 256 := Nat.lt_of_le_of_lt Nat.and_le_left h
theorem clamp_ev {a : List Nat} {x y : Nat} (la : a.length = 32) (hx : a[0]? = some x) (hy : a[31]? = some y) (hx' : x < 256) (hy' : y < 256) :
    ∃ l, evFun T 26 [.agg (u8s a).toArray] [] = some (.agg (u8s (clampL a x y)).toArray, l, []) := by
  have hz : List.replicate 32 (Value.int .u8 0) = u8s (dig 256 32 0) := rfl
  have hxc := u8s_get hx
  have hyc := u8s_get (l := a.set 0 (x &&& 248)) (i := 31) (x := y) (by rw [List.getElem?_set_ne (by decide)]; exact hy)
  have e1 : bitsOp .and .u8 (x : Int) 248 = ((x &&& 248 : Nat) : Int) := bits_and (k := .u8) (a := x) (b := 248) rfl hx' (by decide)
  have e2 : bitsOp .and .u8 (y : Int) 127 = ((y &&& 127 : Nat) : Int) := bits_and (k := .u8) (a := y) (b := 127) rfl hy' (by decide)
  have e3 : bitsOp .or .u8 ((y &&& 127 : Nat) : Int) 64 = (((y &&& 127) ||| 64 : Nat) : Int) := bits_or (k := .u8) (a := y &&& 127) (b := 64) rfl (and_lt8 hy') (by decide)
  have l1 : (u8s a).length = 32 := by rw [u8s_len, la]
  have l2 : (u8s (a.set 0 (x &&& 248))).length = 32 := by rw [u8s_len, List.length_set, la]
  have l3 : (u8s (clampL a x y)).length = 32 := by rw [u8s_len, clampL, List.length_set, List.length_set, la]
  have s1 := storeAt0 (H := []) (r := [⟨u8s (dig 256 32 0), true, true, true, 1⟩]) (cs := u8s a) (e := true) (s := 1) (off := 0) (v := [.int .u8 ((x &&& 248 : Nat) : Int)]) (by rw [l1]; simp)
  rw [splice_single, u8s_set] at s1
  have s2 := storeAt0 (H := []) (r := [⟨u8s (dig 256 32 0), true, true, true, 1⟩]) (cs := u8s (a.set 0 (x &&& 248))) (e := true) (s := 1) (off := 31) (v := [.int .u8 (((y &&& 127) ||| 64 : Nat) : Int)]) (by rw [l2]; simp)
  rw [splice_single, u8s_set] at s2
  have s3 := storeAt1 (H := []) (a := ⟨u8s (clampL a x y), true, true, true, 1⟩) (r := []) (cs := u8s (dig 256 32 0)) (e := true) (s := 1) (off := 0) (v := u8s (clampL a x y)) (by rw [l3, u8s_len, dig_len]; decide)
  rw [splice_all (by rw [l3, u8s_len, dig_len])] at s3
  have t3 : ((u8s (clampL a x y)).drop 0).take 32 = u8s (clampL a x y) := by rw [List.drop_zero, List.take_of_length_le (by omega)]
  have v0 : ∀ (p q : List Value), liveAt [⟨p, true, true, true, 1⟩, ⟨q, true, true, true, 1⟩] 0 = some ⟨p, true, true, true, 1⟩ := fun _ _ => rfl
  have v1 : ∀ (p q : List Value), liveAt [⟨p, true, true, true, 1⟩, ⟨q, true, true, true, 1⟩] 1 = some ⟨q, true, true, true, 1⟩ := fun _ _ => rfl
  have i0 : ((0 : Int) < ((32 : Nat) : Int)) := by decide
  have i31 : ((31 : Int) < ((32 : Nat) : Int)) := by decide
  simp only [List.nil_append, List.length_nil] at s1 s2 s3
  rw [show (a.set 0 (x &&& 248)).set 31 ((y &&& 127) ||| 64) = clampL a x y from rfl] at s2
  simp only [Nat.zero_add] at s3
  refine ⟨[⟨u8s (clampL a x y), true, true, true, 1⟩, ⟨u8s (clampL a x y), true, true, true, 1⟩], ?_⟩
  rw [evFun_fn (fn := a16) rfl]
  simp only [a16, envOf, evCode_skip, evCode_exit, evCode_seq, evCode_region, evCode_cond, evCode_block, evCode_ret, evOps_cons, evOps_nil, guardOf, simpleOp, opd, opds, opdOpt, opdParts, Env.get, Env.put, pureV, Option.bind_some, List.nil_append, List.cons_append, inMerge, pairsOk, List.all_nil, List.all_cons, St.after, Env.keep, if_true, if_false, ite_true, ite_false, binV, intBin, unV, shiftOp, resultOf, packed, reduceCtorEq, Option.isNone_none, Option.isSome_none, Bool.false_eq_true, Nat.reduceAdd, Nat.reduceEqDiff, Nat.reduceMul, Nat.zero_add, List.length_cons, List.length_nil, beq_self_eq_true, Bool.not_true, Bool.not_false, evOper_move, evOper_pick, evOper_alloc, evOper_box, evOper_load, evOper_store, evOper_bin, evOper_eqv, evOper_isNil, evOper_un, evOper_conv, evOper_convStr, evOper_s2b, evOper_b2s, evOper_field, evOper_index, evOper_indexStr, evOper_build, evOper_buildSlice, evOper_fieldAddr, evOper_indexAddr, evOper_indexSl, evOper_sliceArr, evOper_sliceSl, evOper_sliceStr, evOper_makeSlice, evOper_extract, evOper_mkIface, evOper_mkFunc, evOper_nilCheck, evOper_s2ap, evOper_append, evOper_copy, evOper_len, evOper_minmax, evOper_call, evOper_callVal, Ob.fresh, live0, live1, live2, Int.natCast_nonneg, and_self, true_and, and_true, Int.toNat_natCast, Nat.mul_one, addr_add, partL, cells_int, cells_int_size, okVar, splice_single, Nat.lt_irrefl, false_and, decide_true, decide_false, Nat.add_zero, Int.reduceEq, Int.reduceLT, Int.reduceLE, Int.reduceToNat, Nat.reduceLT, Nat.reduceSub, rf_int, rf_tuple_ints, toList2, Bool.and_true, Bool.true_and, Bool.and_self, List.getElem?_cons_zero, List.getElem?_cons_succ, nlt1, nlt2, nlt3, nlt4, Nat.le_refl, Int.le_refl, Nat.not_lt_zero, Nat.sub_zero, Nat.zero_mul, cells_agg, cells_agg_size, hz, hxc, hyc, e1, e2, e3, i0, i31, v0, v1, s1, s2, l3, t3, s3]
end Go.Ev.Ytgacigcbglflkaa
set_option linter.unusedSimpArgs false
set_option linter.unusedVariables false
namespace Go.Ev.Ytgacigcbglflkaa
open Go Go.Ev
attribute [local congr] bind_congr1
set_option maxRecDepth 100000
theorem rf_bool (b : Bool) : rf (.bool b) = true := rfl
theorem v0 (p q : List Value) : liveAt [⟨p, true, true, true, 1⟩, ⟨q, true, true, true, 1⟩] 0 = some ⟨p, true, true, true, 1⟩ := rfl
theorem v1 (p q : List Value) : liveAt [⟨p, true, true, true, 1⟩, ⟨q, true, true, true, 1⟩] 1 = some ⟨q, true, true, true, 1⟩ := rfl
end Go.Ev.Ytgacigcbglflkaa
namespace Go.Ev.Ytgacigcbglflkaa
open Go Go.Ev
attribute [local congr] bind_congr1
set_option maxRecDepth 100000
structure LessInv (k : Nat) (ws os : List Nat) (b : Nat) : Prop where
  ble : b ≤ 1
  eq : ∃ z, z < 4294967296 ^ k ∧ num 4294967296 (ws.take k) + b * 4294967296 ^ k = num 4294967296 (os.take k) + z
theorem LessInv.step {k b x y : Nat} {ws os : List Nat} (h : LessInv k ws os b) (hx : ws[k]? = some x) (hy : os[k]? = some y) (hx' : x < 4294967296) (hy' : y < 4294967296) : LessInv (k + 1) ws os (subB x y b) := by
  have hb := h.ble
  have hd : subD x y b < 4294967296 ∧ x + 4294967296 * subB x y b = y + b + subD x y b ∧ subB x y b ≤ 1 := by
    unfold subD subB; split <;> omega
  refine ⟨hd.2.2, ?_⟩
  obtain ⟨z, hz, h2⟩ := h.eq
  rw [num_take hx, num_take hy]
  have h3 := hd.2.1
  have h4 := hd.1
  generalize subD x y b = d at *
  generalize subB x y b = q at *
  refine ⟨z + d * 4294967296 ^ k, ?_, ?_⟩
  · have : (d + 1) * 4294967296 ^ k ≤ 4294967296 * 4294967296 ^ k := Nat.mul_le_mul_right _ h4
    rw [Nat.add_mul, Nat.one_mul] at this
    rw [Nat.pow_succ, Nat.mul_comm (4294967296 ^ k)]
    omega
  · have e2 : q * 4294967296 ^ (k + 1) = 4294967296 * q * 4294967296 ^ k := by
      rw [Nat.pow_succ]; simp only [Nat.mul_assoc, Nat.mul_left_comm, Nat.mul_comm]
    have e3 : (x + 4294967296 * q) * 4294967296 ^ k = (y + b + d) * 4294967296 ^ k := by rw [h3]
    rw [Nat.add_mul, Nat.add_mul, Nat.add_mul] at e3
    rw [e2]
    omega
def lessI (H : List Ob) (s1 s2 : Value) (n b k : Nat) (ex : Env) : St := ⟨[(0, s1), (1, s2), (5, .int .u32 b), (8, .int .i64 n), (9, .int .i64 k)] ++ ex, H, []⟩
theorem less_body {H : List Ob} {id1 off1 c1 id2 off2 c2 n b k x y : Nat} {ws os : List Nat} (hr1 : Row .u32 H id1 off1 ws) (hr2 : Row .u32 H id2 off2 os) (hN : n < 2 ^ 40) (hk : k < n) (hx : ws[k]? = some x) (hy : os[k]? = some y) (hx' : x < 4294967296) (hy' : y < 4294967296) (hb : b ≤ 1) :
    evCode T H.length a46_l0 (lessI H (.slice (some ⟨id1, off1, none⟩) n c1) (.slice (some ⟨id2, off2, none⟩) n c2) n b k []) = some (.normal, lessI H (.slice (some ⟨id1, off1, none⟩) n c1) (.slice (some ⟨id2, off2, none⟩) n c2) n (subB x y b) (k + 1) []) := by
  obtain ⟨o1, ho1, hc1⟩ := hr1
  obtain ⟨o2, ho2, hc2⟩ := hr2
  have hxc := hc1 k x hx
  have hyc := hc2 k y hy
  have h1 : ((k : Int) < (n : Int)) := by omega
  have hsub := sub32_ev hx' hy' hb
  have e10 : IntKind.i64.wrap ((k : Int) + 1) = ((k + 1 : Nat) : Int) := wrap_nat (n := k + 1) (by omega)
  simp only [lessI, a46_l0, envOf, evCode_skip, evCode_exit, evCode_seq, evCode_region, evCode_cond, evCode_block, evCode_ret, evOps_cons, evOps_nil, guardOf, simpleOp, opd, opds, opdOpt, opdParts, Env.get, Env.put, pureV, Option.bind_some, List.nil_append, List.cons_append, inMerge, pairsOk, List.all_nil, List.all_cons, St.after, Env.keep, if_true, if_false, ite_true, ite_false, binV, intBin, unV, shiftOp, resultOf, packed, reduceCtorEq, Option.isNone_none, Option.isSome_none, Bool.false_eq_true, Nat.reduceAdd, Nat.reduceEqDiff, Nat.reduceMul, Nat.zero_add, List.length_cons, List.length_nil, beq_self_eq_true, Bool.not_true, Bool.not_false, evOper_move, evOper_pick, evOper_alloc, evOper_box, evOper_load, evOper_store, evOper_bin, evOper_eqv, evOper_isNil, evOper_un, evOper_conv, evOper_convStr, evOper_s2b, evOper_b2s, evOper_field, evOper_index, evOper_indexStr, evOper_build, evOper_buildSlice, evOper_fieldAddr, evOper_indexAddr, evOper_indexSl, evOper_sliceArr, evOper_sliceSl, evOper_sliceStr, evOper_makeSlice, evOper_extract, evOper_mkIface, evOper_mkFunc, evOper_nilCheck, evOper_s2ap, evOper_append, evOper_copy, evOper_len, evOper_minmax, evOper_call, evOper_callVal, Ob.fresh, live0, live1, live2, Int.natCast_nonneg, and_self, true_and, and_true, Int.toNat_natCast, Nat.mul_one, addr_add, partL, cells_int, cells_int_size, okVar, splice_single, Nat.lt_irrefl, false_and, decide_true, decide_false, Nat.add_zero, Int.reduceEq, Int.reduceLT, Int.reduceLE, Int.reduceToNat, Nat.reduceLT, Nat.reduceSub, rf_int, rf_tuple_ints, toList2, Bool.and_true, Bool.true_and, Bool.and_self, List.getElem?_cons_zero, List.getElem?_cons_succ, nlt1, nlt2, nlt3, nlt4, Nat.le_refl, Int.le_refl, Nat.not_lt_zero, Nat.sub_zero, Nat.zero_mul, cells_agg, cells_agg_size, h1, ho1, ho2, hxc, hyc, hsub, e10]
theorem less_ev {H : List Ob} {id1 off1 c1 id2 off2 c2 n : Nat} {ws os : List Nat} (hr1 : Row .u32 H id1 off1 ws) (hr2 : Row .u32 H id2 off2 os) (hn : ws.length = n) (hm : os.length = n) (hN : n < 2 ^ 40) (hws : ∀ x ∈ ws, x < 4294967296) (hos : ∀ x ∈ os, x < 4294967296) :
    evFun T 50 [.slice (some ⟨id1, off1, none⟩) n c1, .slice (some ⟨id2, off2, none⟩) n c2] H = some (.bool (decide (num 4294967296 ws < num 4294967296 os)), H, []) := by
  obtain ⟨s', hb, b, rfl, hinv⟩ := block_inv (T := T) (base := H.length) (id := 0) (body := a46_l0)
    (fun k s => ∃ b, s = lessI H (.slice (some ⟨id1, off1, none⟩) n c1) (.slice (some ⟨id2, off2, none⟩) n c2) n b k [] ∧ LessInv k ws os b)
    (Q := fun s => ∃ b, s = lessI H (.slice (some ⟨id1, off1, none⟩) n c1) (.slice (some ⟨id2, off2, none⟩) n c2) n b n [(10, .bool false)] ∧ LessInv n ws os b)
    n (s := lessI H (.slice (some ⟨id1, off1, none⟩) n c1) (.slice (some ⟨id2, off2, none⟩) n c2) n 0 0 []) ⟨_, rfl, ⟨by decide, 0, by decide, by simp [num]⟩⟩
    (fun k s hk hs => by
      obtain ⟨b, rfl, hI⟩ := hs
      obtain ⟨x, hx⟩ : ∃ x, ws[k]? = some x := ⟨_, List.getElem?_eq_getElem (by omega)⟩
      obtain ⟨y, hy⟩ : ∃ y, os[k]? = some y := ⟨_, List.getElem?_eq_getElem (by omega)⟩
      have hx' := hws x (List.mem_of_getElem? hx)
      have hy' := hos y (List.mem_of_getElem? hy)
      exact ⟨_, less_body hr1 hr2 hN hk hx hy hx' hy' hI.ble, _, rfl, hI.step hx hy hx' hy'⟩)
    (fun s hs => by
      obtain ⟨b, rfl, hI⟩ := hs
      have h1 : ¬ ((n : Int) < (n : Int)) := by omega
      refine ⟨_, ?_, b, rfl, hI⟩
      simp only [lessI, a46_l0, envOf, evCode_skip, evCode_exit, evCode_seq, evCode_region, evCode_cond, evCode_block, evCode_ret, evOps_cons, evOps_nil, guardOf, simpleOp, opd, opds, opdOpt, opdParts, Env.get, Env.put, pureV, Option.bind_some, List.nil_append, List.cons_append, inMerge, pairsOk, List.all_nil, List.all_cons, St.after, Env.keep, if_true, if_false, ite_true, ite_false, binV, intBin, unV, shiftOp, resultOf, packed, reduceCtorEq, Option.isNone_none, Option.isSome_none, Bool.false_eq_true, Nat.reduceAdd, Nat.reduceEqDiff, Nat.reduceMul, Nat.zero_add, List.length_cons, List.length_nil, beq_self_eq_true, Bool.not_true, Bool.not_false, evOper_move, evOper_pick, evOper_alloc, evOper_box, evOper_load, evOper_store, evOper_bin, evOper_eqv, evOper_isNil, evOper_un, evOper_conv, evOper_convStr, evOper_s2b, evOper_b2s, evOper_field, evOper_index, evOper_indexStr, evOper_build, evOper_buildSlice, evOper_fieldAddr, evOper_indexAddr, evOper_indexSl, evOper_sliceArr, evOper_sliceSl, evOper_sliceStr, evOper_makeSlice, evOper_extract, evOper_mkIface, evOper_mkFunc, evOper_nilCheck, evOper_s2ap, evOper_append, evOper_copy, evOper_len, evOper_minmax, evOper_call, evOper_callVal, Ob.fresh, live0, live1, live2, Int.natCast_nonneg, and_self, true_and, and_true, Int.toNat_natCast, Nat.mul_one, addr_add, partL, cells_int, cells_int_size, okVar, splice_single, Nat.lt_irrefl, false_and, decide_true, decide_false, Nat.add_zero, Int.reduceEq, Int.reduceLT, Int.reduceLE, Int.reduceToNat, Nat.reduceLT, Nat.reduceSub, rf_int, rf_tuple_ints, toList2, Bool.and_true, Bool.true_and, Bool.and_self, List.getElem?_cons_zero, List.getElem?_cons_succ, nlt1, nlt2, nlt3, nlt4, Nat.le_refl, Int.le_refl, Nat.not_lt_zero, Nat.sub_zero, Nat.zero_mul, cells_agg, cells_agg_size, h1])
  rw [show lessI H (.slice (some ⟨id1, off1, none⟩) n c1) (.slice (some ⟨id2, off2, none⟩) n c2) n 0 0 [] = ⟨[(0, .slice (some ⟨id1, off1, none⟩) n c1), (1, .slice (some ⟨id2, off2, none⟩) n c2), (5, .int .u32 0), (8, .int .i64 n), (9, .int .i64 0)], H, []⟩ from rfl] at hb
  obtain ⟨z, hz, h2⟩ := hinv.eq
  rw [List.take_of_length_le (by omega), List.take_of_length_le (by omega)] at h2
  have h3 := num_lt hws
  rw [hn] at h3
  have hble := hinv.ble
  have hres : (((b : Nat) : Int) == 1) = decide (num 4294967296 ws < num 4294967296 os) := by
    rcases Nat.lt_or_ge 0 b with h | h
    · have hb1 : b = 1 := by omega
      subst hb1
      have : num 4294967296 ws < num 4294967296 os := by omega
      simp [this]
    · have hb0 : b = 0 := by omega
      subst hb0
      have : ¬ num 4294967296 ws < num 4294967296 os := by omega
      simp [this]
  rw [evFun_fn (fn := a46) rfl]
  simp only [a46, envOf, evCode_skip, evCode_exit, evCode_seq, evCode_region, evCode_cond, evCode_block, evCode_ret, evOps_cons, evOps_nil, guardOf, simpleOp, opd, opds, opdOpt, opdParts, Env.get, Env.put, pureV, Option.bind_some, List.nil_append, List.cons_append, inMerge, pairsOk, List.all_nil, List.all_cons, St.after, Env.keep, if_true, if_false, ite_true, ite_false, binV, intBin, unV, shiftOp, resultOf, packed, reduceCtorEq, Option.isNone_none, Option.isSome_none, Bool.false_eq_true, Nat.reduceAdd, Nat.reduceEqDiff, Nat.reduceMul, Nat.zero_add, List.length_cons, List.length_nil, beq_self_eq_true, Bool.not_true, Bool.not_false, evOper_move, evOper_pick, evOper_alloc, evOper_box, evOper_load, evOper_store, evOper_bin, evOper_eqv, evOper_isNil, evOper_un, evOper_conv, evOper_convStr, evOper_s2b, evOper_b2s, evOper_field, evOper_index, evOper_indexStr, evOper_build, evOper_buildSlice, evOper_fieldAddr, evOper_indexAddr, evOper_indexSl, evOper_sliceArr, evOper_sliceSl, evOper_sliceStr, evOper_makeSlice, evOper_extract, evOper_mkIface, evOper_mkFunc, evOper_nilCheck, evOper_s2ap, evOper_append, evOper_copy, evOper_len, evOper_minmax, evOper_call, evOper_callVal, Ob.fresh, live0, live1, live2, Int.natCast_nonneg, and_self, true_and, and_true, Int.toNat_natCast, Nat.mul_one, addr_add, partL, cells_int, cells_int_size, okVar, splice_single, Nat.lt_irrefl, false_and, decide_true, decide_false, Nat.add_zero, Int.reduceEq, Int.reduceLT, Int.reduceLE, Int.reduceToNat, Nat.reduceLT, Nat.reduceSub, rf_int, rf_tuple_ints, toList2, Bool.and_true, Bool.true_and, Bool.and_self, List.getElem?_cons_zero, List.getElem?_cons_succ, nlt1, nlt2, nlt3, nlt4, Nat.le_refl, Int.le_refl, Nat.not_lt_zero, Nat.sub_zero, Nat.zero_mul, cells_agg, cells_agg_size, hb, lessI, hres]
end Go.Ev.Ytgacigcbglflkaa
set_option linter.unusedSimpArgs false
set_option linter.unusedVariables false
namespace Go.Ev.Ytgacigcbglflkaa
open Go Go.Ev
attribute [local congr] bind_congr1
set_option maxRecDepth 100000
theorem canonical_ev {a : List Nat} (la : a.length = 32) (xa : ∀ x ∈ a, x < 256) : ∃ l, evFun T 21 [.agg (u8s a).toArray] [] = some (.bool (decide (num 256 a < ell)), l, []) := by
  obtain ⟨H, hH⟩ : ∃ H : List Ob, H = [⟨u8s a, true, true, true, 1⟩] := ⟨_, rfl⟩
  have ra : Row .u8 H 0 0 a := by subst hH; exact ⟨_, rfl, fun i x hx => by rw [Nat.zero_add]; exact u8s_get hx⟩
  have h1 := of_ev (c := 32) ra la (by decide) xa
  have r1 := (row_new (H := H) (ws := dig 4294967296 8 (num 256 a))).app (l := [Ob.fresh (u32s orderW)])
  have h2 := order_ev (H ++ [Ob.fresh (u32s (dig 4294967296 8 (num 256 a)))])
  have r2 := row_new (H := H ++ [Ob.fresh (u32s (dig 4294967296 8 (num 256 a)))]) (ws := orderW)
  have h3 := less_ev (c1 := 8) (c2 := 8) r1 r2 (dig_len _ _ _) rfl (by decide) dig_lt' order_lt
  rw [num_dig (by decide), Nat.mod_eq_of_lt (num_key la xa), ell_num] at h3
  change evFun T 38 _ H = some (.slice (some ⟨H.length, 0, none⟩) 8 8, H ++ [Ob.fresh (u32s (dig 4294967296 8 (num 256 a)))], []) at h1
  generalize hH5 : H ++ [Ob.fresh (u32s (dig 4294967296 8 (num 256 a)))] = H5 at h1 h2 h3
  generalize hH6 : H5 ++ [Ob.fresh (u32s orderW)] = H6 at h2 h3
  refine ⟨H6, ?_⟩
  rw [evFun_fn (fn := a21) rfl]
  simp only [a21, envOf, evCode_skip, evCode_exit, evCode_seq, evCode_region, evCode_cond, evCode_block, evCode_ret, evOps_cons, evOps_nil, guardOf, simpleOp, opd, opds, opdOpt, opdParts, Env.get, Env.put, pureV, Option.bind_some, List.nil_append, List.cons_append, inMerge, pairsOk, List.all_nil, List.all_cons, St.after, Env.keep, if_true, if_false, ite_true, ite_false, binV, intBin, unV, shiftOp, resultOf, packed, reduceCtorEq, Option.isNone_none, Option.isSome_none, Bool.false_eq_true, Nat.reduceAdd, Nat.reduceEqDiff, Nat.reduceMul, Nat.zero_add, List.length_cons, List.length_nil, beq_self_eq_true, Bool.not_true, Bool.not_false, evOper_move, evOper_pick, evOper_alloc, evOper_box, evOper_load, evOper_store, evOper_bin, evOper_eqv, evOper_isNil, evOper_un, evOper_conv, evOper_convStr, evOper_s2b, evOper_b2s, evOper_field, evOper_index, evOper_indexStr, evOper_build, evOper_buildSlice, evOper_fieldAddr, evOper_indexAddr, evOper_indexSl, evOper_sliceArr, evOper_sliceSl, evOper_sliceStr, evOper_makeSlice, evOper_extract, evOper_mkIface, evOper_mkFunc, evOper_nilCheck, evOper_s2ap, evOper_append, evOper_copy, evOper_len, evOper_minmax, evOper_call, evOper_callVal, Ob.fresh, live0, live1, live2, Int.natCast_nonneg, and_self, true_and, and_true, Int.toNat_natCast, Nat.mul_one, addr_add, partL, cells_int, cells_int_size, okVar, splice_single, Nat.lt_irrefl, false_and, decide_true, decide_false, Nat.add_zero, Int.reduceEq, Int.reduceLT, Int.reduceLE, Int.reduceToNat, Nat.reduceLT, Nat.reduceSub, rf_int, rf_tuple_ints, toList2, Bool.and_true, Bool.true_and, Bool.and_self, List.getElem?_cons_zero, List.getElem?_cons_succ, nlt1, nlt2, nlt3, nlt4, Nat.le_refl, Int.le_refl, Nat.not_lt_zero, Nat.sub_zero, Nat.zero_mul, cells_agg, cells_agg_size, ← hH, bnd32, h1, h2, h3]
end Go.Ev.Ytgacigcbglflkaa
set_option linter.unusedSimpArgs false
set_option linter.unusedVariables false
namespace Go.Ev.Ytgacigcbglflkaa
open Go Go.Ev
attribute [local congr] bind_congr1
set_option maxRecDepth 100000
def Parts (k : IntKind) (H : List Ob) (id off : Nat) (ps : List (List Nat)) : Prop :=
  ∃ o, liveAt H id = some o ∧ ∀ (i : Nat) (p : List Nat), ps[i]? = some p → ∃ v, o.cells[off + i]? = some v ∧ Sl k H v p
def redI (R s pv : Value) (n i : Nat) (H : List Ob) (ex : Env) : St := ⟨[(2, R), (3, s), (6, pv), (7, .int .i64 n), (8, .int .i64 i)] ++ ex, H, []⟩
theorem flat_take {ps : List (List Nat)} {i : Nat} {p : List Nat} (h : ps[i]? = some p) : (ps.take (i + 1)).flatten = (ps.take i).flatten ++ p := by
  rw [List.take_add_one, h]; simp
theorem flat_len {ps : List (List Nat)} {i : Nat} {p : List Nat} (h : ps[i]? = some p) : (ps.take i).flatten.length + p.length ≤ ps.flatten.length := by
  have h1 := congrArg List.length (flat_take h)
  rw [List.length_append] at h1
  rw [← h1]
  conv => rhs; rw [← List.take_append_drop (i + 1) ps, List.flatten_append, List.length_append]
  omega
theorem red_body {H Hc : List Ob} {R s : Value} {id off c n i : Nat} {ps : List (List Nat)} {p : List Nat} (hp : Parts .u8 H id off ps) (hi : i < n) (hN : n < 2 ^ 40) (hpi : ps[i]? = some p) (hS : ps.flatten.length ≤ 2 ^ 40)
    (hB : H.length + 1 ≤ Hc.length) (hc : ∀ j, j < H.length → Hc[j]? = H[j]?) (hg : Grown .u8 (H.length + 1) Hc s ((ps.take i).flatten)) :
    ∃ s' H', evCode T H.length a17_l0 (redI R s (.slice (some ⟨id, off, none⟩) n c) n i Hc []) = some (.normal, redI R s' (.slice (some ⟨id, off, none⟩) n c) n (i + 1) H' []) ∧
      H.length + 1 ≤ H'.length ∧ (∀ j, j < H.length + 1 → H'[j]? = Hc[j]?) ∧ Grown .u8 (H.length + 1) H' s' ((ps.take (i + 1)).flatten) := by
  obtain ⟨o, ho, hps⟩ := hp
  obtain ⟨v, hv, hsl⟩ := hps i p hpi
  have ho' : liveAt Hc id = some o := by rw [liveAt_congr (hc _ (liveAt_lt ho))]; exact ho
  have hsl' := hsl.congr hc
  have hlen := flat_len hpi
  obtain ⟨s', H', M, ha, hg', hM, hL, hK⟩ := hg.append (bytes := 1) hB hsl'.lenV hsl'.elems (by omega) (by decide)
  have h1 : ((i : Int) < (n : Int)) := by omega
  have e10 : IntKind.i64.wrap ((i : Int) + 1) = ((i + 1 : Nat) : Int) := wrap_nat (n := i + 1) (by omega)
  have hm : inMerge H.length [] M = [] := inMerge_ge fun j hj => by have := hM j hj; omega
  refine ⟨s', H', ?_, by omega, hK, by rw [flat_take hpi]; exact hg'⟩
  simp only [redI, a17_l0, envOf, evCode_skip, evCode_exit, evCode_seq, evCode_region, evCode_cond, evCode_block, evCode_ret, evOps_cons, evOps_nil, guardOf, simpleOp, opd, opds, opdOpt, opdParts, Env.get, Env.put, pureV, Option.bind_some, List.nil_append, List.cons_append, inMerge, pairsOk, List.all_nil, List.all_cons, St.after, Env.keep, if_true, if_false, ite_true, ite_false, binV, intBin, unV, shiftOp, resultOf, packed, reduceCtorEq, Option.isNone_none, Option.isSome_none, Bool.false_eq_true, Nat.reduceAdd, Nat.reduceEqDiff, Nat.reduceMul, Nat.zero_add, List.length_cons, List.length_nil, beq_self_eq_true, Bool.not_true, Bool.not_false, evOper_move, evOper_pick, evOper_alloc, evOper_box, evOper_load, evOper_store, evOper_bin, evOper_eqv, evOper_isNil, evOper_un, evOper_conv, evOper_convStr, evOper_s2b, evOper_b2s, evOper_field, evOper_index, evOper_indexStr, evOper_build, evOper_buildSlice, evOper_fieldAddr, evOper_indexAddr, evOper_indexSl, evOper_sliceArr, evOper_sliceSl, evOper_sliceStr, evOper_makeSlice, evOper_extract, evOper_mkIface, evOper_mkFunc, evOper_nilCheck, evOper_s2ap, evOper_append, evOper_copy, evOper_len, evOper_minmax, evOper_call, evOper_callVal, Ob.fresh, live0, live1, live2, Int.natCast_nonneg, and_self, true_and, and_true, Int.toNat_natCast, Nat.mul_one, addr_add, partL, cells_int, cells_int_size, okVar, splice_single, Nat.lt_irrefl, false_and, decide_true, decide_false, Nat.add_zero, Int.reduceEq, Int.reduceLT, Int.reduceLE, Int.reduceToNat, Nat.reduceLT, Nat.reduceSub, rf_int, rf_tuple_ints, toList2, Bool.and_true, Bool.true_and, Bool.and_self, List.getElem?_cons_zero, List.getElem?_cons_succ, nlt1, nlt2, nlt3, nlt4, Nat.le_refl, Int.le_refl, Nat.not_lt_zero, Nat.sub_zero, Nat.zero_mul, cells_agg, cells_agg_size, h1, ho', hv, e10, ha, hm]
theorem of_nil (H : List Ob) : evFun T 38 [.slice none 0 0] H = some (.slice (some ⟨H.length, 0, none⟩) 0 0, H ++ [Ob.fresh []], []) := by
  have hl : evCode T H.length (.loop a40_l0) ⟨[(3, .slice (some ⟨H.length, 0, none⟩) 0 0), (11, .slice none 0 0), (12, .int .i64 0), (13, .int .i64 0)], H ++ [⟨[], true, true, true, 1⟩], []⟩ = some (.exit 0, ⟨[(3, .slice (some ⟨H.length, 0, none⟩) 0 0), (11, .slice none 0 0), (12, .int .i64 0), (13, .int .i64 0), (14, .bool false)], H ++ [⟨[], true, true, true, 1⟩], []⟩) := by
    rw [evCode_loop]
    simp only [a40_l0, envOf, evCode_skip, evCode_exit, evCode_seq, evCode_region, evCode_cond, evCode_block, evCode_ret, evOps_cons, evOps_nil, guardOf, simpleOp, opd, opds, opdOpt, opdParts, Env.get, Env.put, pureV, Option.bind_some, List.nil_append, List.cons_append, inMerge, pairsOk, List.all_nil, List.all_cons, St.after, Env.keep, if_true, if_false, ite_true, ite_false, binV, intBin, unV, shiftOp, resultOf, packed, reduceCtorEq, Option.isNone_none, Option.isSome_none, Bool.false_eq_true, Nat.reduceAdd, Nat.reduceEqDiff, Nat.reduceMul, Nat.zero_add, List.length_cons, List.length_nil, beq_self_eq_true, Bool.not_true, Bool.not_false, evOper_move, evOper_pick, evOper_alloc, evOper_box, evOper_load, evOper_store, evOper_bin, evOper_eqv, evOper_isNil, evOper_un, evOper_conv, evOper_convStr, evOper_s2b, evOper_b2s, evOper_field, evOper_index, evOper_indexStr, evOper_build, evOper_buildSlice, evOper_fieldAddr, evOper_indexAddr, evOper_indexSl, evOper_sliceArr, evOper_sliceSl, evOper_sliceStr, evOper_makeSlice, evOper_extract, evOper_mkIface, evOper_mkFunc, evOper_nilCheck, evOper_s2ap, evOper_append, evOper_copy, evOper_len, evOper_minmax, evOper_call, evOper_callVal, Ob.fresh, live0, live1, live2, Int.natCast_nonneg, and_self, true_and, and_true, Int.toNat_natCast, Nat.mul_one, addr_add, partL, cells_int, cells_int_size, okVar, splice_single, Nat.lt_irrefl, false_and, decide_true, decide_false, Nat.add_zero, Int.reduceEq, Int.reduceLT, Int.reduceLE, Int.reduceToNat, Nat.reduceLT, Nat.reduceSub, rf_int, rf_tuple_ints, toList2, Bool.and_true, Bool.true_and, Bool.and_self, List.getElem?_cons_zero, List.getElem?_cons_succ, nlt1, nlt2, nlt3, nlt4, Nat.le_refl, Int.le_refl, Nat.not_lt_zero, Nat.sub_zero, Nat.zero_mul, cells_agg, cells_agg_size, cL, Int.reduceLE, Int.reduceLT, Int.reduceAdd, Int.reduceMul, Int.reduceSub, Int.reduceTDiv, Int.reduceTMod, Int.reduceNeg, Int.reduceToNat, Int.reduceGT, Int.reduceGE, Int.reducePow, Nat.reduceAdd, Nat.reduceMul, Nat.reduceSub, Nat.reduceDiv, Nat.reduceMod, Nat.reducePow, Nat.reduceLT, Nat.reduceLeDiff]
  rw [evFun_fn (fn := a40) rfl]
  simp only [a40, envOf, evCode_skip, evCode_exit, evCode_seq, evCode_region, evCode_cond, evCode_block, evCode_ret, evOps_cons, evOps_nil, guardOf, simpleOp, opd, opds, opdOpt, opdParts, Env.get, Env.put, pureV, Option.bind_some, List.nil_append, List.cons_append, inMerge, pairsOk, List.all_nil, List.all_cons, St.after, Env.keep, if_true, if_false, ite_true, ite_false, binV, intBin, unV, shiftOp, resultOf, packed, reduceCtorEq, Option.isNone_none, Option.isSome_none, Bool.false_eq_true, Nat.reduceAdd, Nat.reduceEqDiff, Nat.reduceMul, Nat.zero_add, List.length_cons, List.length_nil, beq_self_eq_true, Bool.not_true, Bool.not_false, evOper_move, evOper_pick, evOper_alloc, evOper_box, evOper_load, evOper_store, evOper_bin, evOper_eqv, evOper_isNil, evOper_un, evOper_conv, evOper_convStr, evOper_s2b, evOper_b2s, evOper_field, evOper_index, evOper_indexStr, evOper_build, evOper_buildSlice, evOper_fieldAddr, evOper_indexAddr, evOper_indexSl, evOper_sliceArr, evOper_sliceSl, evOper_sliceStr, evOper_makeSlice, evOper_extract, evOper_mkIface, evOper_mkFunc, evOper_nilCheck, evOper_s2ap, evOper_append, evOper_copy, evOper_len, evOper_minmax, evOper_call, evOper_callVal, Ob.fresh, live0, live1, live2, Int.natCast_nonneg, and_self, true_and, and_true, Int.toNat_natCast, Nat.mul_one, addr_add, partL, cells_int, cells_int_size, okVar, splice_single, Nat.lt_irrefl, false_and, decide_true, decide_false, Nat.add_zero, Int.reduceEq, Int.reduceLT, Int.reduceLE, Int.reduceToNat, Nat.reduceLT, Nat.reduceSub, rf_int, rf_tuple_ints, toList2, Bool.and_true, Bool.true_and, Bool.and_self, List.getElem?_cons_zero, List.getElem?_cons_succ, nlt1, nlt2, nlt3, nlt4, Nat.le_refl, Int.le_refl, Nat.not_lt_zero, Nat.sub_zero, Nat.zero_mul, cells_agg, cells_agg_size, cL, Int.reduceLE, Int.reduceLT, Int.reduceAdd, Int.reduceMul, Int.reduceSub, Int.reduceTDiv, Int.reduceTMod, Int.reduceNeg, Int.reduceToNat, Int.reduceGT, Int.reduceGE, Int.reducePow, Nat.reduceAdd, Nat.reduceMul, Nat.reduceSub, Nat.reduceDiv, Nat.reduceMod, Nat.reducePow, Nat.reduceLT, Nat.reduceLeDiff, List.replicate_zero, List.flatten_nil, hl]
theorem mod_nil (H : List Ob) (id : Nat) : evFun T 41 [.slice (some ⟨id, 0, none⟩) 0 0] H = some (.slice (some ⟨H.length, 0, none⟩) 8 8, H ++ [⟨u32s (dig 4294967296 8 0), true, true, true, 1⟩, ⟨u32s orderW, true, true, true, 1⟩, ⟨u32s (dig 4294967296 8 0), true, true, true, 1⟩], []) := by
  have hz : (List.replicate 8 [Value.int .u32 0]).flatten = u32s (dig 4294967296 8 0) := rfl
  have ho := order_ev (H ++ [⟨u32s (dig 4294967296 8 0), true, true, true, 1⟩])
  have hl : evCode T H.length (.loop a41_l2) ⟨[(0, .slice (some ⟨id, 0, none⟩) 0 0), (3, .slice (some ⟨H.length, 0, none⟩) 8 8), (4, .slice (some ⟨H.length + 1, 0, none⟩) 8 8), (5, .slice (some ⟨H.length + 2, 0, none⟩) 8 8), (6, .int .i64 (-1))], H ++ [⟨u32s (dig 4294967296 8 0), true, true, true, 1⟩, ⟨u32s orderW, true, true, true, 1⟩, ⟨u32s (dig 4294967296 8 0), true, true, true, 1⟩], []⟩ = some (.exit 0, ⟨[(0, .slice (some ⟨id, 0, none⟩) 0 0), (3, .slice (some ⟨H.length, 0, none⟩) 8 8), (4, .slice (some ⟨H.length + 1, 0, none⟩) 8 8), (5, .slice (some ⟨H.length + 2, 0, none⟩) 8 8), (6, .int .i64 (-1)), (19, .bool false)], H ++ [⟨u32s (dig 4294967296 8 0), true, true, true, 1⟩, ⟨u32s orderW, true, true, true, 1⟩, ⟨u32s (dig 4294967296 8 0), true, true, true, 1⟩], []⟩) := by
    rw [evCode_loop]
    have e : ((0 : Int) ≤ -1) = False := by decide
    simp only [a41_l2, envOf, evCode_skip, evCode_exit, evCode_seq, evCode_region, evCode_cond, evCode_block, evCode_ret, evOps_cons, evOps_nil, guardOf, simpleOp, opd, opds, opdOpt, opdParts, Env.get, Env.put, pureV, Option.bind_some, List.nil_append, List.cons_append, inMerge, pairsOk, List.all_nil, List.all_cons, St.after, Env.keep, if_true, if_false, ite_true, ite_false, binV, intBin, unV, shiftOp, resultOf, packed, reduceCtorEq, Option.isNone_none, Option.isSome_none, Bool.false_eq_true, Nat.reduceAdd, Nat.reduceEqDiff, Nat.reduceMul, Nat.zero_add, List.length_cons, List.length_nil, beq_self_eq_true, Bool.not_true, Bool.not_false, evOper_move, evOper_pick, evOper_alloc, evOper_box, evOper_load, evOper_store, evOper_bin, evOper_eqv, evOper_isNil, evOper_un, evOper_conv, evOper_convStr, evOper_s2b, evOper_b2s, evOper_field, evOper_index, evOper_indexStr, evOper_build, evOper_buildSlice, evOper_fieldAddr, evOper_indexAddr, evOper_indexSl, evOper_sliceArr, evOper_sliceSl, evOper_sliceStr, evOper_makeSlice, evOper_extract, evOper_mkIface, evOper_mkFunc, evOper_nilCheck, evOper_s2ap, evOper_append, evOper_copy, evOper_len, evOper_minmax, evOper_call, evOper_callVal, Ob.fresh, live0, live1, live2, Int.natCast_nonneg, and_self, true_and, and_true, Int.toNat_natCast, Nat.mul_one, addr_add, partL, cells_int, cells_int_size, okVar, splice_single, Nat.lt_irrefl, false_and, decide_true, decide_false, Nat.add_zero, Int.reduceEq, Int.reduceLT, Int.reduceLE, Int.reduceToNat, Nat.reduceLT, Nat.reduceSub, rf_int, rf_tuple_ints, toList2, Bool.and_true, Bool.true_and, Bool.and_self, List.getElem?_cons_zero, List.getElem?_cons_succ, nlt1, nlt2, nlt3, nlt4, Nat.le_refl, Int.le_refl, Nat.not_lt_zero, Nat.sub_zero, Nat.zero_mul, cells_agg, cells_agg_size, cL, Int.reduceLE, Int.reduceLT, Int.reduceAdd, Int.reduceMul, Int.reduceSub, Int.reduceTDiv, Int.reduceTMod, Int.reduceNeg, Int.reduceToNat, Int.reduceGT, Int.reduceGE, Int.reducePow, Nat.reduceAdd, Nat.reduceMul, Nat.reduceSub, Nat.reduceDiv, Nat.reduceMod, Nat.reducePow, Nat.reduceLT, Nat.reduceLeDiff, e]
  rw [evFun_fn (fn := a41) rfl]
  simp only [a41, envOf, evCode_skip, evCode_exit, evCode_seq, evCode_region, evCode_cond, evCode_block, evCode_ret, evOps_cons, evOps_nil, guardOf, simpleOp, opd, opds, opdOpt, opdParts, Env.get, Env.put, pureV, Option.bind_some, List.nil_append, List.cons_append, inMerge, pairsOk, List.all_nil, List.all_cons, St.after, Env.keep, if_true, if_false, ite_true, ite_false, binV, intBin, unV, shiftOp, resultOf, packed, reduceCtorEq, Option.isNone_none, Option.isSome_none, Bool.false_eq_true, Nat.reduceAdd, Nat.reduceEqDiff, Nat.reduceMul, Nat.zero_add, List.length_cons, List.length_nil, beq_self_eq_true, Bool.not_true, Bool.not_false, evOper_move, evOper_pick, evOper_alloc, evOper_box, evOper_load, evOper_store, evOper_bin, evOper_eqv, evOper_isNil, evOper_un, evOper_conv, evOper_convStr, evOper_s2b, evOper_b2s, evOper_field, evOper_index, evOper_indexStr, evOper_build, evOper_buildSlice, evOper_fieldAddr, evOper_indexAddr, evOper_indexSl, evOper_sliceArr, evOper_sliceSl, evOper_sliceStr, evOper_makeSlice, evOper_extract, evOper_mkIface, evOper_mkFunc, evOper_nilCheck, evOper_s2ap, evOper_append, evOper_copy, evOper_len, evOper_minmax, evOper_call, evOper_callVal, Ob.fresh, live0, live1, live2, Int.natCast_nonneg, and_self, true_and, and_true, Int.toNat_natCast, Nat.mul_one, addr_add, partL, cells_int, cells_int_size, okVar, splice_single, Nat.lt_irrefl, false_and, decide_true, decide_false, Nat.add_zero, Int.reduceEq, Int.reduceLT, Int.reduceLE, Int.reduceToNat, Nat.reduceLT, Nat.reduceSub, rf_int, rf_tuple_ints, toList2, Bool.and_true, Bool.true_and, Bool.and_self, List.getElem?_cons_zero, List.getElem?_cons_succ, nlt1, nlt2, nlt3, nlt4, Nat.le_refl, Int.le_refl, Nat.not_lt_zero, Nat.sub_zero, Nat.zero_mul, cells_agg, cells_agg_size, cL, Int.reduceLE, Int.reduceLT, Int.reduceAdd, Int.reduceMul, Int.reduceSub, Int.reduceTDiv, Int.reduceTMod, Int.reduceNeg, Int.reduceToNat, Int.reduceGT, Int.reduceGE, Int.reducePow, Nat.reduceAdd, Nat.reduceMul, Nat.reduceSub, Nat.reduceDiv, Nat.reduceMod, Nat.reducePow, Nat.reduceLT, Nat.reduceLeDiff, hz, ho, hl, List.length_append, List.append_assoc, Nat.add_assoc, Ob.fresh]
theorem row_fresh {H : List Ob} {id : Nat} {bs : List Nat} (h : H[id]? = some (Ob.fresh (ns .u8 bs))) : Row .u8 H id 0 bs :=
  ⟨_, liveAt_some h rfl, fun i x hx => by rw [Nat.zero_add]; exact ns_get hx⟩
theorem row_grown {H : List Ob} {id : Nat} {bs : List Nat} (h : H[id]? = some (Ob.grown 1 (ns .u8 bs))) : Row .u8 H id 0 bs :=
  ⟨_, liveAt_some h rfl, fun i x hx => by rw [Nat.zero_add]; exact ns_get hx⟩
theorem red_tail {B : Nat} {H : List Ob} {s : Value} {bs : List Nat} (hg : Grown .u8 B H s bs) (hb : ∀ x ∈ bs, x < 256) (hN : bs.length < 2 ^ 40) :
    ∃ v1 v2 l1 l2 l3, evFun T 38 [s] H = some (v1, H ++ l1, []) ∧ evFun T 41 [v1] (H ++ l1) = some (v2, H ++ l1 ++ l2, []) ∧ evFun T 42 [v2] (H ++ l1 ++ l2) = some (.agg (u8s (dig 256 32 (num 256 bs % ell))).toArray, H ++ l1 ++ l2 ++ l3, []) := by
  cases hg with
  | nil =>
    have h1 := of_nil H
    have h2 := mod_nil (H ++ [Ob.fresh []]) H.length
    have r : Row .u32 (H ++ [Ob.fresh []] ++ [⟨u32s (dig 4294967296 8 0), true, true, true, 1⟩, ⟨u32s orderW, true, true, true, 1⟩, ⟨u32s (dig 4294967296 8 0), true, true, true, 1⟩]) (H ++ [Ob.fresh []]).length 0 (dig 4294967296 8 0) :=
      ⟨_, live0, fun i x hx => by rw [Nat.zero_add]; exact u32s_get hx⟩
    obtain ⟨l3, h3⟩ := bytes_ev (cap := 8) r
    exact ⟨_, _, _, _, l3, h1, h2, h3⟩
  | @own id _ g1 g2 g3 =>
    have h1 := of_ev (c := bs.length) (row_grown g3) rfl hN hb
    have hlt : num 256 bs < 4294967296 ^ ((bs.length + 3) / 4) := by
      refine Nat.lt_of_lt_of_le (num_lt hb) ?_
      rw [show (4294967296 : Nat) = 256 ^ 4 from by decide, ← Nat.pow_mul]
      exact Nat.pow_le_pow_right (by decide) (by omega)
    obtain ⟨k, l2, h2, r2⟩ := mod_ev (cap := (bs.length + 3) / 4) (row_new (H := H) (ws := dig 4294967296 ((bs.length + 3) / 4) (num 256 bs))) (dig_len _ _ _) (by omega) (by omega) dig_lt'
    rw [num_dig (by decide), Nat.mod_eq_of_lt hlt] at r2
    obtain ⟨l3, h3⟩ := bytes_ev (cap := 8) r2
    exact ⟨_, _, _, l2, l3, h1, h2, h3⟩
  | @new id _ g1 g2 g3 =>
    have h1 := of_ev (c := bs.length) (row_fresh g3) rfl hN hb
    have hlt : num 256 bs < 4294967296 ^ ((bs.length + 3) / 4) := by
      refine Nat.lt_of_lt_of_le (num_lt hb) ?_
      rw [show (4294967296 : Nat) = 256 ^ 4 from by decide, ← Nat.pow_mul]
      exact Nat.pow_le_pow_right (by decide) (by omega)
    obtain ⟨k, l2, h2, r2⟩ := mod_ev (cap := (bs.length + 3) / 4) (row_new (H := H) (ws := dig 4294967296 ((bs.length + 3) / 4) (num 256 bs))) (dig_len _ _ _) (by omega) (by omega) dig_lt'
    rw [num_dig (by decide), Nat.mod_eq_of_lt hlt] at r2
    obtain ⟨l3, h3⟩ := bytes_ev (cap := 8) r2
    exact ⟨_, _, _, l2, l3, h1, h2, h3⟩
theorem reduce_ev {H : List Ob} {id off c n : Nat} {ps : List (List Nat)} (hp : Parts .u8 H id off ps) (hn : ps.length = n) (hN : n < 2 ^ 40) (hS : ps.flatten.length < 2 ^ 40) (hb : ∀ x ∈ ps.flatten, x < 256) :
    ∃ l, evFun T 37 [.slice (some ⟨id, off, none⟩) n c] H = some (.agg (u8s (dig 256 32 (num 256 ps.flatten % ell))).toArray, H ++ l, []) := by
  have hz : List.replicate 32 (Value.int .u8 0) = u8s (dig 256 32 0) := rfl
  obtain ⟨s', hb1, s, Hc, rfl, hL, hK, hg⟩ := block_inv (T := T) (base := H.length) (id := 0) (body := a17_l0)
    (fun i st => ∃ s Hc, st = redI (.pointer (some ⟨H.length, 0, none⟩)) s (.slice (some ⟨id, off, none⟩) n c) n i Hc [] ∧ H.length + 1 ≤ Hc.length ∧ (∀ j, j < H.length + 1 → Hc[j]? = (H ++ [⟨u8s (dig 256 32 0), true, true, true, 1⟩])[j]?) ∧ Grown .u8 (H.length + 1) Hc s ((ps.take i).flatten))
    (Q := fun st => ∃ s Hc, st = redI (.pointer (some ⟨H.length, 0, none⟩)) s (.slice (some ⟨id, off, none⟩) n c) n n Hc [(9, .bool false)] ∧ H.length + 1 ≤ Hc.length ∧ (∀ j, j < H.length + 1 → Hc[j]? = (H ++ [⟨u8s (dig 256 32 0), true, true, true, 1⟩])[j]?) ∧ Grown .u8 (H.length + 1) Hc s ps.flatten)
    n (s := redI (.pointer (some ⟨H.length, 0, none⟩)) (.slice none 0 0) (.slice (some ⟨id, off, none⟩) n c) n 0 (H ++ [⟨u8s (dig 256 32 0), true, true, true, 1⟩]) []) ⟨_, _, rfl, by simp, fun _ _ => rfl, .nil⟩
    (fun i st hi hs => by
      obtain ⟨s, Hc, rfl, hL, hK, hg⟩ := hs
      obtain ⟨p, hpi⟩ : ∃ p, ps[i]? = some p := ⟨_, List.getElem?_eq_getElem (by omega)⟩
      obtain ⟨s2, H2, h1, h2, h3, h4⟩ := red_body (R := .pointer (some ⟨H.length, 0, none⟩)) (c := c) hp hi hN hpi (by omega) hL (fun j hj => by rw [hK j (by omega), List.getElem?_append_left hj]) hg
      exact ⟨_, h1, s2, H2, rfl, h2, fun j hj => by rw [h3 j hj, hK j hj], h4⟩)
    (fun st hs => by
      obtain ⟨s, Hc, rfl, hL, hK, hg⟩ := hs
      have h1 : ¬ ((n : Int) < (n : Int)) := by omega
      rw [List.take_of_length_le (by omega)] at hg
      refine ⟨_, ?_, s, Hc, rfl, hL, hK, hg⟩
      simp only [redI, a17_l0, envOf, evCode_skip, evCode_exit, evCode_seq, evCode_region, evCode_cond, evCode_block, evCode_ret, evOps_cons, evOps_nil, guardOf, simpleOp, opd, opds, opdOpt, opdParts, Env.get, Env.put, pureV, Option.bind_some, List.nil_append, List.cons_append, inMerge, pairsOk, List.all_nil, List.all_cons, St.after, Env.keep, if_true, if_false, ite_true, ite_false, binV, intBin, unV, shiftOp, resultOf, packed, reduceCtorEq, Option.isNone_none, Option.isSome_none, Bool.false_eq_true, Nat.reduceAdd, Nat.reduceEqDiff, Nat.reduceMul, Nat.zero_add, List.length_cons, List.length_nil, beq_self_eq_true, Bool.not_true, Bool.not_false, evOper_move, evOper_pick, evOper_alloc, evOper_box, evOper_load, evOper_store, evOper_bin, evOper_eqv, evOper_isNil, evOper_un, evOper_conv, evOper_convStr, evOper_s2b, evOper_b2s, evOper_field, evOper_index, evOper_indexStr, evOper_build, evOper_buildSlice, evOper_fieldAddr, evOper_indexAddr, evOper_indexSl, evOper_sliceArr, evOper_sliceSl, evOper_sliceStr, evOper_makeSlice, evOper_extract, evOper_mkIface, evOper_mkFunc, evOper_nilCheck, evOper_s2ap, evOper_append, evOper_copy, evOper_len, evOper_minmax, evOper_call, evOper_callVal, Ob.fresh, live0, live1, live2, Int.natCast_nonneg, and_self, true_and, and_true, Int.toNat_natCast, Nat.mul_one, addr_add, partL, cells_int, cells_int_size, okVar, splice_single, Nat.lt_irrefl, false_and, decide_true, decide_false, Nat.add_zero, Int.reduceEq, Int.reduceLT, Int.reduceLE, Int.reduceToNat, Nat.reduceLT, Nat.reduceSub, rf_int, rf_tuple_ints, toList2, Bool.and_true, Bool.true_and, Bool.and_self, List.getElem?_cons_zero, List.getElem?_cons_succ, nlt1, nlt2, nlt3, nlt4, Nat.le_refl, Int.le_refl, Nat.not_lt_zero, Nat.sub_zero, Nat.zero_mul, cells_agg, cells_agg_size, h1])
  obtain ⟨l0, hl0⟩ := ext_app (H := H ++ [⟨u8s (dig 256 32 0), true, true, true, 1⟩]) (H' := Hc) (by simpa using hL) (fun i hi => hK i (by simpa using hi))
  obtain ⟨v1, v2, l1, l2, l3, h1, h2, h3⟩ := red_tail hg hb hS
  generalize hR : dig 256 32 (num 256 ps.flatten % ell) = R at *
  have lR : (u8s R).length = 32 := by rw [u8s_len, ← hR, dig_len]
  have hst : storeAt (Hc ++ l1 ++ l2 ++ l3) ⟨H.length, 0, none⟩ (u8s R) = some (H ++ ⟨u8s R, true, true, true, 1⟩ :: (l0 ++ l1 ++ l2 ++ l3)) := by
    have h8 := storeAt0 (H := H) (r := l0 ++ l1 ++ l2 ++ l3) (cs := u8s (dig 256 32 0)) (e := true) (s := 1) (off := 0) (v := u8s R) (by rw [lR, u8s_len, dig_len]; omega)
    rw [splice_all (by rw [lR, u8s_len, dig_len])] at h8
    rw [hl0]
    simpa using h8
  generalize hH1 : Hc ++ l1 = H1 at h1 h2 h3 hst
  generalize hH2 : H1 ++ l2 = H2 at h2 h3 hst
  generalize hH3 : H2 ++ l3 = H3 at h3 hst
  have h9 : ((u8s R).drop 0).take 32 = u8s R := by rw [List.drop_zero, List.take_of_length_le (by omega)]
  refine ⟨⟨u8s R, true, true, true, 1⟩ :: (l0 ++ l1 ++ l2 ++ l3), ?_⟩
  rw [show redI (.pointer (some ⟨H.length, 0, none⟩)) (.slice none 0 0) (.slice (some ⟨id, off, none⟩) n c) n 0 (H ++ [⟨u8s (dig 256 32 0), true, true, true, 1⟩]) [] = ⟨[(2, .pointer (some ⟨H.length, 0, none⟩)), (3, .slice none 0 0), (6, .slice (some ⟨id, off, none⟩) n c), (7, .int .i64 n), (8, .int .i64 0)], H ++ [⟨u8s (dig 256 32 0), true, true, true, 1⟩], []⟩ from rfl] at hb1
  rw [evFun_fn (fn := a17) rfl]
  simp only [a17, envOf, evCode_skip, evCode_exit, evCode_seq, evCode_region, evCode_cond, evCode_block, evCode_ret, evOps_cons, evOps_nil, guardOf, simpleOp, opd, opds, opdOpt, opdParts, Env.get, Env.put, pureV, Option.bind_some, List.nil_append, List.cons_append, inMerge, pairsOk, List.all_nil, List.all_cons, St.after, Env.keep, if_true, if_false, ite_true, ite_false, binV, intBin, unV, shiftOp, resultOf, packed, reduceCtorEq, Option.isNone_none, Option.isSome_none, Bool.false_eq_true, Nat.reduceAdd, Nat.reduceEqDiff, Nat.reduceMul, Nat.zero_add, List.length_cons, List.length_nil, beq_self_eq_true, Bool.not_true, Bool.not_false, evOper_move, evOper_pick, evOper_alloc, evOper_box, evOper_load, evOper_store, evOper_bin, evOper_eqv, evOper_isNil, evOper_un, evOper_conv, evOper_convStr, evOper_s2b, evOper_b2s, evOper_field, evOper_index, evOper_indexStr, evOper_build, evOper_buildSlice, evOper_fieldAddr, evOper_indexAddr, evOper_indexSl, evOper_sliceArr, evOper_sliceSl, evOper_sliceStr, evOper_makeSlice, evOper_extract, evOper_mkIface, evOper_mkFunc, evOper_nilCheck, evOper_s2ap, evOper_append, evOper_copy, evOper_len, evOper_minmax, evOper_call, evOper_callVal, Ob.fresh, live0, live1, live2, Int.natCast_nonneg, and_self, true_and, and_true, Int.toNat_natCast, Nat.mul_one, addr_add, partL, cells_int, cells_int_size, okVar, splice_single, Nat.lt_irrefl, false_and, decide_true, decide_false, Nat.add_zero, Int.reduceEq, Int.reduceLT, Int.reduceLE, Int.reduceToNat, Nat.reduceLT, Nat.reduceSub, rf_int, rf_tuple_ints, toList2, Bool.and_true, Bool.true_and, Bool.and_self, List.getElem?_cons_zero, List.getElem?_cons_succ, nlt1, nlt2, nlt3, nlt4, Nat.le_refl, Int.le_refl, Nat.not_lt_zero, Nat.sub_zero, Nat.zero_mul, cells_agg, cells_agg_size, cL, Int.reduceLE, Int.reduceLT, Int.reduceAdd, Int.reduceMul, Int.reduceSub, Int.reduceTDiv, Int.reduceTMod, Int.reduceNeg, Int.reduceToNat, Int.reduceGT, Int.reduceGE, Int.reducePow, Nat.reduceAdd, Nat.reduceMul, Nat.reduceSub, Nat.reduceDiv, Nat.reduceMod, Nat.reducePow, Nat.reduceLT, Nat.reduceLeDiff, hz, hb1, redI, h1, h2, h3, lR, hst, live0, h9]
end Go.Ev.Ytgacigcbglflkaa
set_option linter.unusedSimpArgs false
set_option linter.unusedVariables false
namespace Go.Ev
theorem n_add (a b : Nat) : (a : Int) + (b : Int) = ((a + b : Nat) : Int) := (Int.natCast_add a b).symm
theorem n_mul (a b : Nat) : (a : Int) * (b : Int) = ((a * b : Nat) : Int) := (Int.natCast_mul a b).symm
theorem n_ladd (n a : Nat) : (no_index (@OfNat.ofNat Int n instOfNat)) + (a : Int) = ((n + a : Nat) : Int) := (Int.natCast_add n a).symm
theorem n_addl (n a : Nat) : (a : Int) + (no_index (@OfNat.ofNat Int n instOfNat)) = ((a + n : Nat) : Int) := (Int.natCast_add a n).symm
theorem n_lmul (n a : Nat) : (no_index (@OfNat.ofNat Int n instOfNat)) * (a : Int) = ((n * a : Nat) : Int) := (Int.natCast_mul n a).symm
theorem n_mull (n a : Nat) : (a : Int) * (no_index (@OfNat.ofNat Int n instOfNat)) = ((a * n : Nat) : Int) := (Int.natCast_mul a n).symm
theorem n_fdiv (a b : Nat) : Int.fdiv (a : Int) (b : Int) = ((a / b : Nat) : Int) := by
  rw [Int.fdiv_eq_ediv_of_nonneg _ (Int.natCast_nonneg _)]; rfl
theorem n_fdivl (a n : Nat) : Int.fdiv (a : Int) (no_index (@OfNat.ofNat Int n instOfNat)) = ((a / n : Nat) : Int) := n_fdiv a n
theorem n_tdiv (a n : Nat) : Int.tdiv (a : Int) (no_index (@OfNat.ofNat Int n instOfNat)) = ((a / n : Nat) : Int) := rfl
theorem n_tmod (a n : Nat) : Int.tmod (a : Int) (no_index (@OfNat.ofNat Int n instOfNat)) = ((a % n : Nat) : Int) := rfl
theorem n_w64 (a : Nat) : IntKind.u64.wrap (a : Int) = ((a % 18446744073709551616 : Nat) : Int) := by rw [wrap_u64]; omega
theorem n_w32 (a : Nat) : IntKind.u32.wrap (a : Int) = ((a % 4294967296 : Nat) : Int) := by rw [wrap_u32]; omega
theorem n_w16 (a : Nat) : IntKind.u16.wrap (a : Int) = ((a % 65536 : Nat) : Int) := by rw [wrap_u16]; omega
theorem n_w8 (a : Nat) : IntKind.u8.wrap (a : Int) = ((a % 256 : Nat) : Int) := by rw [wrap_u8]; omega
theorem n_sub64 (a b : Nat) : IntKind.u64.wrap ((a : Int) - (b : Int)) = (((a + (18446744073709551616 - b % 18446744073709551616)) % 18446744073709551616 : Nat) : Int) := by rw [wrap_u64]; omega
theorem n_lsub64 (n b : Nat) : IntKind.u64.wrap ((no_index (@OfNat.ofNat Int n instOfNat)) - (b : Int)) = (((n + (18446744073709551616 - b % 18446744073709551616)) % 18446744073709551616 : Nat) : Int) := n_sub64 n b
theorem n_subl64 (a n : Nat) : IntKind.u64.wrap ((a : Int) - (no_index (@OfNat.ofNat Int n instOfNat))) = (((a + (18446744073709551616 - n % 18446744073709551616)) % 18446744073709551616 : Nat) : Int) := n_sub64 a n
theorem ofInt_nat' (w a : Nat) : BitVec.ofInt w (a : Int) = BitVec.ofNat w a := by simp
theorem n_and (k : IntKind) (hk : k.signed = false) (a b : Nat) : bitsOp .and k (a : Int) (b : Int) = (((a % 2 ^ k.bits) &&& (b % 2 ^ k.bits) : Nat) : Int) := by
  simp only [bitsOp, ofInt_nat']
  rw [BitVec.toNat_and, BitVec.toNat_ofNat, BitVec.toNat_ofNat, wrap_small hk (Nat.and_lt_two_pow _ (Nat.mod_lt _ (Nat.pow_pos (by decide))))]
theorem n_or (k : IntKind) (hk : k.signed = false) (a b : Nat) : bitsOp .or k (a : Int) (b : Int) = (((a % 2 ^ k.bits) ||| (b % 2 ^ k.bits) : Nat) : Int) := by
  simp only [bitsOp, ofInt_nat']
  rw [BitVec.toNat_or, BitVec.toNat_ofNat, BitVec.toNat_ofNat, wrap_small hk (Nat.or_lt_two_pow (Nat.mod_lt _ (Nat.pow_pos (by decide))) (Nat.mod_lt _ (Nat.pow_pos (by decide))))]
theorem n_mask (k : IntKind) (hk : k.signed = false) (w a : Nat) (hw : w ≤ k.bits) : bitsOp .and k (a : Int) ((2 ^ w - 1 : Nat) : Int) = ((a % 2 ^ w : Nat) : Int) := by
  have h1 : (2 : Nat) ^ w ≤ 2 ^ k.bits := Nat.pow_le_pow_right (by decide) hw
  have h0 : 0 < (2 : Nat) ^ w := Nat.pow_pos (by decide)
  rw [n_and k hk, Nat.mod_eq_of_lt (a := 2 ^ w - 1) (by omega), Nat.and_two_pow_sub_one_eq_mod, Nat.mod_mod_of_dvd _ (Nat.pow_dvd_pow 2 hw)]
theorem n_m32 (a : Nat) : bitsOp .and .u64 (a : Int) 4294967295 = ((a % 4294967296 : Nat) : Int) := n_mask .u64 rfl 32 a (by decide)
theorem n_m51 (a : Nat) : bitsOp .and .u64 (a : Int) 2251799813685247 = ((a % 2251799813685248 : Nat) : Int) := n_mask .u64 rfl 51 a (by decide)
theorem n_m1 (a : Nat) : bitsOp .and .u64 (a : Int) 1 = ((a % 2 : Nat) : Int) := n_mask .u64 rfl 1 a (by decide)
theorem n_m1b (a : Nat) : bitsOp .and .u8 (a : Int) 1 = ((a % 2 : Nat) : Int) := n_mask .u8 rfl 1 a (by decide)
theorem n_m7b (a : Nat) : bitsOp .and .u8 (a : Int) 127 = ((a % 128 : Nat) : Int) := n_mask .u8 rfl 7 a (by decide)
theorem p64_32 : (2 : Int) ^ min 32 IntKind.u64.bits = ((4294967296 : Nat) : Int) := rfl
theorem p64_51 : (2 : Int) ^ min 51 IntKind.u64.bits = ((2251799813685248 : Nat) : Int) := rfl
theorem p64_13 : (2 : Int) ^ min 13 IntKind.u64.bits = ((8192 : Nat) : Int) := rfl
theorem p8_7 : (2 : Int) ^ min 7 IntKind.u8.bits = ((128 : Nat) : Int) := rfl
theorem or_apart {a b n : Nat} (h : a < 2 ^ n) : (b * 2 ^ n) ||| a = b * 2 ^ n + a := by
  rw [Nat.mul_comm, Nat.two_pow_add_eq_or_of_lt h]
theorem ns_nil (k : IntKind) : ns k [] = [] := rfl
theorem ns_cons (k : IntKind) (x : Nat) (r : List Nat) : ns k (x :: r) = .int k (x : Nat) :: ns k r := rfl
theorem dig_put {w m q s y M : Nat} (hq : q < m) (hs : s < w) (hM : M < 2 ^ (w * q + s)) (hy : y * 2 ^ s < 2 ^ w) :
    (dig (2 ^ w) m M).set q ((dig (2 ^ w) m M).getD q 0 ||| y * 2 ^ s) = dig (2 ^ w) m (M + y * 2 ^ (w * q + s)) := by
  have hB : (2 ^ w) ^ q = 2 ^ (w * q) := by rw [← Nat.pow_mul]
  have hpos : 0 < (2 ^ w : Nat) ^ q := Nat.pow_pos (Nat.pow_pos (by decide))
  have hpow : (2 : Nat) ^ (w * q + s) = 2 ^ s * (2 ^ w) ^ q := by rw [Nat.pow_add, hB, Nat.mul_comm]
  have hdiv : M / (2 ^ w) ^ q < 2 ^ s := by rw [Nat.div_lt_iff_lt_mul hpos, ← hpow]; exact hM
  have hsw : (2 : Nat) ^ s ≤ 2 ^ w := Nat.pow_le_pow_right (by decide) (by omega)
  have hsum : M / (2 ^ w) ^ q + y * 2 ^ s < 2 ^ w := by
    have h1 : (2 : Nat) ^ w = 2 ^ (w - s) * 2 ^ s := by rw [← Nat.pow_add]; congr 1; omega
    have h2 : y < 2 ^ (w - s) := by
      rw [h1] at hy
      exact Nat.lt_of_mul_lt_mul_right hy
    have h3 : (y + 1) * 2 ^ s ≤ 2 ^ (w - s) * 2 ^ s := Nat.mul_le_mul_right _ h2
    rw [Nat.add_mul, Nat.one_mul, ← h1] at h3
    omega
  apply dig_ext (by rw [List.length_set, dig_len])
  intro i hi
  by_cases hqi : i = q
  · subst hqi
    rw [List.getElem?_set_self (by rw [dig_len]; exact hi), List.getD_eq_getElem?_getD, dig_get hi]
    rw [hpow, ← Nat.mul_assoc, Nat.add_mul_div_right _ _ hpos]
    simp only [Option.getD_some]
    rw [Nat.mod_eq_of_lt (a := M / _) (by omega), Nat.mod_eq_of_lt hsum, Nat.or_comm, or_apart hdiv, Nat.add_comm]
  · rw [List.getElem?_set_ne (Ne.symm hqi), dig_get hi]
    congr 1
    by_cases hlt : i < q
    · have h1 : (2 ^ w : Nat) ^ q = 2 ^ w * (2 ^ w) ^ (q - i - 1) * (2 ^ w) ^ i := by
        rw [Nat.mul_assoc, ← Nat.pow_add, ← Nat.pow_add_one']; congr 1; omega
      rw [hpow, h1]
      rw [show y * (2 ^ s * (2 ^ w * (2 ^ w) ^ (q - i - 1) * (2 ^ w) ^ i)) = (y * 2 ^ s * (2 ^ w) ^ (q - i - 1) * 2 ^ w) * (2 ^ w) ^ i by simp only [Nat.mul_assoc, Nat.mul_left_comm, Nat.mul_comm]]
      rw [Nat.add_mul_div_right _ _ (Nat.pow_pos (Nat.pow_pos (by decide))), Nat.add_mul_mod_self_right]
    · have h1 : M + y * 2 ^ (w * q + s) < (2 ^ w) ^ i := by
        have h2 : (2 ^ w : Nat) ^ (q + 1) ≤ (2 ^ w) ^ i := Nat.pow_le_pow_right (Nat.pow_pos (by decide)) (by omega)
        refine Nat.lt_of_lt_of_le ?_ h2
        have h3 : (M / (2 ^ w) ^ q + y * 2 ^ s + 1) * (2 ^ w) ^ q ≤ 2 ^ w * (2 ^ w) ^ q := Nat.mul_le_mul_right _ hsum
        have h4 := Nat.div_add_mod M ((2 ^ w) ^ q)
        have h5 := Nat.mod_lt M hpos
        rw [Nat.pow_succ, Nat.mul_comm ((2 ^ w) ^ q)]
        refine Nat.lt_of_lt_of_le ?_ h3
        rw [hpow, ← Nat.mul_assoc, Nat.add_mul, Nat.add_mul, Nat.one_mul, Nat.mul_comm (M / (2 ^ w) ^ q)]
        omega
      rw [Nat.div_eq_of_lt h1, Nat.div_eq_of_lt (by omega)]
def evVal (T : Tab) (f : Nat) (args : List Value) : Option Value := (evFun T f args []).map (·.1)
theorem evVal_of {T : Tab} {f : Nat} {args : List Value} {v : Value} {l : List Ob} {M : List Nat} (h : evFun T f args [] = some (v, l, M)) : evVal T f args = some v := by simp [evVal, h]
theorem evVal_ex {T : Tab} {f : Nat} {args : List Value} {v : Value} (h : ∃ l, evFun T f args [] = some (v, l, [])) : evVal T f args = some v := by
  obtain ⟨l, h⟩ := h
  exact evVal_of h
theorem fs_callW {T : Tab} {b : Nat} {q : Bool} {f : Nat} {xs : List Operand} {d : Option Nat} {r : List AOper} {e : Env} {H : List Ob} {l : List Nat} : steps T b q (⟨d, .call f xs true, none⟩ :: r) ⟨e, H, l⟩ = (opds e xs).bind fun args => gate (args.all rf = true) ((evVal T f args).bind fun v => gate (rf v = true) (steps T b q r ⟨e.put d v, H, l⟩)) := by
  rw [fs_callV]
  cases opds e xs with
  | none => rfl
  | some args =>
    simp only [Option.bind_some, evVal]
    cases evFun T f args [] <;> rfl
set_option linter.defProp false
def cU := And.intro (And.intro (And.intro (And.intro (@n_add) (And.intro (@n_mul) (@n_ladd))) (And.intro (@n_addl) (And.intro (@n_lmul) (@n_mull)))) (And.intro (And.intro (@n_fdiv) (And.intro (@n_fdivl) (@n_tdiv))) (And.intro (And.intro (@n_tmod) (@n_w64)) (And.intro (@n_w32) (@n_w16))))) (And.intro (And.intro (And.intro (@n_w8) (And.intro (@n_sub64) (@n_lsub64))) (And.intro (@n_subl64) (And.intro (@n_m32) (@n_m51)))) (And.intro (And.intro (@n_m1) (And.intro (@n_m1b) (@n_m7b))) (And.intro (And.intro (@p64_32) (@p64_51)) (And.intro (@p64_13) (@p8_7)))))
end Go.Ev
set_option linter.unusedSimpArgs false
set_option linter.unusedVariables false
namespace Go.NT
def Pr (p : Nat) : Prop := 2 ≤ p ∧ ∀ m, m ∣ p → m = 1 ∨ m = p
theorem Pr.coprime {p a : Nat} (hp : Pr p) (h : ¬ p ∣ a) : Nat.Coprime p a := by
  rcases hp.2 (Nat.gcd p a) (Nat.gcd_dvd_left p a) with h1 | h1
  · exact h1
  · exact absurd (h1 ▸ Nat.gcd_dvd_right p a) h
theorem Pr.dvd_mul {p a b : Nat} (hp : Pr p) (h : p ∣ a * b) : p ∣ a ∨ p ∣ b := by
  by_cases ha : p ∣ a
  · exact .inl ha
  · exact .inr ((hp.coprime ha).dvd_of_dvd_mul_left h)
def prodL : List Nat → Nat
  | [] => 1
  | x :: r => x * prodL r
theorem prodL_perm {l l' : List Nat} (h : l.Perm l') : prodL l = prodL l' := by
  induction h with
  | nil => rfl
  | cons x _ ih => simp only [prodL, ih]
  | swap x y l => simp only [prodL, Nat.mul_left_comm]
  | trans _ _ h1 h2 => rw [h1, h2]
theorem perm_of : ∀ {l1 l2 : List Nat}, l1.Nodup → (∀ x ∈ l1, x ∈ l2) → l2.length ≤ l1.length → l1.Perm l2
  | [], l2, _, _, hl => by
    have : l2 = [] := by cases l2 with | nil => rfl | cons _ _ => simp at hl
    subst this; exact .nil
  | a :: t, l2, hn, hs, hl => by
    have ha := hs a (by simp)
    have hp := List.perm_cons_erase ha
    have hlen := hp.length_eq
    rw [List.nodup_cons] at hn
    refine (List.Perm.cons a (perm_of hn.2 (fun x hx => ?_) ?_)).trans hp.symm
    · have hxa : x ≠ a := fun h => hn.1 (h ▸ hx)
      exact (List.mem_erase_of_ne hxa).2 (hs x (by simp [hx]))
    · simp only [List.length_cons] at hl hlen ⊢
      omega
theorem prodL_map (a p : Nat) : ∀ l : List Nat, prodL (l.map fun x => a * x % p) % p = a ^ l.length * prodL l % p
  | [] => by simp [prodL]
  | x :: r => by
    have h1 := prodL_map a p r
    simp only [List.map_cons, prodL, List.length_cons, Nat.pow_succ]
    rw [Nat.mul_mod, h1, Nat.mod_mod, ← Nat.mul_mod]
    congr 1
    simp only [Nat.mul_assoc, Nat.mul_left_comm, Nat.mul_comm]
theorem prodL_ndvd {p : Nat} (hp : Pr p) : ∀ {l : List Nat}, (∀ x ∈ l, ¬ p ∣ x) → ¬ p ∣ prodL l
  | [], _ => fun h => by
    have := Nat.le_of_dvd (by decide : 0 < 1) h
    have := hp.1
    omega
  | x :: r, h => fun hd => by
    rcases hp.dvd_mul hd with h1 | h1
    · exact h x (by simp) h1
    · exact prodL_ndvd hp (fun y hy => h y (by simp [hy])) h1
theorem fermat {p a : Nat} (hp : Pr p) (ha : ¬ p ∣ a) : a ^ (p - 1) % p = 1 := by
  have h2 := hp.1
  have hnd : ((List.range' 1 (p - 1)).map fun x => a * x % p).Nodup := by
    rw [List.nodup_iff_pairwise_ne, List.pairwise_map]
    refine List.Pairwise.imp_of_mem ?_ (List.pairwise_lt_range' (s := 1) (n := p - 1))
    intro x y hx hy hxy he
    simp only [List.mem_range'_1] at hx hy
    have h3 : (a * y - a * x) % p = 0 := Nat.sub_mod_eq_zero_of_mod_eq he.symm
    rw [← Nat.mul_sub] at h3
    rcases hp.dvd_mul (Nat.dvd_of_mod_eq_zero h3) with h4 | h4
    · exact ha h4
    · have := Nat.le_of_dvd (by omega) h4
      omega
  have hmem : ∀ x ∈ (List.range' 1 (p - 1)).map (fun x => a * x % p), x ∈ List.range' 1 (p - 1) := by
    intro x hx
    simp only [List.mem_map, List.mem_range'_1] at hx ⊢
    obtain ⟨y, hy, rfl⟩ := hx
    have h3 : a * y % p < p := Nat.mod_lt _ (by omega)
    have h4 : a * y % p ≠ 0 := fun h => by
      rcases hp.dvd_mul (Nat.dvd_of_mod_eq_zero h) with h4 | h4
      · exact ha h4
      · have := Nat.le_of_dvd (by omega) h4
        omega
    omega
  have hperm := prodL_perm (perm_of hnd hmem (by simp))
  have h5 := prodL_map a p (List.range' 1 (p - 1))
  rw [hperm, List.length_range'] at h5
  have h6 : ¬ p ∣ prodL (List.range' 1 (p - 1)) := prodL_ndvd hp fun x hx hd => by
    simp only [List.mem_range'_1] at hx
    have := Nat.le_of_dvd (by omega) hd
    omega
  have h7 : (a ^ (p - 1) * prodL (List.range' 1 (p - 1)) - 1 * prodL (List.range' 1 (p - 1))) % p = 0 := Nat.sub_mod_eq_zero_of_mod_eq (by rw [← h5, Nat.one_mul])
  rw [← Nat.sub_mul] at h7
  have ha0 : 0 < a := Nat.pos_of_ne_zero fun h => ha (h ▸ Nat.dvd_zero p)
  have h8 : 0 < a ^ (p - 1) := Nat.pow_pos ha0
  rcases hp.dvd_mul (Nat.dvd_of_mod_eq_zero h7) with h9 | h9
  · obtain ⟨k, hk⟩ := h9
    have : a ^ (p - 1) = p * k + 1 := by omega
    rw [this, Nat.mul_add_mod, Nat.mod_eq_of_lt (by omega)]
  · exact absurd h9 h6
theorem has_prime {n : Nat} (hn : 2 ≤ n) : ∃ r, Pr r ∧ r ∣ n ∧ (Pr n ∨ r * r ≤ n) := by
  have ex : ∃ r, 2 ≤ r ∧ r ∣ n ∧ ∀ m, 2 ≤ m → m ∣ n → r ≤ m := by
    have key : ∀ k, (∃ r, 2 ≤ r ∧ r ∣ n ∧ r ≤ k) → ∃ r, 2 ≤ r ∧ r ∣ n ∧ ∀ m, 2 ≤ m → m ∣ n → r ≤ m := by
      intro k
      induction k with
      | zero => rintro ⟨r, h1, _, h3⟩; omega
      | succ k ih =>
        rintro ⟨r, h1, h2, h3⟩
        by_cases h : ∃ r, 2 ≤ r ∧ r ∣ n ∧ r ≤ k
        · exact ih h
        · refine ⟨r, h1, h2, fun m hm hmd => ?_⟩
          rcases Nat.lt_or_ge k m with h4 | h4
          · omega
          · exact absurd ⟨m, hm, hmd, h4⟩ h
    exact key n ⟨n, hn, Nat.dvd_refl n, Nat.le_refl n⟩
  obtain ⟨r, h1, h2, h3⟩ := ex
  have hr : Pr r := ⟨h1, fun m hm => by
    have hm0 : 0 < m := Nat.pos_of_dvd_of_pos hm (by omega)
    rcases Nat.lt_or_ge m 2 with h | h
    · left; omega
    · have := h3 m h (Nat.dvd_trans hm h2)
      have := Nat.le_of_dvd (by omega) hm
      right; omega⟩
  refine ⟨r, hr, h2, ?_⟩
  obtain ⟨k, rfl⟩ := h2
  rcases Nat.lt_or_ge k 2 with h | h
  · have : k = 1 := by
      rcases Nat.eq_zero_or_pos k with h0 | h0
      · subst h0; omega
      · omega
    subst this
    rw [Nat.mul_one]; exact .inl hr
  · exact .inr (Nat.mul_le_mul_left r (h3 k h (Nat.dvd_mul_left k r)))
def pw (m a : Nat) : Nat → Nat → Nat
  | 0, _ => 1 % m
  | f + 1, e => if e % 2 = 1 then (pw m a f (e / 2)) * (pw m a f (e / 2)) % m * a % m else (pw m a f (e / 2)) * (pw m a f (e / 2)) % m
theorem pw_eq (m a : Nat) : ∀ (f e : Nat), e < 2 ^ f → pw m a f e = a ^ e % m
  | 0, e, h => by
    have : e = 0 := by simpa using h
    subst this; rfl
  | f + 1, e, h => by
    have ih := pw_eq m a f (e / 2) (by rw [Nat.pow_succ] at h; omega)
    have hs : a ^ (e / 2) % m * (a ^ (e / 2) % m) % m = a ^ (2 * (e / 2)) % m := by
      rw [← Nat.mul_mod, ← Nat.pow_add]; congr 2; omega
    unfold pw
    rw [ih]
    by_cases he : e % 2 = 1
    · rw [if_pos he, hs, Nat.mod_mul_mod, ← Nat.pow_succ]
      congr 2; omega
    · rw [if_neg he, hs]
      congr 2; omega
def pwf (m a : Nat) : Nat → Nat → Nat
  | 0, _ => 1 % m
  | f + 1, e => (fun r => if e % 2 = 1 then r * r % m * a % m else r * r % m) (pwf m a f (e / 2))
theorem pow_gcd {r : Nat} (hr : 2 ≤ r) (b x y : Nat) : b ^ x % r = 1 → b ^ y % r = 1 → b ^ (Nat.gcd x y) % r = 1 := by
  induction x, y using Nat.gcd.induction with
  | H0 y => intro _ h; rwa [Nat.gcd_zero_left]
  | H1 x y hx ih =>
    intro h1 h2
    rw [Nat.gcd_rec]
    refine ih ?_ h1
    have h3 : b ^ (x * (y / x) + y % x) % r = 1 := by rw [Nat.div_add_mod]; exact h2
    rw [Nat.pow_add, Nat.pow_mul, Nat.mul_mod, Nat.pow_mod (b ^ x), h1, Nat.one_pow, Nat.mod_eq_of_lt (a := 1) (by omega), Nat.one_mul, Nat.mod_mod] at h3
    exact h3
theorem pock {n q k a r : Nat} (hq : Pr q) (hk : n = q * k + 1) (h1 : a ^ (q * k) % n = 1) (h2 : Nat.gcd (a ^ k % n + n - 1) n = 1) (hr : Pr r) (hrn : r ∣ n) : q ∣ r - 1 := by
  have hr2 := hr.1
  have hn0 : 0 < n := by omega
  have hn2 : r ≤ n := Nat.le_of_dvd hn0 hrn
  have hmodr : ∀ x, x % n % r = x % r := fun x => Nat.mod_mod_of_dvd x hrn
  have hb1 : a ^ (q * k) % r = 1 := by rw [← hmodr, h1, Nat.mod_eq_of_lt (by omega)]
  have hra : ¬ r ∣ a := fun h => by
    have hqk : 0 < q * k := by
      rcases Nat.eq_zero_or_pos (q * k) with h0 | h0
      · omega
      · exact h0
    have : r ∣ a ^ (q * k) := by
      obtain ⟨m, hm⟩ : ∃ m, q * k = m + 1 := ⟨q * k - 1, by omega⟩
      rw [hm, Nat.pow_succ]
      exact Nat.dvd_trans h (Nat.dvd_mul_left a _)
    have := Nat.mod_eq_zero_of_dvd this
    omega
  have hf := fermat hr hra
  by_cases hqd : q ∣ r - 1
  · exact hqd
  · exfalso
    have hc := hq.coprime hqd
    -- a^(k*q) = 1, a^(k*(r-1)) = 1, q and r - 1 are coprime: a^k = 1
    have hpow : ∀ x : Nat, ∀ c, c % r = 1 → c ^ x % r = 1 := fun x c hcx => by rw [Nat.pow_mod, hcx, Nat.one_pow, Nat.mod_eq_of_lt (by omega)]
    have hk1 : (a ^ k) ^ q % r = 1 := by rw [← Nat.pow_mul, Nat.mul_comm k q]; exact hb1
    have hk2 : (a ^ k) ^ (r - 1) % r = 1 := by rw [← Nat.pow_mul, Nat.mul_comm k, Nat.pow_mul]; exact hpow k _ hf
    have hak : a ^ k % r = 1 := by
      have := pow_gcd hr2 (a ^ k) q (r - 1) hk1 hk2
      rwa [hc, Nat.pow_one] at this
    have hdvd : r ∣ a ^ k % n + n - 1 := by
      have e3 : a ^ k % n % r = 1 := by rw [hmodr]; exact hak
      have e4 : 1 ≤ a ^ k % n := by
        rcases Nat.eq_zero_or_pos (a ^ k % n) with h0 | h0
        · rw [h0, Nat.zero_mod] at e3; omega
        · exact h0
      have e5 : r ∣ a ^ k % n - 1 := by
        apply Nat.dvd_of_mod_eq_zero
        exact Nat.sub_mod_eq_zero_of_mod_eq (by rw [e3, Nat.mod_eq_of_lt (by omega)])
      rw [show a ^ k % n + n - 1 = (a ^ k % n - 1) + n by omega]
      exact Nat.dvd_add e5 hrn
    have := Nat.dvd_gcd hdvd hrn
    rw [h2] at this
    have := Nat.le_of_dvd (by decide) this
    omega
theorem pock_one {n q k a : Nat} (hn : 2 ≤ n) (hq : Pr q) (hk : n = q * k + 1) (hbig : n < q * q) (h1 : a ^ (q * k) % n = 1) (h2 : Nat.gcd (a ^ k % n + n - 1) n = 1) : Pr n := by
  obtain ⟨r, hr, hrn, h | h⟩ := has_prime hn
  · exact h
  · have h3 := pock hq hk h1 h2 hr hrn
    have := hr.1
    have h4 := Nat.le_of_dvd (by omega) h3
    have : q * q ≤ r * r := Nat.mul_le_mul (by omega) (by omega)
    omega
theorem pock_two {n q k a q' k' a' : Nat} (hn : 2 ≤ n) (hq : Pr q) (hk : n = q * k + 1) (hq' : Pr q') (hk' : n = q' * k' + 1) (hne : q ≠ q') (hbig : n < (q * q') * (q * q')) (h1 : a ^ (q * k) % n = 1) (h2 : Nat.gcd (a ^ k % n + n - 1) n = 1)
    (h1' : a' ^ (q' * k') % n = 1) (h2' : Nat.gcd (a' ^ k' % n + n - 1) n = 1) : Pr n := by
  obtain ⟨r, hr, hrn, h | h⟩ := has_prime hn
  · exact h
  · have h3 := pock hq hk h1 h2 hr hrn
    have h3' := pock hq' hk' h1' h2' hr hrn
    have hc : Nat.Coprime q q' := hq.coprime fun hd => by
      rcases hq'.2 q hd with h | h
      · have := hq.1; omega
      · exact hne h
    have h5 := hc.mul_dvd_of_dvd_of_dvd h3 h3'
    have := hr.1
    have h4 := Nat.le_of_dvd (by omega) h5
    have : (q * q') * (q * q') ≤ r * r := Nat.mul_le_mul (by omega) (by omega)
    omega
def noDiv (n : Nat) : Nat → Nat → Bool
  | 0, _ => true
  | f + 1, m => (n % m != 0) && noDiv n f (m + 1)
theorem noDiv_spec {n : Nat} : ∀ (f m : Nat), noDiv n f m = true → ∀ x, m ≤ x → x < m + f → n % x ≠ 0
  | 0, m, _, x, h1, h2 => by omega
  | f + 1, m, h, x, h1, h2 => by
    simp only [noDiv, Bool.and_eq_true, bne_iff_ne] at h
    rcases Nat.eq_or_lt_of_le h1 with h3 | h3
    · subst h3; exact h.1
    · exact noDiv_spec f (m + 1) h.2 x h3 (by omega)
theorem small_prime {n f : Nat} (hn : 2 ≤ n) (hf : n < (f + 2) * (f + 2)) (h : noDiv n f 2 = true) : Pr n := by
  obtain ⟨r, hr, hrn, h1 | h1⟩ := has_prime hn
  · exact h1
  · have hr2 := hr.1
    have : r < 2 + f := by
      rcases Nat.lt_or_ge r (2 + f) with h2 | h2
      · exact h2
      · have : (f + 2) * (f + 2) ≤ r * r := Nat.mul_le_mul (by omega) (by omega)
        omega
    exact absurd (Nat.mod_eq_zero_of_dvd hrn) (noDiv_spec f 2 h r hr2 this)
end Go.NT
set_option linter.unusedSimpArgs false
set_option linter.unusedVariables false
namespace Go.Cv
section
variable {n : Nat} [NeZero n]
structure Fld (n : Nat) [NeZero n] (iv : Fin n → Fin n) (d i : Fin n) : Prop where
  inv : ∀ a : Fin n, a ≠ 0 → a * iv a = 1
  iv0 : iv 0 = 0
  one : (1 : Fin n) ≠ 0
  two : (2 : Fin n) ≠ 0
  root : i * i = -1
  nosq : ∀ r : Fin n, r * r ≠ d
variable {iv : Fin n → Fin n} {d i : Fin n} (F : Fld n iv d i)
include F
theorem Fld.dom {a b : Fin n} (h : a * b = 0) : a = 0 ∨ b = 0 := by
  by_cases ha : a = 0
  · exact .inl ha
  · have := F.inv a ha
    exact .inr (by grobner)
theorem Fld.mul_ne {a b : Fin n} (ha : a ≠ 0) (hb : b ≠ 0) : a * b ≠ 0 := fun h => by
  rcases F.dom h with h | h
  · exact ha h
  · exact hb h
theorem Fld.cancel {a b c : Fin n} (ha : a ≠ 0) (h : a * b = a * c) : b = c := by
  have := F.inv a ha
  grobner
theorem Fld.noratio {u v : Fin n} (hv : v ≠ 0) : u * u ≠ d * (v * v) := fun h => by
  have := F.inv v hv
  apply F.nosq (u * iv v)
  grobner
omit F
def On (d x y : Fin n) : Prop := -(x * x) + y * y = 1 + d * (x * x) * (y * y)
theorem On.sub {d x y : Fin n} (h : On d x y) : -(x * x) + y * y - 1 - d * (x * x) * (y * y) = 0 := by
  unfold On at h; grobner
theorem two_rows {L R a b c e : Fin n} (h : L - R = a * c + b * e) (hc : c = 0) (he : e = 0) : L = R := by
  subst hc he; grobner
theorem three_rows {L R a b c e f g : Fin n} (h : L - R = a * c + b * e + f * g) (hc : c = 0) (he : e = 0) (hg : g = 0) : L = R := by
  subst hc he hg; grobner
theorem closedId (d x1 y1 x2 y2 : Fin n) : -((x1 * y2 + x2 * y1) * (x1 * y2 + x2 * y1) * ((1 - d * x1 * x2 * y1 * y2) * (1 - d * x1 * x2 * y1 * y2))) + (y1 * y2 + x1 * x2) * (y1 * y2 + x1 * x2) * ((1 + d * x1 * x2 * y1 * y2) * (1 + d * x1 * x2 * y1 * y2)) -
      (((1 + d * x1 * x2 * y1 * y2) * (1 - d * x1 * x2 * y1 * y2)) * ((1 + d * x1 * x2 * y1 * y2) * (1 - d * x1 * x2 * y1 * y2)) + d * ((x1 * y2 + x2 * y1) * (x1 * y2 + x2 * y1)) * ((y1 * y2 + x1 * x2) * (y1 * y2 + x1 * x2))) =
      (d * d * d * x1 * x1 * x2 * x2 * x2 * x2 * y1 * y1 * y2 * y2 * y2 * y2 - d * d * x1 * x1 * x2 * x2 * x2 * x2 * y2 * y2 * y2 * y2 + d * d * x2 * x2 * x2 * x2 * y1 * y1 * y2 * y2 * y2 * y2 - d * d * x2 * x2 * x2 * x2 * y2 * y2 * y2 * y2 - d * x1 * x1 * x2 * x2 * x2 * x2 * y2 * y2 + d * x1 * x1 * x2 * x2 * y2 * y2 * y2 * y2 + d * x2 * x2 * x2 * x2 * y1 * y1 * y2 * y2 - 2 * d * x2 * x2 * x2 * x2 * y2 * y2 * y2 * y2 - d * x2 * x2 * y1 * y1 * y2 * y2 * y2 * y2 - 2 * d * x2 * x2 * y2 * y2 - 2 * x2 * x2 * x2 * x2 * y2 * y2 + x2 * x2 * x2 * x2 + 2 * x2 * x2 * y2 * y2 * y2 * y2 - 4 * x2 * x2 * y2 * y2 + y2 * y2 * y2 * y2) * (-(x1 * x1) + y1 * y1 - 1 - d * (x1 * x1) * (y1 * y1)) + (d * x1 * x1 * x1 * x1 * x2 * x2 * y2 * y2 + 2 * d * x1 * x1 * x2 * x2 * y2 * y2 + d * x2 * x2 * y1 * y1 * y1 * y1 * y2 * y2 - 2 * d * x2 * x2 * y1 * y1 * y2 * y2 + d * x2 * x2 * y2 * y2 + 2 * x1 * x1 * x2 * x2 * y2 * y2 - x1 * x1 * x2 * x2 + x1 * x1 * y2 * y2 - 2 * x2 * x2 * y1 * y1 * y2 * y2 + x2 * x2 * y1 * y1 + 2 * x2 * x2 * y2 * y2 - x2 * x2 - y1 * y1 * y2 * y2 + y2 * y2 + 1) * (-(x2 * x2) + y2 * y2 - 1 - d * (x2 * x2) * (y2 * y2)) := by grobner
theorem assocX (d x1 y1 x2 y2 x3 y3 : Fin n) : ((x1 * y2 + x2 * y1) * (1 - d * x1 * x2 * y1 * y2) * y3 + x3 * (y1 * y2 + x1 * x2) * (1 + d * x1 * x2 * y1 * y2)) * ((1 + d * x2 * x3 * y2 * y3) * (1 - d * x2 * x3 * y2 * y3) + d * (x2 * y3 + x3 * y2) * (y2 * y3 + x2 * x3) * x1 * y1) -
      (x1 * (y2 * y3 + x2 * x3) * (1 + d * x2 * x3 * y2 * y3) + (x2 * y3 + x3 * y2) * (1 - d * x2 * x3 * y2 * y3) * y1) * ((1 + d * x1 * x2 * y1 * y2) * (1 - d * x1 * x2 * y1 * y2) + d * (x1 * y2 + x2 * y1) * (y1 * y2 + x1 * x2) * x3 * y3) =
      (-d * d * x1 * x2 * x2 * x2 * x2 * x3 * x3 * y2 * y2 * y2 * y3 - d * d * x1 * x2 * x2 * x2 * x3 * y2 * y2 * y2 * y2 * y3 * y3 + d * d * x2 * x2 * x2 * x2 * x3 * y1 * y2 * y2 * y2 * y3 * y3 + d * d * x2 * x2 * x2 * x3 * x3 * y1 * y2 * y2 * y2 * y2 * y3 - d * x1 * x2 * x2 * x2 * x2 * x3 * x3 * y2 * y3 - d * x1 * x2 * x2 * x2 * x3 * x3 * x3 * y2 * y2 - d * x1 * x2 * x2 * x2 * x3 * y2 * y2 + d * x1 * x2 * x2 * y2 * y2 * y2 * y3 * y3 * y3 - d * x1 * x2 * x2 * y2 * y2 * y2 * y3 + d * x1 * x2 * x3 * y2 * y2 * y2 * y2 * y3 * y3 + d * x2 * x2 * x2 * x2 * x3 * y1 * y2 * y3 * y3 + d * x2 * x2 * x2 * y1 * y2 * y2 * y3 * y3 * y3 - d * x2 * x2 * x2 * y1 * y2 * y2 * y3 - d * x2 * x2 * x3 * x3 * x3 * y1 * y2 * y2 * y2 - d * x2 * x2 * x3 * y1 * y2 * y2 * y2 - d * x2 * x3 * x3 * y1 * y2 * y2 * y2 * y2 * y3) * (-(x1 * x1) + y1 * y1 - 1 - d * (x1 * x1) * (y1 * y1)) + (d * d * x1 * x1 * x2 * x2 * x3 * x3 * x3 * y1 * y2 * y3 * y3 - d * d * x1 * x1 * x2 * x3 * x3 * y1 * y2 * y2 * y3 * y3 * y3 - d * d * x1 * x2 * x2 * x3 * x3 * y1 * y1 * y2 * y3 * y3 * y3 + d * d * x1 * x2 * x3 * x3 * x3 * y1 * y1 * y2 * y2 * y3 * y3 + d * x1 * x1 * x1 * x2 * x2 * x3 * x3 * y2 * y3 + d * x1 * x1 * x1 * x2 * x3 * x3 * x3 * y3 * y3 + d * x1 * x1 * x1 * x2 * x3 * y2 * y2 * y3 * y3 + d * x1 * x1 * x1 * x3 * x3 * y2 * y3 * y3 * y3 - d * x1 * x1 * x2 * x2 * x3 * y1 * y2 * y3 * y3 - d * x1 * x1 * x2 * x3 * x3 * y1 * y2 * y2 * y3 + d * x1 * x1 * x2 * x3 * x3 * y1 * y3 * y3 * y3 + d * x1 * x1 * x3 * x3 * x3 * y1 * y2 * y3 * y3 - d * x1 * x2 * x2 * x3 * x3 * y1 * y1 * y2 * y3 + d * x1 * x2 * x2 * x3 * x3 * y2 * y3 - d * x1 * x2 * x3 * x3 * x3 * y1 * y1 * y3 * y3 + d * x1 * x2 * x3 * x3 * x3 * y3 * y3 - d * x1 * x2 * x3 * y1 * y1 * y2 * y2 * y3 * y3 + d * x1 * x2 * x3 * y2 * y2 * y3 * y3 - d * x1 * x3 * x3 * y1 * y1 * y2 * y3 * y3 * y3 + d * x1 * x3 * x3 * y2 * y3 * y3 * y3 + d * x2 * x2 * x3 * y1 * y1 * y1 * y2 * y3 * y3 - d * x2 * x2 * x3 * y1 * y2 * y3 * y3 + d * x2 * x3 * x3 * y1 * y1 * y1 * y2 * y2 * y3 - d * x2 * x3 * x3 * y1 * y1 * y1 * y3 * y3 * y3 - d * x2 * x3 * x3 * y1 * y2 * y2 * y3 + d * x2 * x3 * x3 * y1 * y3 * y3 * y3 - d * x3 * x3 * x3 * y1 * y1 * y1 * y2 * y3 * y3 + d * x3 * x3 * x3 * y1 * y2 * y3 * y3 + x1 * x1 * x1 * x2 * x3 * x3 * x3 - x1 * x1 * x1 * x2 * x3 * y3 * y3 + x1 * x1 * x1 * x2 * x3 + x1 * x1 * x1 * x3 * x3 * y2 * y3 - x1 * x1 * x1 * y2 * y3 * y3 * y3 + x1 * x1 * x1 * y2 * y3 + x1 * x1 * x2 * x3 * x3 * y1 * y3 - x1 * x1 * x2 * y1 * y3 * y3 * y3 + x1 * x1 * x2 * y1 * y3 + x1 * x1 * x3 * x3 * x3 * y1 * y2 - x1 * x1 * x3 * y1 * y2 * y3 * y3 + x1 * x1 * x3 * y1 * y2 - x1 * x2 * x3 * x3 * x3 * y1 * y1 + x1 * x2 * x3 * x3 * x3 + x1 * x2 * x3 * y1 * y1 * y3 * y3 - x1 * x2 * x3 * y1 * y1 - x1 * x2 * x3 * y3 * y3 + x1 * x2 * x3 - x1 * x3 * x3 * y1 * y1 * y2 * y3 + x1 * x3 * x3 * y2 * y3 + x1 * y1 * y1 * y2 * y3 * y3 * y3 - x1 * y1 * y1 * y2 * y3 - x1 * y2 * y3 * y3 * y3 + x1 * y2 * y3 - x2 * x3 * x3 * y1 * y1 * y1 * y3 + x2 * x3 * x3 * y1 * y3 + x2 * y1 * y1 * y1 * y3 * y3 * y3 - x2 * y1 * y1 * y1 * y3 - x2 * y1 * y3 * y3 * y3 + x2 * y1 * y3 - x3 * x3 * x3 * y1 * y1 * y1 * y2 + x3 * x3 * x3 * y1 * y2 + x3 * y1 * y1 * y1 * y2 * y3 * y3 - x3 * y1 * y1 * y1 * y2 - x3 * y1 * y2 * y3 * y3 + x3 * y1 * y2) * (-(x2 * x2) + y2 * y2 - 1 - d * (x2 * x2) * (y2 * y2)) + (-d * x1 * x1 * x2 * x2 * x3 * y1 * y2 + d * x1 * x1 * x2 * y1 * y2 * y2 * y3 + d * x1 * x2 * x2 * y1 * y1 * y2 * y3 - d * x1 * x2 * x3 * y1 * y1 * y2 * y2 - x1 * x1 * x1 * x2 * x2 * x2 * x3 - x1 * x1 * x1 * x2 * x2 * y2 * y3 + x1 * x1 * x1 * x2 * x3 * y2 * y2 - x1 * x1 * x1 * x2 * x3 + x1 * x1 * x1 * y2 * y2 * y2 * y3 - x1 * x1 * x1 * y2 * y3 - x1 * x1 * x2 * x2 * x2 * y1 * y3 - x1 * x1 * x2 * x2 * x3 * y1 * y2 + x1 * x1 * x2 * y1 * y2 * y2 * y3 - x1 * x1 * x2 * y1 * y3 + x1 * x1 * x3 * y1 * y2 * y2 * y2 - x1 * x1 * x3 * y1 * y2 + x1 * x2 * x2 * x2 * x3 * y1 * y1 - x1 * x2 * x2 * x2 * x3 + x1 * x2 * x2 * y1 * y1 * y2 * y3 - x1 * x2 * x2 * y2 * y3 - x1 * x2 * x3 * y1 * y1 * y2 * y2 + x1 * x2 * x3 * y1 * y1 + x1 * x2 * x3 * y2 * y2 - x1 * x2 * x3 - x1 * y1 * y1 * y2 * y2 * y2 * y3 + x1 * y1 * y1 * y2 * y3 + x1 * y2 * y2 * y2 * y3 - x1 * y2 * y3 + x2 * x2 * x2 * y1 * y1 * y1 * y3 - x2 * x2 * x2 * y1 * y3 + x2 * x2 * x3 * y1 * y1 * y1 * y2 - x2 * x2 * x3 * y1 * y2 - x2 * y1 * y1 * y1 * y2 * y2 * y3 + x2 * y1 * y1 * y1 * y3 + x2 * y1 * y2 * y2 * y3 - x2 * y1 * y3 - x3 * y1 * y1 * y1 * y2 * y2 * y2 + x3 * y1 * y1 * y1 * y2 + x3 * y1 * y2 * y2 * y2 - x3 * y1 * y2) * (-(x3 * x3) + y3 * y3 - 1 - d * (x3 * x3) * (y3 * y3)) := by grobner
theorem assocY (d x1 y1 x2 y2 x3 y3 : Fin n) : ((y1 * y2 + x1 * x2) * (1 + d * x1 * x2 * y1 * y2) * y3 + (x1 * y2 + x2 * y1) * (1 - d * x1 * x2 * y1 * y2) * x3) * ((1 + d * x2 * x3 * y2 * y3) * (1 - d * x2 * x3 * y2 * y3) - d * (x2 * y3 + x3 * y2) * (y2 * y3 + x2 * x3) * x1 * y1) -
      (y1 * (y2 * y3 + x2 * x3) * (1 + d * x2 * x3 * y2 * y3) + x1 * (x2 * y3 + x3 * y2) * (1 - d * x2 * x3 * y2 * y3)) * ((1 + d * x1 * x2 * y1 * y2) * (1 - d * x1 * x2 * y1 * y2) - d * (x1 * y2 + x2 * y1) * (y1 * y2 + x1 * x2) * x3 * y3) =
      (d * d * x1 * x2 * x2 * x2 * x2 * x3 * y2 * y2 * y2 * y3 * y3 + d * d * x1 * x2 * x2 * x2 * x3 * x3 * y2 * y2 * y2 * y2 * y3 - d * d * x2 * x2 * x2 * x2 * x3 * x3 * y1 * y2 * y2 * y2 * y3 - d * d * x2 * x2 * x2 * x3 * y1 * y2 * y2 * y2 * y2 * y3 * y3 + d * x1 * x2 * x2 * x2 * x2 * x3 * y2 * y3 * y3 + d * x1 * x2 * x2 * x2 * y2 * y2 * y3 * y3 * y3 - d * x1 * x2 * x2 * x2 * y2 * y2 * y3 - d * x1 * x2 * x2 * x3 * x3 * x3 * y2 * y2 * y2 - d * x1 * x2 * x2 * x3 * y2 * y2 * y2 - d * x1 * x2 * x3 * x3 * y2 * y2 * y2 * y2 * y3 - d * x2 * x2 * x2 * x2 * x3 * x3 * y1 * y2 * y3 - d * x2 * x2 * x2 * x3 * x3 * x3 * y1 * y2 * y2 - d * x2 * x2 * x2 * x3 * y1 * y2 * y2 + d * x2 * x2 * y1 * y2 * y2 * y2 * y3 * y3 * y3 - d * x2 * x2 * y1 * y2 * y2 * y2 * y3 + d * x2 * x3 * y1 * y2 * y2 * y2 * y2 * y3 * y3) * (-(x1 * x1) + y1 * y1 - 1 - d * (x1 * x1) * (y1 * y1)) + (d * d * x1 * x1 * x2 * x2 * x3 * x3 * y1 * y2 * y3 * y3 * y3 - d * d * x1 * x1 * x2 * x3 * x3 * x3 * y1 * y2 * y2 * y3 * y3 - d * d * x1 * x2 * x2 * x3 * x3 * x3 * y1 * y1 * y2 * y3 * y3 + d * d * x1 * x2 * x3 * x3 * y1 * y1 * y2 * y2 * y3 * y3 * y3 - d * x1 * x1 * x1 * x2 * x2 * x3 * y2 * y3 * y3 - d * x1 * x1 * x1 * x2 * x3 * x3 * y2 * y2 * y3 + d * x1 * x1 * x1 * x2 * x3 * x3 * y3 * y3 * y3 + d * x1 * x1 * x1 * x3 * x3 * x3 * y2 * y3 * y3 + d * x1 * x1 * x2 * x2 * x3 * x3 * y1 * y2 * y3 + d * x1 * x1 * x2 * x3 * x3 * x3 * y1 * y3 * y3 + d * x1 * x1 * x2 * x3 * y1 * y2 * y2 * y3 * y3 + d * x1 * x1 * x3 * x3 * y1 * y2 * y3 * y3 * y3 + d * x1 * x2 * x2 * x3 * y1 * y1 * y2 * y3 * y3 - d * x1 * x2 * x2 * x3 * y2 * y3 * y3 + d * x1 * x2 * x3 * x3 * y1 * y1 * y2 * y2 * y3 - d * x1 * x2 * x3 * x3 * y1 * y1 * y3 * y3 * y3 - d * x1 * x2 * x3 * x3 * y2 * y2 * y3 + d * x1 * x2 * x3 * x3 * y3 * y3 * y3 - d * x1 * x3 * x3 * x3 * y1 * y1 * y2 * y3 * y3 + d * x1 * x3 * x3 * x3 * y2 * y3 * y3 - d * x2 * x2 * x3 * x3 * y1 * y1 * y1 * y2 * y3 + d * x2 * x2 * x3 * x3 * y1 * y2 * y3 - d * x2 * x3 * x3 * x3 * y1 * y1 * y1 * y3 * y3 + d * x2 * x3 * x3 * x3 * y1 * y3 * y3 - d * x2 * x3 * y1 * y1 * y1 * y2 * y2 * y3 * y3 + d * x2 * x3 * y1 * y2 * y2 * y3 * y3 - d * x3 * x3 * y1 * y1 * y1 * y2 * y3 * y3 * y3 + d * x3 * x3 * y1 * y2 * y3 * y3 * y3 + x1 * x1 * x1 * x2 * x3 * x3 * y3 - x1 * x1 * x1 * x2 * y3 * y3 * y3 + x1 * x1 * x1 * x2 * y3 + x1 * x1 * x1 * x3 * x3 * x3 * y2 - x1 * x1 * x1 * x3 * y2 * y3 * y3 + x1 * x1 * x1 * x3 * y2 + x1 * x1 * x2 * x3 * x3 * x3 * y1 - x1 * x1 * x2 * x3 * y1 * y3 * y3 + x1 * x1 * x2 * x3 * y1 + x1 * x1 * x3 * x3 * y1 * y2 * y3 - x1 * x1 * y1 * y2 * y3 * y3 * y3 + x1 * x1 * y1 * y2 * y3 - x1 * x2 * x3 * x3 * y1 * y1 * y3 + x1 * x2 * x3 * x3 * y3 + x1 * x2 * y1 * y1 * y3 * y3 * y3 - x1 * x2 * y1 * y1 * y3 - x1 * x2 * y3 * y3 * y3 + x1 * x2 * y3 - x1 * x3 * x3 * x3 * y1 * y1 * y2 + x1 * x3 * x3 * x3 * y2 + x1 * x3 * y1 * y1 * y2 * y3 * y3 - x1 * x3 * y1 * y1 * y2 - x1 * x3 * y2 * y3 * y3 + x1 * x3 * y2 - x2 * x3 * x3 * x3 * y1 * y1 * y1 + x2 * x3 * x3 * x3 * y1 + x2 * x3 * y1 * y1 * y1 * y3 * y3 - x2 * x3 * y1 * y1 * y1 - x2 * x3 * y1 * y3 * y3 + x2 * x3 * y1 - x3 * x3 * y1 * y1 * y1 * y2 * y3 + x3 * x3 * y1 * y2 * y3 + y1 * y1 * y1 * y2 * y3 * y3 * y3 - y1 * y1 * y1 * y2 * y3 - y1 * y2 * y3 * y3 * y3 + y1 * y2 * y3) * (-(x2 * x2) + y2 * y2 - 1 - d * (x2 * x2) * (y2 * y2)) + (-d * x1 * x1 * x2 * x2 * y1 * y2 * y3 + d * x1 * x1 * x2 * x3 * y1 * y2 * y2 + d * x1 * x2 * x2 * x3 * y1 * y1 * y2 - d * x1 * x2 * y1 * y1 * y2 * y2 * y3 - x1 * x1 * x1 * x2 * x2 * x2 * y3 - x1 * x1 * x1 * x2 * x2 * x3 * y2 + x1 * x1 * x1 * x2 * y2 * y2 * y3 - x1 * x1 * x1 * x2 * y3 + x1 * x1 * x1 * x3 * y2 * y2 * y2 - x1 * x1 * x1 * x3 * y2 - x1 * x1 * x2 * x2 * x2 * x3 * y1 - x1 * x1 * x2 * x2 * y1 * y2 * y3 + x1 * x1 * x2 * x3 * y1 * y2 * y2 - x1 * x1 * x2 * x3 * y1 + x1 * x1 * y1 * y2 * y2 * y2 * y3 - x1 * x1 * y1 * y2 * y3 + x1 * x2 * x2 * x2 * y1 * y1 * y3 - x1 * x2 * x2 * x2 * y3 + x1 * x2 * x2 * x3 * y1 * y1 * y2 - x1 * x2 * x2 * x3 * y2 - x1 * x2 * y1 * y1 * y2 * y2 * y3 + x1 * x2 * y1 * y1 * y3 + x1 * x2 * y2 * y2 * y3 - x1 * x2 * y3 - x1 * x3 * y1 * y1 * y2 * y2 * y2 + x1 * x3 * y1 * y1 * y2 + x1 * x3 * y2 * y2 * y2 - x1 * x3 * y2 + x2 * x2 * x2 * x3 * y1 * y1 * y1 - x2 * x2 * x2 * x3 * y1 + x2 * x2 * y1 * y1 * y1 * y2 * y3 - x2 * x2 * y1 * y2 * y3 - x2 * x3 * y1 * y1 * y1 * y2 * y2 + x2 * x3 * y1 * y1 * y1 + x2 * x3 * y1 * y2 * y2 - x2 * x3 * y1 - y1 * y1 * y1 * y2 * y2 * y2 * y3 + y1 * y1 * y1 * y2 * y3 + y1 * y2 * y2 * y2 * y3 - y1 * y2 * y3) * (-(x3 * x3) + y3 * y3 - 1 - d * (x3 * x3) * (y3 * y3)) := by grobner
include F
theorem Fld.den {x1 y1 x2 y2 : Fin n} (h1 : On d x1 y1) (h2 : On d x2 y2) (e : Fin n) (he : e * e = 1) : d * x1 * x2 * y1 * y2 ≠ e := fun hD => by
  unfold On at h1 h2
  have h10 := F.one
  have hr := F.root
  have hx1 : x1 ≠ 0 := fun h => by subst h; grobner
  have hy1 : y1 ≠ 0 := fun h => by subst h; grobner
  have hx2 : x2 ≠ 0 := fun h => by subst h; grobner
  have key : d * (x1 * x1) * (y1 * y1) * (y2 * y2 - x2 * x2) = y1 * y1 - x1 * x1 := by grobner
  have h3 : (y1 + e * i * x1) * (y1 + e * i * x1) = d * ((x1 * y1 * (y2 + i * x2)) * (x1 * y1 * (y2 + i * x2))) := by grobner
  have h4 : (y1 - e * i * x1) * (y1 - e * i * x1) = d * ((x1 * y1 * (y2 - i * x2)) * (x1 * y1 * (y2 - i * x2))) := by grobner
  by_cases ha : y2 + i * x2 = 0
  · by_cases hb : y2 - i * x2 = 0
    · have hi : i ≠ 0 := fun h => by subst h; grobner
      have : (2 : Fin n) * (i * x2) = 0 := by grobner
      exact F.mul_ne F.two (F.mul_ne hi hx2) this
    · exact F.noratio (F.mul_ne (F.mul_ne hx1 hy1) hb) h4
  · exact F.noratio (F.mul_ne (F.mul_ne hx1 hy1) ha) h3
theorem Fld.denP {x1 y1 x2 y2 : Fin n} (h1 : On d x1 y1) (h2 : On d x2 y2) : 1 + d * x1 * x2 * y1 * y2 ≠ 0 := fun h =>
  F.den h1 h2 (-1) (by grobner) (by grobner)
theorem Fld.denM {x1 y1 x2 y2 : Fin n} (h1 : On d x1 y1) (h2 : On d x2 y2) : 1 - d * x1 * x2 * y1 * y2 ≠ 0 := fun h =>
  F.den h1 h2 1 (by grobner) (by grobner)
theorem closed_poly {x1 y1 x2 y2 : Fin n} (h1 : On d x1 y1) (h2 : On d x2 y2) {a b : Fin n} (ha : a * (1 + d * x1 * x2 * y1 * y2) = x1 * y2 + x2 * y1) (hb : b * (1 - d * x1 * x2 * y1 * y2) = y1 * y2 + x1 * x2) : On d a b := by
  have hp := F.denP h1 h2
  have hm := F.denM h1 h2
  have hC : -((x1 * y2 + x2 * y1) * (x1 * y2 + x2 * y1) * ((1 - d * x1 * x2 * y1 * y2) * (1 - d * x1 * x2 * y1 * y2))) + (y1 * y2 + x1 * x2) * (y1 * y2 + x1 * x2) * ((1 + d * x1 * x2 * y1 * y2) * (1 + d * x1 * x2 * y1 * y2)) =
      ((1 + d * x1 * x2 * y1 * y2) * (1 - d * x1 * x2 * y1 * y2)) * ((1 + d * x1 * x2 * y1 * y2) * (1 - d * x1 * x2 * y1 * y2)) + d * ((x1 * y2 + x2 * y1) * (x1 * y2 + x2 * y1)) * ((y1 * y2 + x1 * x2) * (y1 * y2 + x1 * x2)) := by
    exact two_rows (closedId d x1 y1 x2 y2) h1.sub h2.sub
  unfold On
  have hp2 := F.mul_ne (F.mul_ne hp hm) (F.mul_ne hp hm)
  refine F.cancel hp2 ?_
  rw [← ha, ← hb] at hC
  generalize 1 + d * x1 * x2 * y1 * y2 = p at *
  generalize 1 - d * x1 * x2 * y1 * y2 = m at *
  clear ha hb hp hm hp2 h1 h2
  grobner
theorem assoc_poly {x1 y1 x2 y2 x3 y3 a b a' b' u v u' v' : Fin n} (h1 : On d x1 y1) (h2 : On d x2 y2) (h3 : On d x3 y3)
    (ha : a * (1 + d * x1 * x2 * y1 * y2) = x1 * y2 + x2 * y1) (hb : b * (1 - d * x1 * x2 * y1 * y2) = y1 * y2 + x1 * x2)
    (ha' : a' * (1 + d * x2 * x3 * y2 * y3) = x2 * y3 + x3 * y2) (hb' : b' * (1 - d * x2 * x3 * y2 * y3) = y2 * y3 + x2 * x3)
    (hu : u * (1 + d * a * x3 * b * y3) = a * y3 + x3 * b) (hv : v * (1 - d * a * x3 * b * y3) = b * y3 + a * x3)
    (hu' : u' * (1 + d * x1 * a' * y1 * b') = x1 * b' + a' * y1) (hv' : v' * (1 - d * x1 * a' * y1 * b') = y1 * b' + x1 * a') : u = u' ∧ v = v' := by
  have o12 := closed_poly F h1 h2 ha hb
  have o23 := closed_poly F h2 h3 ha' hb'
  have hp := F.denP h1 h2
  have hm := F.denM h1 h2
  have hp' := F.denP h2 h3
  have hm' := F.denM h2 h3
  have kp := F.denP o12 h3
  have km := F.denM o12 h3
  have kp' := F.denP h1 o23
  have km' := F.denM h1 o23
  have e1 := h1.sub
  have e2 := h2.sub
  have e3 := h3.sub
  clear h1 h2 h3 o12 o23
  have hX : ((x1 * y2 + x2 * y1) * (1 - d * x1 * x2 * y1 * y2) * y3 + x3 * (y1 * y2 + x1 * x2) * (1 + d * x1 * x2 * y1 * y2)) * ((1 + d * x2 * x3 * y2 * y3) * (1 - d * x2 * x3 * y2 * y3) + d * (x2 * y3 + x3 * y2) * (y2 * y3 + x2 * x3) * x1 * y1) =
      (x1 * (y2 * y3 + x2 * x3) * (1 + d * x2 * x3 * y2 * y3) + (x2 * y3 + x3 * y2) * (1 - d * x2 * x3 * y2 * y3) * y1) * ((1 + d * x1 * x2 * y1 * y2) * (1 - d * x1 * x2 * y1 * y2) + d * (x1 * y2 + x2 * y1) * (y1 * y2 + x1 * x2) * x3 * y3) := by
    exact three_rows (assocX d x1 y1 x2 y2 x3 y3) e1 e2 e3
  have hY : ((y1 * y2 + x1 * x2) * (1 + d * x1 * x2 * y1 * y2) * y3 + (x1 * y2 + x2 * y1) * (1 - d * x1 * x2 * y1 * y2) * x3) * ((1 + d * x2 * x3 * y2 * y3) * (1 - d * x2 * x3 * y2 * y3) - d * (x2 * y3 + x3 * y2) * (y2 * y3 + x2 * x3) * x1 * y1) =
      (y1 * (y2 * y3 + x2 * x3) * (1 + d * x2 * x3 * y2 * y3) + x1 * (x2 * y3 + x3 * y2) * (1 - d * x2 * x3 * y2 * y3)) * ((1 + d * x1 * x2 * y1 * y2) * (1 - d * x1 * x2 * y1 * y2) - d * (x1 * y2 + x2 * y1) * (y1 * y2 + x1 * x2) * x3 * y3) := by
    exact three_rows (assocY d x1 y1 x2 y2 x3 y3) e1 e2 e3
  clear e1 e2 e3
  rw [← ha, ← hb, ← ha', ← hb'] at hX hY
  have hp2 := F.mul_ne hp hm
  have hp2' := F.mul_ne hp' hm'
  generalize 1 + d * x1 * x2 * y1 * y2 = p at *
  generalize 1 - d * x1 * x2 * y1 * y2 = m at *
  generalize 1 + d * x2 * x3 * y2 * y3 = p' at *
  generalize 1 - d * x2 * x3 * y2 * y3 = m' at *
  clear ha hb ha' hb' hp hm hp' hm' x2 y2
  have f1 : a * p * m * y3 + x3 * (b * m) * p = (p * m) * (a * y3 + x3 * b) := by grobner
  have f2 : p' * m' + d * (a' * p') * (b' * m') * x1 * y1 = (p' * m') * (1 + d * x1 * a' * y1 * b') := by grobner
  have f3 : x1 * (b' * m') * p' + a' * p' * m' * y1 = (p' * m') * (x1 * b' + a' * y1) := by grobner
  have f4 : p * m + d * (a * p) * (b * m) * x3 * y3 = (p * m) * (1 + d * a * x3 * b * y3) := by grobner
  have f5 : b * m * p * y3 + a * p * m * x3 = (p * m) * (b * y3 + a * x3) := by grobner
  have f6 : p' * m' - d * (a' * p') * (b' * m') * x1 * y1 = (p' * m') * (1 - d * x1 * a' * y1 * b') := by grobner
  have f7 : y1 * (b' * m') * p' + x1 * (a' * p') * m' = (p' * m') * (y1 * b' + x1 * a') := by grobner
  have f8 : p * m - d * (a * p) * (b * m) * x3 * y3 = (p * m) * (1 - d * a * x3 * b * y3) := by grobner
  rw [f1, f2, f3, f4, ← hu, ← hu'] at hX
  rw [f5, f6, f7, f8, ← hv, ← hv'] at hY
  clear f1 f2 f3 f4 f5 f6 f7 f8 hu hu' hv hv'
  generalize 1 + d * x1 * a' * y1 * b' = k' at *
  generalize 1 + d * a * x3 * b * y3 = k at *
  generalize 1 - d * x1 * a' * y1 * b' = l' at *
  generalize 1 - d * a * x3 * b * y3 = l at *
  generalize p * m = s at *
  generalize p' * m' = s' at *
  constructor
  · refine F.cancel (a := s * s' * k * k') (F.mul_ne (F.mul_ne (F.mul_ne hp2 hp2') kp) kp') ?_
    grobner
  · refine F.cancel (a := s * s' * l * l') (F.mul_ne (F.mul_ne (F.mul_ne hp2 hp2') km) km') ?_
    grobner
omit F
end
structure Pt (n : Nat) [NeZero n] (d : Fin n) where
  x : Fin n
  y : Fin n
  on : On d x y
theorem Pt.ext {n : Nat} [NeZero n] {d : Fin n} {p q : Pt n d} (hx : p.x = q.x) (hy : p.y = q.y) : p = q := by
  cases p; cases q; cases hx; cases hy; rfl
section
variable {n : Nat} [NeZero n] {iv : Fin n → Fin n} {d i : Fin n} (F : Fld n iv d i)
def Pt.zero : Pt n d := ⟨0, 1, by unfold On; grobner⟩
def Pt.neg (p : Pt n d) : Pt n d := ⟨-p.x, p.y, by have := p.on; unfold On at *; grobner⟩
def Pt.add (p q : Pt n d) : Pt n d :=
  ⟨(p.x * q.y + q.x * p.y) * iv (1 + d * p.x * q.x * p.y * q.y), (p.y * q.y + p.x * q.x) * iv (1 - d * p.x * q.x * p.y * q.y),
    closed_poly F p.on q.on (by have := F.inv _ (F.denP p.on q.on); grobner) (by have := F.inv _ (F.denM p.on q.on); grobner)⟩
theorem add_x (p q : Pt n d) : (Pt.add F p q).x * (1 + d * p.x * q.x * p.y * q.y) = p.x * q.y + q.x * p.y := by
  have := F.inv _ (F.denP p.on q.on)
  simp only [Pt.add]
  generalize 1 + d * p.x * q.x * p.y * q.y = k at *
  grobner
theorem add_y (p q : Pt n d) : (Pt.add F p q).y * (1 - d * p.x * q.x * p.y * q.y) = p.y * q.y + p.x * q.x := by
  have := F.inv _ (F.denM p.on q.on)
  simp only [Pt.add]
  generalize 1 - d * p.x * q.x * p.y * q.y = k at *
  grobner
theorem add_eq {p q r : Pt n d} (hx : r.x * (1 + d * p.x * q.x * p.y * q.y) = p.x * q.y + q.x * p.y) (hy : r.y * (1 - d * p.x * q.x * p.y * q.y) = p.y * q.y + p.x * q.x) : Pt.add F p q = r := by
  apply Pt.ext
  · apply F.cancel (F.denP p.on q.on)
    rw [← add_x F] at hx
    grobner
  · apply F.cancel (F.denM p.on q.on)
    rw [← add_y F] at hy
    grobner
theorem add_comm (p q : Pt n d) : Pt.add F p q = Pt.add F q p := by
  apply add_eq
  · have := add_x F q p; grobner
  · have := add_y F q p; grobner
theorem add_zero (p : Pt n d) : Pt.add F p Pt.zero = p := by
  apply add_eq <;> simp only [Pt.zero] <;> grobner
theorem zero_add (p : Pt n d) : Pt.add F Pt.zero p = p := by rw [add_comm, add_zero]
theorem add_neg (p : Pt n d) : Pt.add F p p.neg = Pt.zero := by
  have := p.on
  unfold On at this
  apply add_eq <;> simp only [Pt.zero, Pt.neg] <;> grobner
theorem add_assoc (p q r : Pt n d) : Pt.add F (Pt.add F p q) r = Pt.add F p (Pt.add F q r) := by
  obtain ⟨h1, h2⟩ := assoc_poly F p.on q.on r.on (add_x F p q) (add_y F p q) (add_x F q r) (add_y F q r) (add_x F (Pt.add F p q) r) (add_y F (Pt.add F p q) r) (add_x F p (Pt.add F q r)) (add_y F p (Pt.add F q r))
  exact Pt.ext h1 h2
theorem add_left_cancel {p q r : Pt n d} (h : Pt.add F p q = Pt.add F p r) : q = r := by
  have : Pt.add F p.neg (Pt.add F p q) = Pt.add F p.neg (Pt.add F p r) := by rw [h]
  rwa [← add_assoc, ← add_assoc, add_comm F p.neg p, add_neg, zero_add, zero_add] at this
theorem neg_zero : (Pt.zero : Pt n d).neg = Pt.zero := by
  apply Pt.ext <;> simp only [Pt.neg, Pt.zero]
  grobner
theorem add_add_comm (a b c e : Pt n d) : Pt.add F (Pt.add F a b) (Pt.add F c e) = Pt.add F (Pt.add F a c) (Pt.add F b e) := by
  rw [add_assoc, add_assoc, ← add_assoc F b, add_comm F b c, add_assoc F c]
theorem neg_add (p q : Pt n d) : (Pt.add F p q).neg = Pt.add F p.neg q.neg := by
  apply add_left_cancel F (p := Pt.add F p q)
  rw [add_neg, add_add_comm, add_neg, add_neg, add_zero]
def Pt.mul (k : Nat) (p : Pt n d) : Pt n d := match k with
  | 0 => Pt.zero
  | k + 1 => Pt.add F (Pt.mul k p) p
theorem mul_add (a b : Nat) (p : Pt n d) : Pt.mul F (a + b) p = Pt.add F (Pt.mul F a p) (Pt.mul F b p) := by
  induction b with
  | zero => rw [Nat.add_zero, Pt.mul, add_zero]
  | succ b ih => rw [← Nat.add_assoc, Pt.mul, ih, Pt.mul, add_assoc]
theorem mul_one (p : Pt n d) : Pt.mul F 1 p = p := by rw [Pt.mul, Pt.mul, zero_add]
theorem mul_two (p : Pt n d) : Pt.mul F 2 p = Pt.add F p p := by rw [Pt.mul, mul_one]
theorem mul_zero (k : Nat) : Pt.mul F k (Pt.zero : Pt n d) = Pt.zero := by
  induction k with
  | zero => rfl
  | succ k ih => rw [Pt.mul, ih, zero_add]
theorem mul_mul (a b : Nat) (p : Pt n d) : Pt.mul F (a * b) p = Pt.mul F a (Pt.mul F b p) := by
  induction a with
  | zero => rw [Nat.zero_mul, Pt.mul, Pt.mul]
  | succ a ih => rw [Nat.succ_mul, mul_add, ih, Pt.mul]
theorem mul_neg (k : Nat) (p : Pt n d) : Pt.mul F k p.neg = (Pt.mul F k p).neg := by
  induction k with
  | zero => rw [Pt.mul, Pt.mul, neg_zero]
  | succ k ih => rw [Pt.mul, ih, Pt.mul, neg_add]
theorem mul_mod {l : Nat} {p : Pt n d} (hl : Pt.mul F l p = Pt.zero) (k : Nat) : Pt.mul F (k % l) p = Pt.mul F k p := by
  have h : Pt.mul F k p = Pt.mul F (l * (k / l) + k % l) p := by rw [Nat.div_add_mod]
  rw [h, mul_add, Nat.mul_comm, mul_mul, hl, mul_zero, zero_add]
end
end Go.Cv
set_option linter.unusedSimpArgs false
set_option linter.unusedVariables false
namespace Go.NT
theorem pwf_eq (m a : Nat) : ∀ (f e : Nat), pwf m a f e = pw m a f e
  | 0, _ => rfl
  | f + 1, e => by simp only [pwf, pw, pwf_eq m a f]
theorem pwf_pow {m a f e : Nat} (h : e < 2 ^ f) : pwf m a f e = a ^ e % m := by rw [pwf_eq, pw_eq m a f e h]
def certB (n q k a f : Nat) : Bool := n == q * k + 1 && decide (q * k < 2 ^ f) && pwf n a f (q * k) == 1 && Nat.gcd (pwf n a f k + n - 1) n == 1
theorem certB_spec {n q k a f : Nat} (hq : Pr q) (h : certB n q k a f = true) : n = q * k + 1 ∧ a ^ (q * k) % n = 1 ∧ Nat.gcd (a ^ k % n + n - 1) n = 1 := by
  simp only [certB, Bool.and_eq_true, beq_iff_eq, decide_eq_true_eq] at h
  obtain ⟨⟨⟨h1, h2⟩, h3⟩, h4⟩ := h
  have h5 : k < 2 ^ f := by
    have : k ≤ q * k := Nat.le_mul_of_pos_left k (by have := hq.1; omega)
    omega
  rw [pwf_pow h2] at h3
  rw [pwf_pow h5] at h4
  exact ⟨h1, h3, h4⟩
theorem cert_one {n q k a f : Nat} (hq : Pr q) (h : (certB n q k a f && decide (2 ≤ n) && decide (n < q * q)) = true) : Pr n := by
  simp only [Bool.and_eq_true, decide_eq_true_eq] at h
  obtain ⟨h1, h2, h3⟩ := certB_spec hq h.1.1
  exact pock_one h.1.2 hq h1 h.2 h2 h3
theorem cert_two {n q k a q2 k2 a2 f : Nat} (hq : Pr q) (hq2 : Pr q2) (h : (certB n q k a f && certB n q2 k2 a2 f && decide (2 ≤ n) && decide (q ≠ q2) && decide (n < (q * q2) * (q * q2))) = true) : Pr n := by
  simp only [Bool.and_eq_true, decide_eq_true_eq] at h
  obtain ⟨h1, h2, h3⟩ := certB_spec hq h.1.1.1.1
  obtain ⟨h1', h2', h3'⟩ := certB_spec hq2 h.1.1.1.2
  exact pock_two h.1.1.2 hq h1 hq2 h1' h.1.2 h.2 h2 h3 h2' h3'
theorem pr1 : Pr 991 := small_prime (f := 30) (by decide) (by decide) (by decide +kernel)
theorem pr2 : Pr 103 := small_prime (f := 9) (by decide) (by decide) (by decide +kernel)
theorem pr3 : Pr 8574133 := cert_two (q := 991) (k := 8652) (a := 2) (q2 := 103) (k2 := 83244) (a2 := 2) (f := 25) pr1 pr2 (by decide +kernel)
theorem pr4 : Pr 127 := small_prime (f := 10) (by decide) (by decide) (by decide +kernel)
theorem pr5 : Pr 1919519569386763 := cert_two (q := 8574133) (k := 223873314) (a := 2) (q2 := 127) (k2 := 15114327318006) (a2 := 2) (f := 52) pr3 pr4 (by decide +kernel)
theorem pr6 : Pr 569003 := small_prime (f := 753) (by decide) (by decide) (by decide +kernel)
theorem pr7 : Pr 2773320623 := cert_one (q := 569003) (k := 4874) (a := 2) (f := 33) pr6 (by decide +kernel)
theorem pr8 : Pr 72106336199 := cert_one (q := 2773320623) (k := 26) (a := 2) (f := 38) pr7 (by decide +kernel)
theorem pr9 : Pr 75445702479781427272750846543864801 := cert_two (q := 1919519569386763) (k := 39304471641247389600) (a := 2) (q2 := 72106336199) (k2 := 1046311689884858398375200) (a2 := 2) (f := 117) pr5 pr8 (by decide +kernel)
theorem pr10 : Pr 430751 := small_prime (f := 655) (by decide) (by decide) (by decide +kernel)
theorem pr11 : Pr 4153 := small_prime (f := 63) (by decide) (by decide) (by decide +kernel)
theorem pr12 : Pr 31757755568855353 := cert_two (q := 430751) (k := 73726481352) (a := 2) (q2 := 4153) (k2 := 7646943310584) (a2 := 2) (f := 56) pr10 pr11 (by decide +kernel)
theorem pr13 : Pr 74058212732561358302231226437062788676166966415465897661863160754340907 := cert_two (q := 75445702479781427272750846543864801) (k := 981609426360740691344999861639072106) (a := 2) (q2 := 31757755568855353) (k2 := 2331972502653487852620185443007392165117953542933313402) (a2 := 2) (f := 237) pr9 pr12 (by decide +kernel)
theorem pr14 : Pr 57896044618658097711785492504343953926634992332820282019728792003956564819949 := cert_one (q := 74058212732561358302231226437062788676166966415465897661863160754340907) (k := 781764) (a := 2) (f := 256) pr13 (by decide +kernel)
end Go.NT
namespace Go.Fp
open Go.NT Go.Cv
def P : Nat := 57896044618658097711785492504343953926634992332820282019728792003956564819949
theorem P_eq : P = 57896044618658097711785492504343953926634992332820282019728792003956564819949 := rfl
instance : NeZero P := ⟨by decide⟩
theorem P_prime : Pr P := pr14
abbrev Fe := Fin P
def fp (n : Nat) : Fe := Fin.ofNat P n
theorem fp_val (n : Nat) : (fp n).val = n % P := rfl
theorem fp_eq {a b : Nat} : fp a = fp b ↔ a % P = b % P := by
  constructor
  · intro h; exact congrArg Fin.val h
  · intro h; exact Fin.ext h
theorem fp_mod (a : Nat) : fp (a % P) = fp a := fp_eq.2 (Nat.mod_mod _ _)
theorem fp_add (a b : Nat) : fp (a + b) = fp a + fp b := Fin.ext (by rw [fp_val, Fin.val_add, fp_val, fp_val, ← Nat.add_mod])
theorem fp_mul (a b : Nat) : fp (a * b) = fp a * fp b := Fin.ext (by rw [fp_val, Fin.val_mul, fp_val, fp_val, ← Nat.mul_mod])
theorem fp_zero : fp 0 = 0 := rfl
theorem fp_one : fp 1 = 1 := rfl
theorem fp_two : fp 2 = 2 := rfl
theorem fp_P : fp P = 0 := Fin.ext (by rw [fp_val, Nat.mod_self]; rfl)
theorem fp_mulP (k : Nat) : fp (k * P) = 0 := by rw [fp_mul, fp_P]; grobner
theorem fp_sub {a b : Nat} (h : b ≤ a) : fp (a - b) = fp a - fp b := by
  have h1 := fp_add (a - b) b
  rw [Nat.sub_add_cancel h] at h1
  grobner
def pow (a : Fe) (k : Nat) : Fe := match k with
  | 0 => 1
  | k + 1 => pow a k * a
theorem pow_val (a : Fe) : ∀ k, (pow a k).val = a.val ^ k % P
  | 0 => rfl
  | k + 1 => by rw [pow, Fin.val_mul, pow_val a k, Nat.pow_succ, Nat.mod_mul_mod]
theorem pow_add (a : Fe) (j : Nat) : ∀ k, pow a (j + k) = pow a j * pow a k
  | 0 => by rw [Nat.add_zero]; simp only [pow]; grobner
  | k + 1 => by rw [← Nat.add_assoc, pow, pow_add a j k, pow]; grobner
theorem pow_mul (a : Fe) (j : Nat) : ∀ k, pow a (j * k) = pow (pow a j) k
  | 0 => by rw [Nat.mul_zero]; rfl
  | k + 1 => by rw [Nat.mul_succ, pow_add, pow_mul a j k, pow]
theorem pow_one (a : Fe) : pow a 1 = a := by simp only [pow]; grobner
theorem pow_two (a : Fe) : pow a 2 = a * a := by simp only [pow]; grobner
theorem one_pow : ∀ k, pow 1 k = 1
  | 0 => rfl
  | k + 1 => by rw [pow, one_pow k]; grobner
theorem zero_pow {k : Nat} (hk : 0 < k) : pow 0 k = 0 := by
  obtain ⟨j, rfl⟩ : ∃ j, k = j + 1 := ⟨k - 1, by omega⟩
  rw [pow]; grobner
theorem pow_fp (a k : Nat) : pow (fp a) k = fp (a ^ k) := Fin.ext (by rw [pow_val, fp_val, fp_val, ← Nat.pow_mod])
theorem ndvd {a : Fe} (h : a ≠ 0) : ¬ P ∣ a.val := fun hd => by
  have h1 := Nat.mod_eq_zero_of_dvd hd
  rw [Nat.mod_eq_of_lt a.isLt] at h1
  exact h (Fin.ext h1)
theorem fermat {a : Fe} (h : a ≠ 0) : pow a (P - 1) = 1 := Fin.ext (by rw [pow_val, Go.NT.fermat P_prime (ndvd h)]; rfl)
def iv (a : Fe) : Fe := pow a (P - 2)
theorem iv_mul {a : Fe} (h : a ≠ 0) : a * iv a = 1 := by
  have h1 := fermat h
  rw [show P - 1 = (P - 2) + 1 from rfl, pow] at h1
  unfold iv
  rw [← h1]; grobner
theorem iv_zero : iv 0 = 0 := zero_pow (by decide)
def dN : Nat := 37095705934669439343138083508754565189542113879843219016388785533085940283555
def iN : Nat := 19681161376707505956807079304988542015446066515923890162744021073123829784752
def d : Fe := fp dN
def i : Fe := fp iN
theorem pow_test {a k r f : Nat} (hk : k < 2 ^ f) (h : pwf P a f k = r) : pow (fp a) k = fp r := by
  rw [pow_fp, ← h, pwf_pow hk, fp_mod]
theorem root_i : i * i = -1 := by
  have h : i * i + 1 = 0 := by
    unfold i
    rw [← fp_mul, ← fp_one, ← fp_add]
    exact Fin.ext (by rw [fp_val]; decide +kernel)
  grobner
theorem one_ne : (1 : Fe) ≠ 0 := fun h => by
  have := congrArg Fin.val h
  revert this
  decide +kernel
theorem two_ne : (2 : Fe) ≠ 0 := fun h => by
  have := congrArg Fin.val h
  revert this
  decide +kernel
theorem pow_half (r : Fe) : pow (r * r) ((P - 1) / 2) = 1 ∨ r = 0 := by
  by_cases h : r = 0
  · exact .inr h
  · left
    rw [← pow_two, ← pow_mul, show 2 * ((P - 1) / 2) = P - 1 from by decide +kernel, fermat h]
theorem half_d : pow d ((P - 1) / 2) = fp (P - 1) := pow_test (f := 256) (by decide +kernel) (by decide +kernel)
theorem nosq (r : Fe) : r * r ≠ d := fun h => by
  have h1 := half_d
  rcases pow_half r with h2 | h2
  · rw [h, h1] at h2
    have := congrArg Fin.val h2
    revert this
    decide +kernel
  · subst h2
    have h3 : d = 0 := by rw [← h]; grobner
    have := congrArg Fin.val h3
    revert this
    decide +kernel
theorem fld : Fld P iv d i := ⟨fun _ h => iv_mul h, iv_zero, one_ne, two_ne, root_i, nosq⟩
end Go.Fp
set_option linter.unusedSimpArgs false
set_option linter.unusedVariables false
namespace Go.Ev.Ytgacigcbglflkaa
open Go Go.Ev
attribute [local congr] bind_congr2 ite_congr2 qElse_congr gate_congr guardV_congr
set_option maxRecDepth 100000
theorem mul64_ev {x y : Nat} (hx : x < 18446744073709551616) (hy : y < 18446744073709551616) :
    evFun T 69 [.int .u64 x, .int .u64 y] [] = some (.tuple #[.int .u64 ((x * y / 18446744073709551616 : Nat) : Int), .int .u64 ((x * y % 18446744073709551616 : Nat) : Int)], [], []) := by
  have key : ∀ a b : Nat, a = x * y / 18446744073709551616 → b = x * y % 18446744073709551616 → (some (.tuple #[.int .u64 (a : Int), .int .u64 (b : Int)], [], []) : Option (Value × List Ob × List Nat)) = some (.tuple #[.int .u64 ((x * y / 18446744073709551616 : Nat) : Int), .int .u64 ((x * y % 18446744073709551616 : Nat) : Int)], [], []) := by
    rintro a b rfl rfl; rfl
  rw [evFun_fn (fn := a91) rfl]
  simp only [a91, envOf, quiet, cF, ↓pF, reduceCtorEq, Nat.reduceEqDiff, Int.reduceEq, fs_callV, fs_regionP, ↓keepV_some, ↓qElse_some, ↓guardV_tt, ↓guardV_ff, ↓guardV_tf, ↓guardV_ft, cL, Int.reduceLE, Int.reduceLT, Int.reduceAdd, Int.reduceMul, Int.reduceSub, Int.reduceTDiv, Int.reduceTMod, Int.reduceNeg, Int.reduceToNat, Int.reduceGT, Int.reduceGE, Int.reducePow, Nat.reduceAdd, Nat.reduceMul, Nat.reduceSub, Nat.reduceDiv, Nat.reduceMod, Nat.reducePow, Nat.reduceLT, Nat.reduceLeDiff, cU]
  apply key
  · have e : x * y = (x / 4294967296 * (y / 4294967296)) * 18446744073709551616 + (x / 4294967296 * (y % 4294967296) + x % 4294967296 * (y / 4294967296)) * 4294967296 + x % 4294967296 * (y % 4294967296) := by
      conv => lhs; rw [← Nat.div_add_mod x 4294967296, ← Nat.div_add_mod y 4294967296]
      generalize x / 4294967296 = x1
      generalize x % 4294967296 = x0
      generalize y / 4294967296 = y1
      generalize y % 4294967296 = y0
      grind
    have b1 : x / 4294967296 ≤ 4294967295 := by omega
    have b2 : x % 4294967296 ≤ 4294967295 := by omega
    have b3 : y / 4294967296 ≤ 4294967295 := by omega
    have b4 : y % 4294967296 ≤ 4294967295 := by omega
    have c1 := Nat.mul_le_mul b1 b3
    have c2 := Nat.mul_le_mul b1 b4
    have c3 := Nat.mul_le_mul b2 b3
    have c4 := Nat.mul_le_mul b2 b4
    rw [e]
    clear e
    generalize x / 4294967296 * (y / 4294967296) = p11 at *
    generalize x / 4294967296 * (y % 4294967296) = p10 at *
    generalize x % 4294967296 * (y / 4294967296) = p01 at *
    generalize x % 4294967296 * (y % 4294967296) = p00 at *
    omega
  · rfl
def wV (n : Nat) : Value := .agg #[.int .u64 ((n / 18446744073709551616 : Nat) : Int), .int .u64 ((n % 18446744073709551616 : Nat) : Int)]
theorem rf_wV (n : Nat) : rf (wV n) = true := rfl
theorem add64_ev {x y c : Nat} (hc : c ≤ 1) : evFun T 70 [.int .u64 x, .int .u64 y, .int .u64 c] [] = some (.tuple #[.int .u64 ((x + y + c) % 18446744073709551616 : Nat), .int .u64 ((x + y + c) / 18446744073709551616 : Nat)], [], []) := by
  rw [evFun.eq_def]
  have h1 : T.fn 70 = none := rfl
  have h2 : ([.int .u64 (x : Int), .int .u64 (y : Int), .int .u64 (c : Int)] : List Value).all rf = true := rfl
  have h3 : T.ext 70 [.int .u64 x, .int .u64 y, .int .u64 c] = some (.tuple #[.int .u64 ((x + y + c) % 18446744073709551616 : Nat), .int .u64 ((x + y + c) / 18446744073709551616 : Nat)]) := by
    have h4 : (c : Int).toNat ≤ 1 := by omega
    simp [T, extS, hc]
  rw [h1]
  simp only [h2, if_true, h3, Option.bind_some]
theorem times_ev2 {x y : Nat} (hx : x < 18446744073709551616) (hy : y < 18446744073709551616) : ∃ l, evFun T 55 [.int .u64 x, .int .u64 y] [] = some (wV (x * y), l, []) := by
  have h := mul64_ev hx hy
  have hf : ∀ a b : Int, fillL [Value.int .u64 0, Value.int .u64 0] [(0, 1, .int .u64 a), (1, 1, .int .u64 b)] = some [.int .u64 a, .int .u64 b] := fun _ _ => rfl
  apply Exists.intro
  rw [evFun_fn (fn := a77) rfl]
  simp only [a77, envOf, quiet, cF, ↓pF, reduceCtorEq, Nat.reduceEqDiff, Int.reduceEq, fs_callV, fs_regionP, ↓keepV_some, ↓qElse_some, ↓guardV_tt, ↓guardV_ff, ↓guardV_tf, ↓guardV_ft, cL, Int.reduceLE, Int.reduceLT, Int.reduceAdd, Int.reduceMul, Int.reduceSub, Int.reduceTDiv, Int.reduceTMod, Int.reduceNeg, Int.reduceToNat, Int.reduceGT, Int.reduceGE, Int.reducePow, Nat.reduceAdd, Nat.reduceMul, Nat.reduceSub, Nat.reduceDiv, Nat.reduceMod, Nat.reducePow, Nat.reduceLT, Nat.reduceLeDiff, cJ, Nat.add_assoc, h, hf]
  rfl
theorem wplus_ev {n x y : Nat} (hx : x < 18446744073709551616) (hy : y < 18446744073709551616) (hn : n + x * y < 340282366920938463463374607431768211456) : ∃ l, evFun T 56 [wV n, .int .u64 x, .int .u64 y] [] = some (wV (n + x * y), l, []) := by
  have h := mul64_ev hx hy
  have hf : ∀ a b : Int, fillL [Value.int .u64 0, Value.int .u64 0] [(0, 1, .int .u64 a), (1, 1, .int .u64 b)] = some [.int .u64 a, .int .u64 b] := fun _ _ => rfl
  have a1 := add64_ev (x := n % 18446744073709551616) (y := x * y % 18446744073709551616) (c := 0) (by decide)
  have a2 := add64_ev (x := n / 18446744073709551616) (y := x * y / 18446744073709551616) (c := (n % 18446744073709551616 + x * y % 18446744073709551616) / 18446744073709551616) (by omega)
  simp only [Int.natCast_zero, Nat.add_zero] at a1
  have key : ∀ (a b : Nat) (l : List Ob), a = (n + x * y) / 18446744073709551616 → b = (n + x * y) % 18446744073709551616 → (some (.agg #[.int .u64 (a : Int), .int .u64 (b : Int)], l, []) : Option (Value × List Ob × List Nat)) = some (wV (n + x * y), l, []) := by
    rintro a b l rfl rfl; rfl
  apply Exists.intro
  rw [evFun_fn (fn := a78) rfl]
  simp only [wV, a78, envOf, quiet, cF, ↓pF, reduceCtorEq, Nat.reduceEqDiff, Int.reduceEq, fs_callV, fs_regionP, ↓keepV_some, ↓qElse_some, ↓guardV_tt, ↓guardV_ff, ↓guardV_tf, ↓guardV_ft, cL, Int.reduceLE, Int.reduceLT, Int.reduceAdd, Int.reduceMul, Int.reduceSub, Int.reduceTDiv, Int.reduceTMod, Int.reduceNeg, Int.reduceToNat, Int.reduceGT, Int.reduceGE, Int.reducePow, Nat.reduceAdd, Nat.reduceMul, Nat.reduceSub, Nat.reduceDiv, Nat.reduceMod, Nat.reducePow, Nat.reduceLT, Nat.reduceLeDiff, cJ, Nat.add_assoc, h, hf, a1, a2]
  apply key
  · generalize x * y = p at *
    omega
  · generalize x * y = p at *
    omega
theorem split_ev {n : Nat} (hn : n < 41538374868278621028243970633760768) : ∃ l, evFun T 57 [wV n] [] = some (.tuple #[.int .u64 ((n / 2251799813685248 : Nat) : Int), .int .u64 ((n % 2251799813685248 : Nat) : Int)], l, []) := by
  have key : ∀ (a b : Nat) (l : List Ob), a = n / 2251799813685248 → b = n % 2251799813685248 → (some (.tuple #[.int .u64 (a : Int), .int .u64 (b : Int)], l, []) : Option (Value × List Ob × List Nat)) = some (.tuple #[.int .u64 ((n / 2251799813685248 : Nat) : Int), .int .u64 ((n % 2251799813685248 : Nat) : Int)], l, []) := by
    rintro a b l rfl rfl; rfl
  have hor := fun a b : Nat => n_or .u64 rfl a b
  apply Exists.intro
  rw [evFun_fn (fn := a79) rfl]
  simp only [wV, a79, envOf, quiet, cF, ↓pF, reduceCtorEq, Nat.reduceEqDiff, Int.reduceEq, fs_callV, fs_regionP, ↓keepV_some, ↓qElse_some, ↓guardV_tt, ↓guardV_ff, ↓guardV_tf, ↓guardV_ft, cL, Int.reduceLE, Int.reduceLT, Int.reduceAdd, Int.reduceMul, Int.reduceSub, Int.reduceTDiv, Int.reduceTMod, Int.reduceNeg, Int.reduceToNat, Int.reduceGT, Int.reduceGE, Int.reducePow, Nat.reduceAdd, Nat.reduceMul, Nat.reduceSub, Nat.reduceDiv, Nat.reduceMod, Nat.reducePow, Nat.reduceLT, Nat.reduceLeDiff, cJ, Nat.add_assoc, cU, hor]
  apply key
  · have h1 : n / 18446744073709551616 < 2251799813685248 := by omega
    have e1 : n / 18446744073709551616 * 8192 % 18446744073709551616 % 2 ^ IntKind.u64.bits = n / 18446744073709551616 * 2 ^ 13 := by
      rw [show (2 : Nat) ^ IntKind.u64.bits = 18446744073709551616 from rfl]; omega
    have e2 : n % 18446744073709551616 / 2251799813685248 % 2 ^ IntKind.u64.bits = n % 18446744073709551616 / 2251799813685248 := by
      rw [show (2 : Nat) ^ IntKind.u64.bits = 18446744073709551616 from rfl]; omega
    rw [e1, e2, or_apart (by omega)]
    omega
  · omega
theorem more_ev {n x : Nat} (hn : n + x < 340282366920938463463374607431768211456) (hx : x < 18446744073709551616) : ∃ l, evFun T 58 [wV n, .int .u64 x] [] = some (wV (n + x), l, []) := by
  have hf : ∀ a b : Int, fillL [Value.int .u64 0, Value.int .u64 0] [(0, 1, .int .u64 a), (1, 1, .int .u64 b)] = some [.int .u64 a, .int .u64 b] := fun _ _ => rfl
  have a1 := add64_ev (x := n % 18446744073709551616) (y := x) (c := 0) (by decide)
  simp only [Int.natCast_zero, Nat.add_zero] at a1
  have key : ∀ (a b : Nat) (l : List Ob), a = (n + x) / 18446744073709551616 → b = (n + x) % 18446744073709551616 → (some (.agg #[.int .u64 (a : Int), .int .u64 (b : Int)], l, []) : Option (Value × List Ob × List Nat)) = some (wV (n + x), l, []) := by
    rintro a b l rfl rfl; rfl
  apply Exists.intro
  rw [evFun_fn (fn := a80) rfl]
  simp only [wV, a80, envOf, quiet, cF, ↓pF, reduceCtorEq, Nat.reduceEqDiff, Int.reduceEq, fs_callV, fs_regionP, ↓keepV_some, ↓qElse_some, ↓guardV_tt, ↓guardV_ff, ↓guardV_tf, ↓guardV_ft, cL, Int.reduceLE, Int.reduceLT, Int.reduceAdd, Int.reduceMul, Int.reduceSub, Int.reduceTDiv, Int.reduceTMod, Int.reduceNeg, Int.reduceToNat, Int.reduceGT, Int.reduceGE, Int.reducePow, Nat.reduceAdd, Nat.reduceMul, Nat.reduceSub, Nat.reduceDiv, Nat.reduceMod, Nat.reducePow, Nat.reduceLT, Nat.reduceLeDiff, cJ, Nat.add_assoc, cU, hf, a1]
  apply key
  · omega
  · omega
def eV (l : List Nat) : Value := .agg (ns .u64 l).toArray
theorem rf_eV (l : List Nat) : rf (eV l) = true := by
  show (ns .u64 l).toArray.toList.all scalarRf = true
  rw [show (ns .u64 l).toArray.toList = ns .u64 l from rfl]
  simp [ns, scalarRf]
theorem rf_ns (k : IntKind) (l : List Nat) : rf (.agg (ns k l).toArray) = true := by
  show (ns k l).toArray.toList.all scalarRf = true
  rw [show (ns k l).toArray.toList = ns k l from rfl]
  simp [ns, scalarRf]
structure El (l : List Nat) (b : Nat) : Prop where
  len : l.length = 5
  lt : ∀ x ∈ l, x < b
theorem El.five {l : List Nat} {b : Nat} (h : El l b) : ∃ x0 x1 x2 x3 x4, l = [x0, x1, x2, x3, x4] ∧ x0 < b ∧ x1 < b ∧ x2 < b ∧ x3 < b ∧ x4 < b := by
  obtain ⟨h1, h2⟩ := h
  match l, h1 with
  | [x0, x1, x2, x3, x4], _ => exact ⟨x0, x1, x2, x3, x4, rfl, h2 _ (by simp), h2 _ (by simp), h2 _ (by simp), h2 _ (by simp), h2 _ (by simp)⟩
theorem El.mk5 {x0 x1 x2 x3 x4 b : Nat} (h0 : x0 < b) (h1 : x1 < b) (h2 : x2 < b) (h3 : x3 < b) (h4 : x4 < b) : El [x0, x1, x2, x3, x4] b := ⟨rfl, by simp; exact ⟨h0, h1, h2, h3, h4⟩⟩
def v51 (l : List Nat) : Nat := num 2251799813685248 l
def fe (l : List Nat) : Go.Fp.Fe := Go.Fp.fp (v51 l)
def carL (x0 x1 x2 x3 x4 : Nat) : List Nat :=
  let c0 := x0 / 2251799813685248
  let c1 := (x1 + c0) / 2251799813685248
  let c2 := (x2 + c1) / 2251799813685248
  let c3 := (x3 + c2) / 2251799813685248
  let c4 := (x4 + c3) / 2251799813685248
  [x0 % 2251799813685248 + 19 * c4, (x1 + c0) % 2251799813685248, (x2 + c1) % 2251799813685248, (x3 + c2) % 2251799813685248, (x4 + c3) % 2251799813685248]
theorem carL_val {x0 x1 x2 x3 x4 : Nat} : ∃ k, v51 (carL x0 x1 x2 x3 x4) + k * Go.Fp.P = v51 [x0, x1, x2, x3, x4] := by
  refine ⟨(x4 + (x3 + (x2 + (x1 + x0 / 2251799813685248) / 2251799813685248) / 2251799813685248) / 2251799813685248) / 2251799813685248, ?_⟩
  simp only [v51, carL, num, Go.Fp.P_eq]
  omega
theorem fe_of {a b k : Nat} (h : a + k * Go.Fp.P = b) : Go.Fp.fp a = Go.Fp.fp b := by
  rw [← h, Go.Fp.fp_add, Go.Fp.fp_mulP]; grobner
theorem carried_ev {x0 x1 x2 x3 x4 : Nat} (h0 : x0 < 9223372036854775808) (h1 : x1 < 9223372036854775808) (h2 : x2 < 9223372036854775808) (h3 : x3 < 9223372036854775808) (h4 : x4 < 9223372036854775808) :
    ∃ l, evFun T 59 [eV [x0, x1, x2, x3, x4]] [] = some (eV (carL x0 x1 x2 x3 x4), l, []) := by
  have key : ∀ (a b c d e : Nat) (l : List Ob), [a, b, c, d, e] = carL x0 x1 x2 x3 x4 → (some (.agg [.int .u64 (a : Int), .int .u64 (b : Int), .int .u64 (c : Int), .int .u64 (d : Int), .int .u64 (e : Int)].toArray, l, []) : Option (Value × List Ob × List Nat)) = some (eV (carL x0 x1 x2 x3 x4), l, []) := by
    intro a b c d e l h
    rw [← h]; rfl
  have hz : List.replicate 5 (Value.int .u64 0) = [.int .u64 0, .int .u64 0, .int .u64 0, .int .u64 0, .int .u64 0] := rfl
  apply Exists.intro
  rw [evFun_fn (fn := a81) rfl]
  simp only [eV, ns_cons, ns_nil, a81, envOf, quiet, cF, ↓pF, reduceCtorEq, Nat.reduceEqDiff, Int.reduceEq, fs_callV, fs_regionP, ↓keepV_some, ↓qElse_some, ↓guardV_tt, ↓guardV_ff, ↓guardV_tf, ↓guardV_ft, cL, Int.reduceLE, Int.reduceLT, Int.reduceAdd, Int.reduceMul, Int.reduceSub, Int.reduceTDiv, Int.reduceTMod, Int.reduceNeg, Int.reduceToNat, Int.reduceGT, Int.reduceGE, Int.reducePow, Nat.reduceAdd, Nat.reduceMul, Nat.reduceSub, Nat.reduceDiv, Nat.reduceMod, Nat.reducePow, Nat.reduceLT, Nat.reduceLeDiff, cJ, Nat.add_assoc, cU, hz, evCode_block, evCode_loop, a81_l0]
  apply key
  simp only [carL, List.cons.injEq, and_true]
  rw [show x0 % 18446744073709551616 = x0 by omega]
  have b0 : x0 / 2251799813685248 < 8192 := by omega
  have hx0 : x0 % 2251799813685248 < 2251799813685248 := by omega
  generalize x0 / 2251799813685248 = c0 at *
  generalize x0 % 2251799813685248 = r0 at *
  rw [show (x1 + c0) % 18446744073709551616 = x1 + c0 by omega]
  have b1 : (x1 + c0) / 2251799813685248 < 8192 := by omega
  generalize (x1 + c0) / 2251799813685248 = c1 at *
  rw [show (x2 + c1) % 18446744073709551616 = x2 + c1 by omega]
  have b2 : (x2 + c1) / 2251799813685248 < 8192 := by omega
  generalize (x2 + c1) / 2251799813685248 = c2 at *
  rw [show (x3 + c2) % 18446744073709551616 = x3 + c2 by omega]
  have b3 : (x3 + c2) / 2251799813685248 < 8192 := by omega
  generalize (x3 + c2) / 2251799813685248 = c3 at *
  rw [show (x4 + c3) % 18446744073709551616 = x4 + c3 by omega]
  have b4 : (x4 + c3) / 2251799813685248 < 8192 := by omega
  generalize (x4 + c3) / 2251799813685248 = c4 at *
  refine ⟨by omega, rfl, rfl, rfl, rfl⟩
end Go.Ev.Ytgacigcbglflkaa
set_option linter.unusedSimpArgs false
set_option linter.unusedVariables false
namespace Go.Ev.Ytgacigcbglflkaa
open Go Go.Ev
attribute [local congr] bind_congr2 ite_congr2 qElse_congr gate_congr guardV_congr
set_option maxRecDepth 100000
theorem mulPoly (B P x0 x1 x2 x3 x4 y0 y1 y2 y3 y4 : Nat) (h : B * B * B * B * B = P + 19) :
  (x0 + B * (x1 + B * (x2 + B * (x3 + B * (x4 + B * 0))))) * (y0 + B * (y1 + B * (y2 + B * (y3 + B * (y4 + B * 0))))) =
   (x0 * y0 + 19 * x1 * y4 + 19 * x2 * y3 + 19 * x3 * y2 + 19 * x4 * y1) + B * ((x0 * y1 + x1 * y0 + 19 * x2 * y4 + 19 * x3 * y3 + 19 * x4 * y2) + B * ((x0 * y2 + x1 * y1 + x2 * y0 + 19 * x3 * y4 + 19 * x4 * y3) + B * ((x0 * y3 + x1 * y2 + x2 * y1 + x3 * y0 + 19 * x4 * y4) + B * (x0 * y4 + x1 * y3 + x2 * y2 + x3 * y1 + x4 * y0)))) +
   (x1 * y4 + x2 * y3 + x3 * y2 + x4 * y1 + B * (x2 * y4 + x3 * y3 + x4 * y2 + B * (x3 * y4 + x4 * y3 + B * (x4 * y4)))) * P := by grind
theorem times_v {x y : Nat} (hx : x < 18446744073709551616) (hy : y < 18446744073709551616) : evVal T 55 [.int .u64 x, .int .u64 y] = some (wV (x * y)) := evVal_ex (times_ev2 hx hy)
theorem wplus_v {n x y : Nat} (hx : x < 18446744073709551616) (hy : y < 18446744073709551616) (hn : n + x * y < 340282366920938463463374607431768211456) : evVal T 56 [wV n, .int .u64 x, .int .u64 y] = some (wV (n + x * y)) := evVal_ex (wplus_ev hx hy hn)
theorem split_v {n : Nat} (hn : n < 41538374868278621028243970633760768) : evVal T 57 [wV n] = some (.tuple #[.int .u64 ((n / 2251799813685248 : Nat) : Int), .int .u64 ((n % 2251799813685248 : Nat) : Int)]) := evVal_ex (split_ev hn)
theorem more_v {n x : Nat} (hn : n + x < 340282366920938463463374607431768211456) (hx : x < 18446744073709551616) : evVal T 58 [wV n, .int .u64 x] = some (wV (n + x)) := evVal_ex (more_ev hn hx)
theorem carried_v {x0 x1 x2 x3 x4 : Nat} (h0 : x0 < 9223372036854775808) (h1 : x1 < 9223372036854775808) (h2 : x2 < 9223372036854775808) (h3 : x3 < 9223372036854775808) (h4 : x4 < 9223372036854775808) : evVal T 59 [eV [x0, x1, x2, x3, x4]] = some (eV (carL x0 x1 x2 x3 x4)) := evVal_ex (carried_ev h0 h1 h2 h3 h4)
theorem five_small {a b c d e : Nat} (ha : a < 2 ^ 109) (hb : b < 2 ^ 109) (hc : c < 2 ^ 109) (hd : d < 2 ^ 109) (he : e < 2 ^ 109) : a + b + c + d + e < 2 ^ 112 := by omega
theorem prod_small {x y : Nat} (hx : x < 2 ^ 57) (hy : y < 2 ^ 52) : x * y < 2 ^ 109 := by
  rw [show (2 : Nat) ^ 109 = 2 ^ 57 * 2 ^ 52 from rfl]
  exact Nat.mul_lt_mul'' hx hy
theorem mul_fin {s0 s1 s2 s3 s4 : Nat} (h0 : s0 < 2 ^ 112) (h1 : s1 < 2 ^ 112) (h2 : s2 < 2 ^ 112) (h3 : s3 < 2 ^ 112) (h4 : s4 < 2 ^ 112) : ∃ r, El r (2 ^ 52) ∧ (∃ k, v51 r + k * Go.Fp.P = s0 + 2251799813685248 * (s1 + 2251799813685248 * (s2 + 2251799813685248 * (s3 + 2251799813685248 * s4)))) ∧
    r = carL ((19 * (s4 / 2251799813685248) + s0 % 2251799813685248) % 2251799813685248) (s1 % 2251799813685248 + s0 / 2251799813685248 + (19 * (s4 / 2251799813685248) + s0 % 2251799813685248) / 2251799813685248) (s2 % 2251799813685248 + s1 / 2251799813685248) (s3 % 2251799813685248 + s2 / 2251799813685248) (s4 % 2251799813685248 + s3 / 2251799813685248) := by
  refine ⟨_, ?_, ?_, rfl⟩
  · simp only [carL]
    apply El.mk5 <;> omega
  · obtain ⟨k, hk⟩ := carL_val (x0 := (19 * (s4 / 2251799813685248) + s0 % 2251799813685248) % 2251799813685248) (x1 := s1 % 2251799813685248 + s0 / 2251799813685248 + (19 * (s4 / 2251799813685248) + s0 % 2251799813685248) / 2251799813685248) (x2 := s2 % 2251799813685248 + s1 / 2251799813685248) (x3 := s3 % 2251799813685248 + s2 / 2251799813685248) (x4 := s4 % 2251799813685248 + s3 / 2251799813685248)
    refine ⟨k + s4 / 2251799813685248, ?_⟩
    rw [Nat.add_mul, ← Nat.add_assoc, hk]
    simp only [v51, num, Go.Fp.P_eq]
    omega
theorem mul_ev {x y : List Nat} (hx : El x (2 ^ 52)) (hy : El y (2 ^ 52)) : ∃ r, evVal T 29 [eV x, eV y] = some (eV r) ∧ El r (2 ^ 52) ∧ fe r = fe x * fe y := by
  obtain ⟨x0, x1, x2, x3, x4, rfl, a0, a1, a2, a3, a4⟩ := hx.five
  obtain ⟨y0, y1, y2, y3, y4, rfl, b0, b1, b2, b3, b4⟩ := hy.five
  have m1 : 19 * x1 % 18446744073709551616 = 19 * x1 := by omega
  have m2 : 19 * x2 % 18446744073709551616 = 19 * x2 := by omega
  have m3 : 19 * x3 % 18446744073709551616 = 19 * x3 := by omega
  have m4 : 19 * x4 % 18446744073709551616 = 19 * x4 := by omega
  have t00 := times_v (x := x0) (y := y0) (by omega) (by omega)
  have p00 : x0 * y0 < 2 ^ 109 := prod_small (by omega) (by omega)
  have p01 : 19 * x1 * y4 < 2 ^ 109 := prod_small (by omega) (by omega)
  have p02 : 19 * x2 * y3 < 2 ^ 109 := prod_small (by omega) (by omega)
  have p03 : 19 * x3 * y2 < 2 ^ 109 := prod_small (by omega) (by omega)
  have p04 : 19 * x4 * y1 < 2 ^ 109 := prod_small (by omega) (by omega)
  have t01 := wplus_v (n := x0 * y0) (x := 19 * x1) (y := y4) (by omega) (by omega) (by omega)
  have t02 := wplus_v (n := x0 * y0 + 19 * x1 * y4) (x := 19 * x2) (y := y3) (by omega) (by omega) (by omega)
  have t03 := wplus_v (n := x0 * y0 + 19 * x1 * y4 + 19 * x2 * y3) (x := 19 * x3) (y := y2) (by omega) (by omega) (by omega)
  have t04 := wplus_v (n := x0 * y0 + 19 * x1 * y4 + 19 * x2 * y3 + 19 * x3 * y2) (x := 19 * x4) (y := y1) (by omega) (by omega) (by omega)
  have q0 := five_small p00 p01 p02 p03 p04
  have t10 := times_v (x := x0) (y := y1) (by omega) (by omega)
  have p10 : x0 * y1 < 2 ^ 109 := prod_small (by omega) (by omega)
  have p11 : x1 * y0 < 2 ^ 109 := prod_small (by omega) (by omega)
  have p12 : 19 * x2 * y4 < 2 ^ 109 := prod_small (by omega) (by omega)
  have p13 : 19 * x3 * y3 < 2 ^ 109 := prod_small (by omega) (by omega)
  have p14 : 19 * x4 * y2 < 2 ^ 109 := prod_small (by omega) (by omega)
  have t11 := wplus_v (n := x0 * y1) (x := x1) (y := y0) (by omega) (by omega) (by omega)
  have t12 := wplus_v (n := x0 * y1 + x1 * y0) (x := 19 * x2) (y := y4) (by omega) (by omega) (by omega)
  have t13 := wplus_v (n := x0 * y1 + x1 * y0 + 19 * x2 * y4) (x := 19 * x3) (y := y3) (by omega) (by omega) (by omega)
  have t14 := wplus_v (n := x0 * y1 + x1 * y0 + 19 * x2 * y4 + 19 * x3 * y3) (x := 19 * x4) (y := y2) (by omega) (by omega) (by omega)
  have q1 := five_small p10 p11 p12 p13 p14
  have t20 := times_v (x := x0) (y := y2) (by omega) (by omega)
  have p20 : x0 * y2 < 2 ^ 109 := prod_small (by omega) (by omega)
  have p21 : x1 * y1 < 2 ^ 109 := prod_small (by omega) (by omega)
  have p22 : x2 * y0 < 2 ^ 109 := prod_small (by omega) (by omega)
  have p23 : 19 * x3 * y4 < 2 ^ 109 := prod_small (by omega) (by omega)
  have p24 : 19 * x4 * y3 < 2 ^ 109 := prod_small (by omega) (by omega)
  have t21 := wplus_v (n := x0 * y2) (x := x1) (y := y1) (by omega) (by omega) (by omega)
  have t22 := wplus_v (n := x0 * y2 + x1 * y1) (x := x2) (y := y0) (by omega) (by omega) (by omega)
  have t23 := wplus_v (n := x0 * y2 + x1 * y1 + x2 * y0) (x := 19 * x3) (y := y4) (by omega) (by omega) (by omega)
  have t24 := wplus_v (n := x0 * y2 + x1 * y1 + x2 * y0 + 19 * x3 * y4) (x := 19 * x4) (y := y3) (by omega) (by omega) (by omega)
  have q2 := five_small p20 p21 p22 p23 p24
  have t30 := times_v (x := x0) (y := y3) (by omega) (by omega)
  have p30 : x0 * y3 < 2 ^ 109 := prod_small (by omega) (by omega)
  have p31 : x1 * y2 < 2 ^ 109 := prod_small (by omega) (by omega)
  have p32 : x2 * y1 < 2 ^ 109 := prod_small (by omega) (by omega)
  have p33 : x3 * y0 < 2 ^ 109 := prod_small (by omega) (by omega)
  have p34 : 19 * x4 * y4 < 2 ^ 109 := prod_small (by omega) (by omega)
  have t31 := wplus_v (n := x0 * y3) (x := x1) (y := y2) (by omega) (by omega) (by omega)
  have t32 := wplus_v (n := x0 * y3 + x1 * y2) (x := x2) (y := y1) (by omega) (by omega) (by omega)
  have t33 := wplus_v (n := x0 * y3 + x1 * y2 + x2 * y1) (x := x3) (y := y0) (by omega) (by omega) (by omega)
  have t34 := wplus_v (n := x0 * y3 + x1 * y2 + x2 * y1 + x3 * y0) (x := 19 * x4) (y := y4) (by omega) (by omega) (by omega)
  have q3 := five_small p30 p31 p32 p33 p34
  have t40 := times_v (x := x0) (y := y4) (by omega) (by omega)
  have p40 : x0 * y4 < 2 ^ 109 := prod_small (by omega) (by omega)
  have p41 : x1 * y3 < 2 ^ 109 := prod_small (by omega) (by omega)
  have p42 : x2 * y2 < 2 ^ 109 := prod_small (by omega) (by omega)
  have p43 : x3 * y1 < 2 ^ 109 := prod_small (by omega) (by omega)
  have p44 : x4 * y0 < 2 ^ 109 := prod_small (by omega) (by omega)
  have t41 := wplus_v (n := x0 * y4) (x := x1) (y := y3) (by omega) (by omega) (by omega)
  have t42 := wplus_v (n := x0 * y4 + x1 * y3) (x := x2) (y := y2) (by omega) (by omega) (by omega)
  have t43 := wplus_v (n := x0 * y4 + x1 * y3 + x2 * y2) (x := x3) (y := y1) (by omega) (by omega) (by omega)
  have t44 := wplus_v (n := x0 * y4 + x1 * y3 + x2 * y2 + x3 * y1) (x := x4) (y := y0) (by omega) (by omega) (by omega)
  have q4 := five_small p40 p41 p42 p43 p44
  obtain ⟨r, hr1, ⟨k, hr2⟩, hr3⟩ := mul_fin q0 q1 q2 q3 q4
  have d0 := split_v (n := x0 * y0 + 19 * x1 * y4 + 19 * x2 * y3 + 19 * x3 * y2 + 19 * x4 * y1) (by omega)
  have d1 := split_v (n := x0 * y1 + x1 * y0 + 19 * x2 * y4 + 19 * x3 * y3 + 19 * x4 * y2) (by omega)
  have d2 := split_v (n := x0 * y2 + x1 * y1 + x2 * y0 + 19 * x3 * y4 + 19 * x4 * y3) (by omega)
  have d3 := split_v (n := x0 * y3 + x1 * y2 + x2 * y1 + x3 * y0 + 19 * x4 * y4) (by omega)
  have d4 := split_v (n := x0 * y4 + x1 * y3 + x2 * y2 + x3 * y1 + x4 * y0) (by omega)
  refine ⟨r, ?_, hr1, ?_⟩
  · rw [hr3]
    clear hr2 hr3
    generalize x0 * y0 + 19 * x1 * y4 + 19 * x2 * y3 + 19 * x3 * y2 + 19 * x4 * y1 = s0 at *
    generalize x0 * y1 + x1 * y0 + 19 * x2 * y4 + 19 * x3 * y3 + 19 * x4 * y2 = s1 at *
    generalize x0 * y2 + x1 * y1 + x2 * y0 + 19 * x3 * y4 + 19 * x4 * y3 = s2 at *
    generalize x0 * y3 + x1 * y2 + x2 * y1 + x3 * y0 + 19 * x4 * y4 = s3 at *
    generalize x0 * y4 + x1 * y3 + x2 * y2 + x3 * y1 + x4 * y0 = s4 at *
    have u1 := times_v (x := 19) (y := s4 / 2251799813685248) (by omega) (by omega)
    have u2 := more_v (n := 19 * (s4 / 2251799813685248)) (x := s0 % 2251799813685248) (by omega) (by omega)
    have u3 := split_v (n := 19 * (s4 / 2251799813685248) + s0 % 2251799813685248) (by omega)
    have w1 : (s1 % 2251799813685248 + s0 / 2251799813685248) % 18446744073709551616 = s1 % 2251799813685248 + s0 / 2251799813685248 := by omega
    have w2 : (s1 % 2251799813685248 + s0 / 2251799813685248 + (19 * (s4 / 2251799813685248) + s0 % 2251799813685248) / 2251799813685248) % 18446744073709551616 = s1 % 2251799813685248 + s0 / 2251799813685248 + (19 * (s4 / 2251799813685248) + s0 % 2251799813685248) / 2251799813685248 := by omega
    have w3 : (s2 % 2251799813685248 + s1 / 2251799813685248) % 18446744073709551616 = s2 % 2251799813685248 + s1 / 2251799813685248 := by omega
    have w4 : (s3 % 2251799813685248 + s2 / 2251799813685248) % 18446744073709551616 = s3 % 2251799813685248 + s2 / 2251799813685248 := by omega
    have w5 : (s4 % 2251799813685248 + s3 / 2251799813685248) % 18446744073709551616 = s4 % 2251799813685248 + s3 / 2251799813685248 := by omega
    have v1 := carried_v (x0 := (19 * (s4 / 2251799813685248) + s0 % 2251799813685248) % 2251799813685248) (x1 := s1 % 2251799813685248 + s0 / 2251799813685248 + (19 * (s4 / 2251799813685248) + s0 % 2251799813685248) / 2251799813685248) (x2 := s2 % 2251799813685248 + s1 / 2251799813685248) (x3 := s3 % 2251799813685248 + s2 / 2251799813685248) (x4 := s4 % 2251799813685248 + s3 / 2251799813685248) (by omega) (by omega) (by omega) (by omega) (by omega)
    simp only [Int.cast_ofNat_Int] at u1
    have hz : List.replicate 5 (Value.int .u64 0) = [.int .u64 0, .int .u64 0, .int .u64 0, .int .u64 0, .int .u64 0] := rfl
    have hf : ∀ a b c d e : Int, fillL [Value.int .u64 0, .int .u64 0, .int .u64 0, .int .u64 0, .int .u64 0] [(0, 1, .int .u64 a), (1, 1, .int .u64 b), (2, 1, .int .u64 c), (3, 1, .int .u64 d), (4, 1, .int .u64 e)] = some [.int .u64 a, .int .u64 b, .int .u64 c, .int .u64 d, .int .u64 e] := fun _ _ _ _ _ => rfl
    have hf5 : ∀ a b c d e : Int, fillL [Value.int .u64 0, .int .u64 0, .int .u64 0, .int .u64 0, .int .u64 0] [(0, 5, .agg [.int .u64 a, .int .u64 b, .int .u64 c, .int .u64 d, .int .u64 e].toArray)] = some [.int .u64 a, .int .u64 b, .int .u64 c, .int .u64 d, .int .u64 e] := fun _ _ _ _ _ => rfl
    have hr5 : ∀ a b c d e : Int, rf (.agg [.int .u64 a, .int .u64 b, .int .u64 c, .int .u64 d, .int .u64 e].toArray) = true := fun _ _ _ _ _ => rfl
    have hw : ∀ n, (wV n).cells.size = 2 := fun _ => rfl
    have hw2 : ∀ n, (wV n).cells.toList = [.int .u64 ((n / 18446744073709551616 : Nat) : Int), .int .u64 ((n % 18446744073709551616 : Nat) : Int)] := fun _ => rfl
    have hw3 : ∀ n, okVar (wV n) = true := fun _ => rfl
    have hw4 : ∀ n, Value.agg [.int .u64 ((n / 18446744073709551616 : Nat) : Int), .int .u64 ((n % 18446744073709551616 : Nat) : Int)].toArray = wV n := fun _ => rfl
    simp only [eV, ns_cons, ns_nil] at v1 ⊢
    generalize hc : ns .u64 (carL ((19 * (s4 / 2251799813685248) + s0 % 2251799813685248) % 2251799813685248) (s1 % 2251799813685248 + s0 / 2251799813685248 + (19 * (s4 / 2251799813685248) + s0 % 2251799813685248) / 2251799813685248) (s2 % 2251799813685248 + s1 / 2251799813685248) (s3 % 2251799813685248 + s2 / 2251799813685248) (s4 % 2251799813685248 + s3 / 2251799813685248)) = C at *
    have hC : C.length = 5 := by rw [← hc]; rfl
    have hCr : rf (.agg C.toArray) = true := by rw [← hc]; exact rf_ns _ _
    apply evVal_ex
    apply Exists.intro
    rw [evFun_fn (fn := a51) rfl]
    simp only [a51, envOf, quiet, cF, ↓pF, reduceCtorEq, Nat.reduceEqDiff, Int.reduceEq, fs_callW, fs_regionP, ↓keepV_some, ↓qElse_some, ↓guardV_tt, ↓guardV_ff, ↓guardV_tf, ↓guardV_ft, cL, Int.reduceLE, Int.reduceLT, Int.reduceAdd, Int.reduceMul, Int.reduceSub, Int.reduceTDiv, Int.reduceTMod, Int.reduceNeg, Int.reduceToNat, Int.reduceGT, Int.reduceGE, Int.reducePow, Nat.reduceAdd, Nat.reduceMul, Nat.reduceSub, Nat.reduceDiv, Nat.reduceMod, Nat.reducePow, Nat.reduceLT, Nat.reduceLeDiff, cJ, cU, hz, m1, m2, m3, m4, t00, t01, t02, t03, t04, t10, t11, t12, t13, t14, t20, t21, t22, t23, t24, t30, t31, t32, t33, t34, t40, t41, t42, t43, t44, d0, d1, d2, d3, d4, u1, u2, u3, w1, w2, w3, w4, w5, hf, hf5, hr5, v1, rf_wV, hw, hw2, hw3, hw4, hC, hCr]
    rfl
  · unfold fe
    rw [← Go.Fp.fp_mul]
    have h := mulPoly 2251799813685248 Go.Fp.P x0 x1 x2 x3 x4 y0 y1 y2 y3 y4 (by rw [Go.Fp.P_eq])
    have e : v51 [x0, x1, x2, x3, x4] * v51 [y0, y1, y2, y3, y4] = v51 r + (k + (x1 * y4 + x2 * y3 + x3 * y2 + x4 * y1 + 2251799813685248 * (x2 * y4 + x3 * y3 + x4 * y2 + 2251799813685248 * (x3 * y4 + x4 * y3 + 2251799813685248 * (x4 * y4))))) * Go.Fp.P := by
      simp only [v51, num] at hr2 h ⊢
      rw [h, ← hr2, Nat.add_assoc, ← Nat.add_mul]
    exact fe_of e.symm
end Go.Ev.Ytgacigcbglflkaa
set_option linter.unusedSimpArgs false
set_option linter.unusedVariables false
namespace Go.Ev.Ytgacigcbglflkaa
open Go Go.Ev
attribute [local congr] bind_congr2 ite_congr2 qElse_congr gate_congr guardV_congr
set_option maxRecDepth 100000
theorem bitOf {V w q s : Nat} (hs : s < w) : V / (2 ^ w) ^ q % 2 ^ w / 2 ^ s % 2 = V / 2 ^ (w * q + s) % 2 := by
  have h1 : (2 : Nat) ^ w = 2 ^ s * 2 ^ (w - s) := by rw [← Nat.pow_add]; congr 1; omega
  conv => lhs; rw [show V / (2 ^ w) ^ q % 2 ^ w = V / (2 ^ w) ^ q % (2 ^ s * 2 ^ (w - s)) from by rw [← h1]]
  have h2 : (2 : Nat) ∣ 2 ^ (w - s) := by
    obtain ⟨m, hm⟩ : ∃ m, w - s = m + 1 := ⟨w - s - 1, by omega⟩
    rw [hm, Nat.pow_succ]
    exact Nat.dvd_mul_left 2 _
  rw [Nat.mod_mul_right_div_self, Nat.mod_mod_of_dvd _ h2, Nat.div_div_eq_div_mul, ← Nat.pow_mul, ← Nat.pow_add]
theorem bit_step (V i : Nat) : V % 2 ^ i + V / 2 ^ i % 2 * 2 ^ i = V % 2 ^ (i + 1) := by
  rw [Nat.mod_pow_succ, Nat.mul_comm (2 ^ i)]
theorem bit_lt (V i : Nat) : V / 2 ^ i % 2 < 2 := Nat.mod_lt _ (by decide)
theorem pow_min {n b : Nat} (h : n ≤ b) : (2 : Int) ^ min n b = ((2 ^ n : Nat) : Int) := by rw [Nat.min_eq_left h]; simp
theorem small_v {n : Nat} (hn : n < 4294967296) : evVal T 28 [.int .u32 n] = some (eV [n, 0, 0, 0, 0]) := by
  have hz : List.replicate 5 (Value.int .u64 0) = [.int .u64 0, .int .u64 0, .int .u64 0, .int .u64 0, .int .u64 0] := rfl
  have hf : ∀ a : Int, fillL [Value.int .u64 0, .int .u64 0, .int .u64 0, .int .u64 0, .int .u64 0] [(0, 1, .int .u64 a)] = some [.int .u64 a, .int .u64 0, .int .u64 0, .int .u64 0, .int .u64 0] := fun _ => rfl
  have hf5 : ∀ a b c d e : Int, fillL [Value.int .u64 0, .int .u64 0, .int .u64 0, .int .u64 0, .int .u64 0] [(0, 5, .agg [.int .u64 a, .int .u64 b, .int .u64 c, .int .u64 d, .int .u64 e].toArray)] = some [.int .u64 a, .int .u64 b, .int .u64 c, .int .u64 d, .int .u64 e] := fun _ _ _ _ _ => rfl
  have hm : n % 18446744073709551616 = n := by omega
  apply evVal_ex
  apply Exists.intro
  rw [evFun_fn (fn := a50) rfl]
  simp only [a50, envOf, quiet, cF, ↓pF, reduceCtorEq, Nat.reduceEqDiff, Int.reduceEq, fs_callW, fs_regionP, ↓keepV_some, ↓qElse_some, ↓guardV_tt, ↓guardV_ff, ↓guardV_tf, ↓guardV_ft, cL, Int.reduceLE, Int.reduceLT, Int.reduceAdd, Int.reduceMul, Int.reduceSub, Int.reduceTDiv, Int.reduceTMod, Int.reduceNeg, Int.reduceToNat, Int.reduceGT, Int.reduceGE, Int.reducePow, Nat.reduceAdd, Nat.reduceMul, Nat.reduceSub, Nat.reduceDiv, Nat.reduceMod, Nat.reducePow, Nat.reduceLT, Nat.reduceLeDiff, cJ, cU, hz, hf, hf5, hm, eV, ns_cons, ns_nil]
  rfl
theorem small_el {n : Nat} (hn : n < 2 ^ 52) : El [n, 0, 0, 0, 0] (2 ^ 52) := El.mk5 hn (by decide) (by decide) (by decide) (by decide)
theorem small_fe (n : Nat) : fe [n, 0, 0, 0, 0] = Go.Fp.fp n := by simp [fe, v51, num]
def ofX (V i : Nat) : List Nat := dig (2 ^ 51) 5 (V % 2 ^ i)
def ofeI (k x : List Nat) (i : Nat) (ex : Env) : St := ⟨[(1, .pointer (some ⟨0, 0, none⟩)), (2, .pointer (some ⟨1, 0, none⟩)), (3, .pointer (some ⟨2, 0, none⟩)), (5, .int .i64 i)] ++ ex, [⟨u8s k, true, true, true, 1⟩, ⟨ns .u64 [0, 0, 0, 0, 0], true, true, true, 1⟩, ⟨ns .u64 x, true, true, true, 1⟩], []⟩
theorem ofe_body {k : List Nat} (lk : k.length = 32) (xk : ∀ x ∈ k, x < 256) {i : Nat} (hi : i < 255) :
    evCode T 0 a49_l0 (ofeI k (ofX (num 256 k) i) i []) = some (.normal, ofeI k (ofX (num 256 k) (i + 1)) (i + 1) []) := by
  obtain ⟨b, hb⟩ : ∃ b, k[i / 8]? = some b := ⟨_, List.getElem?_eq_getElem (by omega)⟩
  have hbv := num_get (B := 256) (by decide) xk hb
  have hbc := u8s_get hb
  have hlen : (ofX (num 256 k) i).length = 5 := dig_len _ _ _
  obtain ⟨y, hy⟩ : ∃ b, (ofX (num 256 k) i)[i / 51]? = some b := ⟨_, List.getElem?_eq_getElem (by omega)⟩
  have hyc := ns_get (k := .u64) hy
  have hy' : y < 2 ^ 51 := dig_lt (by decide) (List.mem_of_getElem? hy)
  have hbit : b / 2 ^ (i % 8) % 2 = num 256 k / 2 ^ i % 2 := by
    rw [← hbv, show (256 : Nat) = 2 ^ 8 from rfl, bitOf (Nat.mod_lt _ (by decide)), Nat.div_add_mod]
  have hput := dig_put (w := 51) (m := 5) (q := i / 51) (s := i % 51) (y := num 256 k / 2 ^ i % 2) (M := num 256 k % 2 ^ i) (by omega) (Nat.mod_lt _ (by decide)) (by rw [Nat.div_add_mod]; exact Nat.mod_lt _ (Nat.pow_pos (by decide))) (by
    have h1 := bit_lt (num 256 k) i
    have h2 : (2 : Nat) ^ (i % 51) ≤ 2 ^ 50 := Nat.pow_le_pow_right (by decide) (by have := Nat.mod_lt i (by decide : 0 < 51); omega)
    have h3 : num 256 k / 2 ^ i % 2 * 2 ^ (i % 51) ≤ 1 * 2 ^ 50 := Nat.mul_le_mul (by omega) h2
    omega)
  rw [Nat.div_add_mod, bit_step] at hput
  have hgd : (dig (2 ^ 51) 5 (num 256 k % 2 ^ i)).getD (i / 51) 0 = y := by rw [List.getD_eq_getElem?_getD]; unfold ofX at hy; rw [hy]; rfl
  rw [hgd] at hput
  have hset := ns_set .u64 (ofX (num 256 k) i) (i / 51) (y ||| num 256 k / 2 ^ i % 2 * 2 ^ (i % 51))
  rw [show (ofX (num 256 k) i).set (i / 51) (y ||| num 256 k / 2 ^ i % 2 * 2 ^ (i % 51)) = ofX (num 256 k) (i + 1) from hput] at hset
  have hbl := bit_lt (num 256 k) i
  have h50 : (2 : Nat) ^ (i % 51) ≤ 2 ^ 50 := Nat.pow_le_pow_right (by decide) (by have := Nat.mod_lt i (by decide : 0 < 51); omega)
  have hprod : num 256 k / 2 ^ i % 2 * 2 ^ (i % 51) ≤ 1 * 2 ^ 50 := Nat.mul_le_mul (by omega) h50
  have s1 : (2 : Int) ^ min (i % 8) IntKind.u8.bits = ((2 ^ (i % 8) : Nat) : Int) := pow_min (Nat.le_of_lt (Nat.mod_lt _ (by decide)))
  have s2 : (2 : Int) ^ min (i % 51) IntKind.u64.bits = ((2 ^ (i % 51) : Nat) : Int) := pow_min (by have := Nat.mod_lt i (by decide : 0 < 51); exact Nat.le_trans (Nat.le_of_lt this) (by decide))
  have o1 : bitsOp .or .u64 (y : Int) ((num 256 k / 2 ^ i % 2 * 2 ^ (i % 51) : Nat) : Int) = ((y ||| num 256 k / 2 ^ i % 2 * 2 ^ (i % 51) : Nat) : Int) := bits_or rfl (by show _ < 18446744073709551616; omega) (by show _ < 18446744073709551616; omega)
  have n1 : (num 256 k / 2 ^ i % 2 * 2 ^ (i % 51)) % 18446744073709551616 = num 256 k / 2 ^ i % 2 * 2 ^ (i % 51) := by omega
  have n2 : (num 256 k / 2 ^ i % 2) % 18446744073709551616 = num 256 k / 2 ^ i % 2 := by omega
  have w1 : IntKind.i64.wrap ((i / 51 : Nat) : Int) = ((i / 51 : Nat) : Int) := wrap_nat (by omega)
  have w2 : IntKind.i64.wrap ((i / 8 : Nat) : Int) = ((i / 8 : Nat) : Int) := wrap_nat (by omega)
  have w3 : IntKind.i64.wrap ((i + 1 : Nat) : Int) = ((i + 1 : Nat) : Int) := wrap_nat (by omega)
  have e1 : ((i : Int) < 255) = True := eq_true (by omega)
  have e2 : (((i / 51 : Nat) : Int) < 5) = True := eq_true (by omega)
  have e3 : (((i / 8 : Nat) : Int) < 32) = True := eq_true (by omega)
  have e4 : (((i % 8 : Nat) : Int) < 0) = False := eq_false (by omega)
  have e5 : (((i % 51 : Nat) : Int) < 0) = False := eq_false (by omega)
  have e6 : i / 51 + 1 ≤ 5 := by omega
  simp only [ofeI, a49_l0, envOf, quiet, cF, ↓pF, reduceCtorEq, Nat.reduceEqDiff, Int.reduceEq, fs_callW, fs_regionP, ↓keepV_some, ↓qElse_some, ↓guardV_tt, ↓guardV_ff, ↓guardV_tf, ↓guardV_ft, cL, Int.reduceLE, Int.reduceLT, Int.reduceAdd, Int.reduceMul, Int.reduceSub, Int.reduceTDiv, Int.reduceTMod, Int.reduceNeg, Int.reduceToNat, Int.reduceGT, Int.reduceGE, Int.reducePow, Nat.reduceAdd, Nat.reduceMul, Nat.reduceSub, Nat.reduceDiv, Nat.reduceMod, Nat.reducePow, Nat.reduceLT, Nat.reduceLeDiff, cJ, cU, hbc, hyc, hbit, s1, s2, o1, n1, n2, w1, w2, w3, e1, e2, e3, e4, e5, e6, hset, ns_len, hlen]
theorem of_v {k : List Nat} (lk : k.length = 32) (xk : ∀ x ∈ k, x < 256) : evVal T 27 [.agg (u8s k).toArray] = some (eV (dig (2 ^ 51) 5 (num 256 k % 2 ^ 255))) := by
  have hz : List.replicate 5 (Value.int .u64 0) = ns .u64 [0, 0, 0, 0, 0] := rfl
  have hb := block_loop (T := T) (base := 0) (id := 0) (body := a49_l0) (fun i => ofeI k (ofX (num 256 k) i) i []) (s' := ofeI k (ofX (num 256 k) 255) 255 [(6, .bool false)]) 255 (fun i hi => ofe_body lk xk hi) (by
    simp only [ofeI, a49_l0, envOf, quiet, cF, ↓pF, reduceCtorEq, Nat.reduceEqDiff, Int.reduceEq, fs_callW, fs_regionP, ↓keepV_some, ↓qElse_some, ↓guardV_tt, ↓guardV_ff, ↓guardV_tf, ↓guardV_ft, cL, Int.reduceLE, Int.reduceLT, Int.reduceAdd, Int.reduceMul, Int.reduceSub, Int.reduceTDiv, Int.reduceTMod, Int.reduceNeg, Int.reduceToNat, Int.reduceGT, Int.reduceGE, Int.reducePow, Nat.reduceAdd, Nat.reduceMul, Nat.reduceSub, Nat.reduceDiv, Nat.reduceMod, Nat.reducePow, Nat.reduceLT, Nat.reduceLeDiff])
  have h0 : ofX (num 256 k) 0 = [0, 0, 0, 0, 0] := by unfold ofX; rw [Nat.pow_zero, Nat.mod_one]; decide
  rw [h0] at hb
  have hlen : (ofX (num 256 k) 255).length = 5 := dig_len _ _ _
  rw [show dig (2 ^ 51) 5 (num 256 k % 2 ^ 255) = ofX (num 256 k) 255 from rfl]
  generalize ofX (num 256 k) 255 = X at *
  simp only [ofeI, List.cons_append, List.nil_append, Int.natCast_zero] at hb
  apply evVal_ex
  apply Exists.intro
  rw [evFun_fn (fn := a49) rfl]
  have hl5 : (ns .u64 [0, 0, 0, 0, 0]).length = 5 := rfl
  simp only [a49, envOf, quiet, cF, ↓pF, reduceCtorEq, Nat.reduceEqDiff, Int.reduceEq, fs_callW, fs_regionP, ↓keepV_some, ↓qElse_some, ↓guardV_tt, ↓guardV_ff, ↓guardV_tf, ↓guardV_ft, cL, Int.reduceLE, Int.reduceLT, Int.reduceAdd, Int.reduceMul, Int.reduceSub, Int.reduceTDiv, Int.reduceTMod, Int.reduceNeg, Int.reduceToNat, Int.reduceGT, Int.reduceGE, Int.reducePow, Nat.reduceAdd, Nat.reduceMul, Nat.reduceSub, Nat.reduceDiv, Nat.reduceMod, Nat.reducePow, Nat.reduceLT, Nat.reduceLeDiff, cJ, hz, hb, ofeI, eV, hl5, ns_len, hlen]
  rfl
theorem of_el {V : Nat} : El (dig (2 ^ 51) 5 V) (2 ^ 52) := ⟨dig_len _ _ _, fun x hx => by have := dig_lt (by decide) hx; omega⟩
theorem of_v51 {V : Nat} : v51 (dig (2 ^ 51) 5 (V % 2 ^ 255)) = V % 2 ^ 255 := by
  have h := num_dig (B := 2 ^ 51) (by decide) 5 (V % 2 ^ 255)
  rw [show ((2 : Nat) ^ 51) ^ 5 = 2 ^ 255 from by rw [← Nat.pow_mul], Nat.mod_mod] at h
  exact h
end Go.Ev.Ytgacigcbglflkaa
set_option linter.unusedSimpArgs false
set_option linter.unusedVariables false
namespace Go.Ev.Ytgacigcbglflkaa
open Go Go.Ev
attribute [local congr] bind_congr2 ite_congr2 qElse_congr gate_congr guardV_congr
set_option maxRecDepth 100000
theorem dm (a b : Nat) : ∃ r, a = b * (a / b) + r ∧ a % b = r ∧ (0 < b → r < b) := ⟨a % b, (Nat.div_add_mod a b).symm, rfl, fun h => Nat.mod_lt _ h⟩
theorem car_twice {x0 x1 x2 x3 x4 : Nat} (h0 : x0 < 9223372036854775808) (h1 : x1 < 9223372036854775808) (h2 : x2 < 9223372036854775808) (h3 : x3 < 9223372036854775808) (h4 : x4 < 9223372036854775808) :
    ∃ y0 y1 y2 y3 y4 z0 z1 z2 z3 z4, carL x0 x1 x2 x3 x4 = [y0, y1, y2, y3, y4] ∧ y0 < 9223372036854775808 ∧ y1 < 9223372036854775808 ∧ y2 < 9223372036854775808 ∧ y3 < 9223372036854775808 ∧ y4 < 9223372036854775808 ∧
      carL y0 y1 y2 y3 y4 = [z0, z1, z2, z3, z4] ∧ z0 < 2251799813685248 + 19 ∧ z1 < 2251799813685248 ∧ z2 < 2251799813685248 ∧ z3 < 2251799813685248 ∧ z4 < 2251799813685248 ∧ (∃ k, v51 [z0, z1, z2, z3, z4] + k * Go.Fp.P = v51 [x0, x1, x2, x3, x4]) := by
  have key : ∀ y0 y1 y2 y3 y4 : Nat, y0 < 2251799813685248 + 19 * 8192 → y1 < 2251799813685248 → y2 < 2251799813685248 → y3 < 2251799813685248 → y4 < 2251799813685248 → carL x0 x1 x2 x3 x4 = [y0, y1, y2, y3, y4] →
      ∃ z0 z1 z2 z3 z4, carL y0 y1 y2 y3 y4 = [z0, z1, z2, z3, z4] ∧ z0 < 2251799813685248 + 19 ∧ z1 < 2251799813685248 ∧ z2 < 2251799813685248 ∧ z3 < 2251799813685248 ∧ z4 < 2251799813685248 ∧ (∃ k, v51 [z0, z1, z2, z3, z4] + k * Go.Fp.P = v51 [x0, x1, x2, x3, x4]) := by
    intro y0 y1 y2 y3 y4 b0 b1 b2 b3 b4 hy
    refine ⟨_, _, _, _, _, rfl, ?_, Nat.mod_lt _ (by decide), Nat.mod_lt _ (by decide), Nat.mod_lt _ (by decide), Nat.mod_lt _ (by decide), ?_⟩
    · have c0 : y0 / 2251799813685248 ≤ 1 := by omega
      have c1 : (y1 + y0 / 2251799813685248) / 2251799813685248 ≤ 1 := by omega
      have c2 : (y2 + (y1 + y0 / 2251799813685248) / 2251799813685248) / 2251799813685248 ≤ 1 := by omega
      have c3 : (y3 + (y2 + (y1 + y0 / 2251799813685248) / 2251799813685248) / 2251799813685248) / 2251799813685248 ≤ 1 := by omega
      generalize (y3 + (y2 + (y1 + y0 / 2251799813685248) / 2251799813685248) / 2251799813685248) / 2251799813685248 = c at *
      rcases Nat.lt_or_ge y0 2251799813685248 with h | h
      · -- nothing carries: each part is below
        have d0 : y0 / 2251799813685248 = 0 := by omega
        have c4 : (y4 + c) / 2251799813685248 ≤ 1 := by omega
        have := Nat.mod_lt y0 (by decide : 0 < 2251799813685248)
        omega
      · have c4 : (y4 + c) / 2251799813685248 ≤ 1 := by omega
        have := Nat.mod_lt y0 (by decide : 0 < 2251799813685248)
        omega
    · obtain ⟨k1, e1⟩ := carL_val (x0 := y0) (x1 := y1) (x2 := y2) (x3 := y3) (x4 := y4)
      obtain ⟨k2, e2⟩ := carL_val (x0 := x0) (x1 := x1) (x2 := x2) (x3 := x3) (x4 := x4)
      rw [hy] at e2
      refine ⟨k1 + k2, ?_⟩
      rw [Nat.add_mul, ← Nat.add_assoc, ← e2, ← e1]
      rfl
  have c0 : x0 / 2251799813685248 < 8192 := by omega
  have c1 : (x1 + x0 / 2251799813685248) / 2251799813685248 < 8192 := by omega
  have c2 : (x2 + (x1 + x0 / 2251799813685248) / 2251799813685248) / 2251799813685248 < 8192 := by omega
  have c3 : (x3 + (x2 + (x1 + x0 / 2251799813685248) / 2251799813685248) / 2251799813685248) / 2251799813685248 < 8192 := by omega
  have c4 : (x4 + (x3 + (x2 + (x1 + x0 / 2251799813685248) / 2251799813685248) / 2251799813685248) / 2251799813685248) / 2251799813685248 < 8192 := by omega
  have m0 := Nat.mod_lt x0 (by decide : 0 < 2251799813685248)
  have m1 := Nat.mod_lt (x1 + x0 / 2251799813685248) (by decide : 0 < 2251799813685248)
  have m2 := Nat.mod_lt (x2 + (x1 + x0 / 2251799813685248) / 2251799813685248) (by decide : 0 < 2251799813685248)
  have m3 := Nat.mod_lt (x3 + (x2 + (x1 + x0 / 2251799813685248) / 2251799813685248) / 2251799813685248) (by decide : 0 < 2251799813685248)
  have m4 := Nat.mod_lt (x4 + (x3 + (x2 + (x1 + x0 / 2251799813685248) / 2251799813685248) / 2251799813685248) / 2251799813685248) (by decide : 0 < 2251799813685248)
  obtain ⟨z0, z1, z2, z3, z4, g1, g2⟩ := key _ _ _ _ _ (by
    generalize (x4 + (x3 + (x2 + (x1 + x0 / 2251799813685248) / 2251799813685248) / 2251799813685248) / 2251799813685248) / 2251799813685248 = c at *
    generalize x0 % 2251799813685248 = r at *
    show r + 19 * c < _
    omega) m1 m2 m3 m4 rfl
  refine ⟨_, _, _, _, _, z0, z1, z2, z3, z4, rfl, ?_, Nat.lt_trans m1 (by decide), Nat.lt_trans m2 (by decide), Nat.lt_trans m3 (by decide), Nat.lt_trans m4 (by decide), g1, g2⟩
  generalize (x4 + (x3 + (x2 + (x1 + x0 / 2251799813685248) / 2251799813685248) / 2251799813685248) / 2251799813685248) / 2251799813685248 = c at *
  generalize x0 % 2251799813685248 = r at *
  show r + 19 * c < _
  omega
def topC (z0 z1 z2 z3 z4 : Nat) : Nat := (z4 + (z3 + (z2 + (z1 + (z0 + 19) / 2251799813685248) / 2251799813685248) / 2251799813685248) / 2251799813685248) / 2251799813685248
def finL (z0 z1 z2 z3 z4 : Nat) : List Nat :=
  let u0 := z0 / 2251799813685248
  let u1 := (z1 + u0) / 2251799813685248
  let u2 := (z2 + u1) / 2251799813685248
  let u3 := (z3 + u2) / 2251799813685248
  [z0 % 2251799813685248, (z1 + u0) % 2251799813685248, (z2 + u1) % 2251799813685248, (z3 + u2) % 2251799813685248, (z4 + u3) % 2251799813685248]
theorem fin_val {z0 z1 z2 z3 z4 : Nat} (h0 : z0 < 2251799813685248 + 19) (h1 : z1 < 2251799813685248) (h2 : z2 < 2251799813685248) (h3 : z3 < 2251799813685248) (h4 : z4 < 2251799813685248) :
    topC z0 z1 z2 z3 z4 ≤ 1 ∧ finL (z0 + 19 * topC z0 z1 z2 z3 z4) z1 z2 z3 z4 = dig (2 ^ 51) 5 (v51 [z0, z1, z2, z3, z4] % Go.Fp.P) := by
  have hc : topC z0 z1 z2 z3 z4 ≤ 1 ∧ ((topC z0 z1 z2 z3 z4 = 0 ∧ v51 [z0, z1, z2, z3, z4] < Go.Fp.P) ∨ (topC z0 z1 z2 z3 z4 = 1 ∧ Go.Fp.P ≤ v51 [z0, z1, z2, z3, z4])) := by
    simp only [topC, v51, num, Go.Fp.P_eq]
    obtain ⟨r0, e0, -, l0⟩ := dm (z0 + 19) 2251799813685248
    generalize (z0 + 19) / 2251799813685248 = t0 at *
    obtain ⟨r1, e1, -, l1⟩ := dm (z1 + t0) 2251799813685248
    generalize (z1 + t0) / 2251799813685248 = t1 at *
    obtain ⟨r2, e2, -, l2⟩ := dm (z2 + t1) 2251799813685248
    generalize (z2 + t1) / 2251799813685248 = t2 at *
    obtain ⟨r3, e3, -, l3⟩ := dm (z3 + t2) 2251799813685248
    generalize (z3 + t2) / 2251799813685248 = t3 at *
    obtain ⟨r4, e4, -, l4⟩ := dm (z4 + t3) 2251799813685248
    generalize (z4 + t3) / 2251799813685248 = t4 at *
    have l0 := l0 (by decide)
    have l1 := l1 (by decide)
    have l2 := l2 (by decide)
    have l3 := l3 (by decide)
    have l4 := l4 (by decide)
    omega
  have hP := Go.Fp.P_eq
  obtain ⟨hc1, hc2⟩ := hc
  refine ⟨hc1, ?_⟩
  generalize topC z0 z1 z2 z3 z4 = c at *
  have hlt : ∀ x ∈ finL (z0 + 19 * c) z1 z2 z3 z4, x < 2251799813685248 := by
    intro x hx
    simp only [finL, List.mem_cons, List.not_mem_nil, or_false] at hx
    rcases hx with h | h | h | h | h <;> (rw [h]; exact Nat.mod_lt _ (by decide))
  have hnum : num 2251799813685248 (finL (z0 + 19 * c) z1 z2 z3 z4) = v51 [z0, z1, z2, z3, z4] % Go.Fp.P := by
    have hV : v51 [z0, z1, z2, z3, z4] % Go.Fp.P = v51 [z0, z1, z2, z3, z4] - c * Go.Fp.P := by
      rcases hc2 with ⟨g1, g2⟩ | ⟨g1, g2⟩
      · rw [Nat.mod_eq_of_lt g2, g1]; omega
      · have g3 : v51 [z0, z1, z2, z3, z4] < Go.Fp.P + Go.Fp.P := by
          simp only [v51, num, Go.Fp.P_eq] at *
          omega
        rw [g1, Nat.one_mul, Nat.mod_eq_sub_mod g2, Nat.mod_eq_of_lt (by omega)]
    rw [hV]
    simp only [finL, v51, num, Go.Fp.P_eq] at hc2 ⊢
    obtain ⟨r0, e0, f0, l0⟩ := dm (z0 + 19 * c) 2251799813685248
    rw [f0]
    generalize (z0 + 19 * c) / 2251799813685248 = t0 at *
    obtain ⟨r1, e1, f1, l1⟩ := dm (z1 + t0) 2251799813685248
    rw [f1]
    generalize (z1 + t0) / 2251799813685248 = t1 at *
    obtain ⟨r2, e2, f2, l2⟩ := dm (z2 + t1) 2251799813685248
    rw [f2]
    generalize (z2 + t1) / 2251799813685248 = t2 at *
    obtain ⟨r3, e3, f3, l3⟩ := dm (z3 + t2) 2251799813685248
    rw [f3]
    generalize (z3 + t2) / 2251799813685248 = t3 at *
    obtain ⟨r4, e4, f4, l4⟩ := dm (z4 + t3) 2251799813685248
    rw [f4]
    generalize (z4 + t3) / 2251799813685248 = t4 at *
    have l0 := l0 (by decide)
    have l1 := l1 (by decide)
    have l2 := l2 (by decide)
    have l3 := l3 (by decide)
    have l4 := l4 (by decide)
    rcases hc2 with ⟨g1, g2⟩ | ⟨g1, g2⟩ <;> subst g1 <;> omega
  have h5 := dig_num (B := 2251799813685248) (by decide) hlt
  rw [hnum] at h5
  exact h5.symm
end Go.Ev.Ytgacigcbglflkaa
set_option linter.unusedSimpArgs false
set_option linter.unusedVariables false
namespace Go.Ev.Ytgacigcbglflkaa
open Go Go.Ev
attribute [local congr] bind_congr2 ite_congr2 qElse_congr gate_congr guardV_congr
set_option maxRecDepth 100000
def byX (V i : Nat) : List Nat := dig (2 ^ 8) 32 (V % 2 ^ i)
def byeI (x k : List Nat) (R : Ob) (i : Nat) (ex : Env) : St := ⟨[(1, .pointer (some ⟨0, 0, none⟩)), (2, .pointer (some ⟨1, 0, none⟩)), (6, .pointer (some ⟨2, 0, none⟩)), (54, .int .i64 i)] ++ ex, [⟨ns .u64 x, true, true, true, 1⟩, R, ⟨u8s k, true, true, true, 1⟩], []⟩
theorem bye_body {V : Nat} {R : Ob} {i : Nat} (hi : i < 255) :
    evCode T 0 a57_l0 (byeI (dig (2 ^ 51) 5 V) (byX V i) R i []) = some (.normal, byeI (dig (2 ^ 51) 5 V) (byX V (i + 1)) R (i + 1) []) := by
  obtain ⟨b, hb⟩ : ∃ b, (dig (2 ^ 51) 5 V)[i / 51]? = some b := ⟨_, List.getElem?_eq_getElem (by rw [dig_len]; omega)⟩
  have hbv : V / (2 ^ 51) ^ (i / 51) % 2 ^ 51 = b := by rw [dig_get (by omega)] at hb; exact Option.some.inj hb
  have hbc := ns_get (k := .u64) hb
  have hlen : (byX V i).length = 32 := dig_len _ _ _
  obtain ⟨y, hy⟩ : ∃ b, (byX V i)[i / 8]? = some b := ⟨_, List.getElem?_eq_getElem (by omega)⟩
  have hyc := u8s_get hy
  have hy' : y < 2 ^ 8 := dig_lt (by decide) (List.mem_of_getElem? hy)
  have hbit : b / 2 ^ (i % 51) % 2 = V / 2 ^ i % 2 := by
    rw [← hbv, bitOf (Nat.mod_lt _ (by decide)), Nat.div_add_mod]
  have hsm : (2 : Nat) ^ (i % 8) ≤ 2 ^ 7 := Nat.pow_le_pow_right (by decide) (by have := Nat.mod_lt i (by decide : 0 < 8); omega)
  have hbl := bit_lt V i
  have hprod : V / 2 ^ i % 2 * 2 ^ (i % 8) ≤ 1 * 2 ^ 7 := Nat.mul_le_mul (by omega) hsm
  have hput := dig_put (w := 8) (m := 32) (q := i / 8) (s := i % 8) (y := V / 2 ^ i % 2) (M := V % 2 ^ i) (by omega) (Nat.mod_lt _ (by decide)) (by rw [Nat.div_add_mod]; exact Nat.mod_lt _ (Nat.pow_pos (by decide))) (by omega)
  rw [Nat.div_add_mod, bit_step] at hput
  have hgd : (dig (2 ^ 8) 32 (V % 2 ^ i)).getD (i / 8) 0 = y := by rw [List.getD_eq_getElem?_getD]; unfold byX at hy; rw [hy]; rfl
  rw [hgd] at hput
  have hset := u8s_set (byX V i) (i / 8) (y ||| V / 2 ^ i % 2 * 2 ^ (i % 8))
  rw [show (byX V i).set (i / 8) (y ||| V / 2 ^ i % 2 * 2 ^ (i % 8)) = byX V (i + 1) from hput] at hset
  have s1 : (2 : Int) ^ min (i % 8) IntKind.u8.bits = ((2 ^ (i % 8) : Nat) : Int) := pow_min (Nat.le_of_lt (Nat.mod_lt _ (by decide)))
  have s2 : (2 : Int) ^ min (i % 51) IntKind.u64.bits = ((2 ^ (i % 51) : Nat) : Int) := pow_min (by have := Nat.mod_lt i (by decide : 0 < 51); exact Nat.le_trans (Nat.le_of_lt this) (by decide))
  have o1 : bitsOp .or .u8 (y : Int) ((V / 2 ^ i % 2 * 2 ^ (i % 8) : Nat) : Int) = ((y ||| V / 2 ^ i % 2 * 2 ^ (i % 8) : Nat) : Int) := bits_or rfl (by show _ < 256; omega) (by show _ < 256; omega)
  have n1 : (V / 2 ^ i % 2 * 2 ^ (i % 8)) % 256 = V / 2 ^ i % 2 * 2 ^ (i % 8) := by omega
  have n2 : (V / 2 ^ i % 2) % 256 = V / 2 ^ i % 2 := by omega
  have w1 : IntKind.i64.wrap ((i / 51 : Nat) : Int) = ((i / 51 : Nat) : Int) := wrap_nat (by omega)
  have w2 : IntKind.i64.wrap ((i / 8 : Nat) : Int) = ((i / 8 : Nat) : Int) := wrap_nat (by omega)
  have w3 : IntKind.i64.wrap ((i + 1 : Nat) : Int) = ((i + 1 : Nat) : Int) := wrap_nat (by omega)
  have e1 : ((i : Int) < 255) = True := eq_true (by omega)
  have e2 : (((i / 51 : Nat) : Int) < 5) = True := eq_true (by omega)
  have e3 : (((i / 8 : Nat) : Int) < 32) = True := eq_true (by omega)
  have e4 : (((i % 8 : Nat) : Int) < 0) = False := eq_false (by omega)
  have e5 : (((i % 51 : Nat) : Int) < 0) = False := eq_false (by omega)
  have e6 : i / 8 + 1 ≤ 32 := by omega
  simp only [byeI, a57_l0, envOf, quiet, cF, ↓pF, reduceCtorEq, Nat.reduceEqDiff, Int.reduceEq, fs_callW, fs_regionP, ↓keepV_some, ↓qElse_some, ↓guardV_tt, ↓guardV_ff, ↓guardV_tf, ↓guardV_ft, cL, Int.reduceLE, Int.reduceLT, Int.reduceAdd, Int.reduceMul, Int.reduceSub, Int.reduceTDiv, Int.reduceTMod, Int.reduceNeg, Int.reduceToNat, Int.reduceGT, Int.reduceGE, Int.reducePow, Nat.reduceAdd, Nat.reduceMul, Nat.reduceSub, Nat.reduceDiv, Nat.reduceMod, Nat.reducePow, Nat.reduceLT, Nat.reduceLeDiff, cJ, cU, hbc, hyc, hbit, s1, s2, o1, n1, n2, w1, w2, w3, e1, e2, e3, e4, e5, e6, hset, u8s_len, hlen]
theorem bye_block {V : Nat} {R : Ob} (hV : V < 2 ^ 255) : evCode T 0 (.block 4 (.loop a57_l0)) (byeI (dig (2 ^ 51) 5 V) (dig 256 32 0) R 0 []) = some (.normal, byeI (dig (2 ^ 51) 5 V) (dig 256 32 V) R 255 [(55, .bool false)]) := by
  have hb := block_loop (T := T) (base := 0) (id := 4) (body := a57_l0) (fun i => byeI (dig (2 ^ 51) 5 V) (byX V i) R i []) (s' := byeI (dig (2 ^ 51) 5 V) (byX V 255) R 255 [(55, .bool false)]) 255 (fun i hi => bye_body hi) (by
    simp only [byeI, a57_l0, envOf, quiet, cF, ↓pF, reduceCtorEq, Nat.reduceEqDiff, Int.reduceEq, fs_callW, fs_regionP, ↓keepV_some, ↓qElse_some, ↓guardV_tt, ↓guardV_ff, ↓guardV_tf, ↓guardV_ft, cL, Int.reduceLE, Int.reduceLT, Int.reduceAdd, Int.reduceMul, Int.reduceSub, Int.reduceTDiv, Int.reduceTMod, Int.reduceNeg, Int.reduceToNat, Int.reduceGT, Int.reduceGE, Int.reducePow, Nat.reduceAdd, Nat.reduceMul, Nat.reduceSub, Nat.reduceDiv, Nat.reduceMod, Nat.reducePow, Nat.reduceLT, Nat.reduceLeDiff])
  rw [show byX V 0 = dig 256 32 0 from by unfold byX; rw [Nat.pow_zero, Nat.mod_one], show byX V 255 = dig 256 32 V from by unfold byX; rw [Nat.mod_eq_of_lt hV]] at hb
  exact hb
theorem bytes_key {x0 x1 x2 x3 x4 : Nat} (h0 : x0 < 9223372036854775808) (h1 : x1 < 9223372036854775808) (h2 : x2 < 9223372036854775808) (h3 : x3 < 9223372036854775808) (h4 : x4 < 9223372036854775808) :
    evVal T 35 [eV [x0, x1, x2, x3, x4]] = some (.agg (u8s (dig 256 32 (v51 [x0, x1, x2, x3, x4] % Go.Fp.P))).toArray) := by
  obtain ⟨y0, y1, y2, y3, y4, z0, z1, z2, z3, z4, hy, a0, a1, a2, a3, a4, hz, b0, b1, b2, b3, b4, ⟨kk, hk⟩⟩ := car_twice h0 h1 h2 h3 h4
  have hV : v51 [x0, x1, x2, x3, x4] % Go.Fp.P = v51 [z0, z1, z2, z3, z4] % Go.Fp.P := by rw [← hk, Nat.add_mul_mod_self_right]
  obtain ⟨hc, hfin⟩ := fin_val b0 b1 b2 b3 b4
  have c1 := carried_v h0 h1 h2 h3 h4
  have c2 := carried_v a0 a1 a2 a3 a4
  rw [hy] at c1
  rw [hz] at c2
  have hN : v51 [z0, z1, z2, z3, z4] % Go.Fp.P < 2 ^ 255 := Nat.lt_trans (Nat.mod_lt _ (by decide)) (by rw [Go.Fp.P_eq]; decide)
  have hb := bye_block (R := ⟨u8s (dig 256 32 0), true, true, true, 1⟩) hN
  rw [hV]
  generalize v51 [z0, z1, z2, z3, z4] % Go.Fp.P = N at *
  have hz5 : List.replicate 5 (Value.int .u64 0) = [.int .u64 0, .int .u64 0, .int .u64 0, .int .u64 0, .int .u64 0] := rfl
  have hz32 : List.replicate 32 (Value.int .u8 0) = u8s (dig 256 32 0) := rfl
  have hr5 : ∀ a b c d e : Int, rf (.agg [.int .u64 a, .int .u64 b, .int .u64 c, .int .u64 d, .int .u64 e].toArray) = true := fun _ _ _ _ _ => rfl
  have hlk : (dig 256 32 N).length = 32 := dig_len _ _ _
  have hl0 : (dig 256 32 0).length = 32 := rfl
  -- the chain of the first loop
  have f0 : (z0 + 19) % 18446744073709551616 = z0 + 19 := by omega
  have f1 : (z1 + (z0 + 19) / 2251799813685248) % 18446744073709551616 = z1 + (z0 + 19) / 2251799813685248 := by omega
  have f2 : (z2 + (z1 + (z0 + 19) / 2251799813685248) / 2251799813685248) % 18446744073709551616 = z2 + (z1 + (z0 + 19) / 2251799813685248) / 2251799813685248 := by
    generalize (z1 + (z0 + 19) / 2251799813685248) = t at *; omega
  have f3 : (z3 + (z2 + (z1 + (z0 + 19) / 2251799813685248) / 2251799813685248) / 2251799813685248) % 18446744073709551616 = z3 + (z2 + (z1 + (z0 + 19) / 2251799813685248) / 2251799813685248) / 2251799813685248 := by
    have : (z2 + (z1 + (z0 + 19) / 2251799813685248) / 2251799813685248) / 2251799813685248 < 2251799813685248 := by omega
    generalize (z2 + (z1 + (z0 + 19) / 2251799813685248) / 2251799813685248) / 2251799813685248 = t at *; omega
  have f4 : (z4 + (z3 + (z2 + (z1 + (z0 + 19) / 2251799813685248) / 2251799813685248) / 2251799813685248) / 2251799813685248) % 18446744073709551616 = z4 + (z3 + (z2 + (z1 + (z0 + 19) / 2251799813685248) / 2251799813685248) / 2251799813685248) / 2251799813685248 := by
    have : (z2 + (z1 + (z0 + 19) / 2251799813685248) / 2251799813685248) / 2251799813685248 < 2251799813685248 := by omega
    generalize (z2 + (z1 + (z0 + 19) / 2251799813685248) / 2251799813685248) / 2251799813685248 = t at *; omega
  have ft : (z4 + (z3 + (z2 + (z1 + (z0 + 19) / 2251799813685248) / 2251799813685248) / 2251799813685248) / 2251799813685248) / 2251799813685248 = topC z0 z1 z2 z3 z4 := rfl
  generalize topC z0 z1 z2 z3 z4 = c at *
  have g0 : 19 * c % 18446744073709551616 = 19 * c := by omega
  have g1 : (z0 + 19 * c) % 18446744073709551616 = z0 + 19 * c := by omega
  have g2 : (z0 + 19 * c + 0) % 18446744073709551616 = z0 + 19 * c := by omega
  have k0 : (z0 + 19 * c) / 2251799813685248 < 8 := by omega
  have g3 : (z1 + (z0 + 19 * c) / 2251799813685248) % 18446744073709551616 = z1 + (z0 + 19 * c) / 2251799813685248 := by omega
  have k1 : (z1 + (z0 + 19 * c) / 2251799813685248) / 2251799813685248 < 8 := by omega
  have g4 : (z2 + (z1 + (z0 + 19 * c) / 2251799813685248) / 2251799813685248) % 18446744073709551616 = z2 + (z1 + (z0 + 19 * c) / 2251799813685248) / 2251799813685248 := by
    generalize (z1 + (z0 + 19 * c) / 2251799813685248) / 2251799813685248 = t at *; omega
  have k2 : (z2 + (z1 + (z0 + 19 * c) / 2251799813685248) / 2251799813685248) / 2251799813685248 < 8 := by
    generalize (z1 + (z0 + 19 * c) / 2251799813685248) / 2251799813685248 = t at *; omega
  have g5 : (z3 + (z2 + (z1 + (z0 + 19 * c) / 2251799813685248) / 2251799813685248) / 2251799813685248) % 18446744073709551616 = z3 + (z2 + (z1 + (z0 + 19 * c) / 2251799813685248) / 2251799813685248) / 2251799813685248 := by
    generalize (z2 + (z1 + (z0 + 19 * c) / 2251799813685248) / 2251799813685248) / 2251799813685248 = t at *; omega
  have k3 : (z3 + (z2 + (z1 + (z0 + 19 * c) / 2251799813685248) / 2251799813685248) / 2251799813685248) / 2251799813685248 < 8 := by
    generalize (z2 + (z1 + (z0 + 19 * c) / 2251799813685248) / 2251799813685248) / 2251799813685248 = t at *; omega
  have g6 : (z4 + (z3 + (z2 + (z1 + (z0 + 19 * c) / 2251799813685248) / 2251799813685248) / 2251799813685248) / 2251799813685248) % 18446744073709551616 = z4 + (z3 + (z2 + (z1 + (z0 + 19 * c) / 2251799813685248) / 2251799813685248) / 2251799813685248) / 2251799813685248 := by
    generalize (z3 + (z2 + (z1 + (z0 + 19 * c) / 2251799813685248) / 2251799813685248) / 2251799813685248) / 2251799813685248 = t at *; omega
  rw [← hfin] at hb
  simp only [eV, ns_cons, ns_nil] at c1 c2 ⊢
  simp only [byeI, finL, ns_cons, ns_nil, List.cons_append, List.nil_append, Int.natCast_zero] at hb
  apply evVal_ex
  apply Exists.intro
  rw [evFun_fn (fn := a57) rfl]
  have u0 := fun s => @evCode_loop T 0 a57_l2 s
  have u1 := fun s => @evCode_loop T 0 a57_l1 s
  have v0 := fun s => @evCode_block T 0 0 (.loop a57_l2) s
  have v1 := fun s => @evCode_block T 0 2 (.loop a57_l1) s
  have d0 : ∀ s, evCode T 0 a57_l2 s = evCode T 0 _ s := fun s => congrArg (fun c => evCode T 0 c s) a57_l2.eq_1
  have d1 : ∀ s, evCode T 0 a57_l1 s = evCode T 0 _ s := fun s => congrArg (fun c => evCode T 0 c s) a57_l1.eq_1
  simp only [a57, envOf, quiet, cF, ↓pF, reduceCtorEq, Nat.reduceEqDiff, Int.reduceEq, fs_callW, fs_regionP, ↓keepV_some, ↓qElse_some, ↓guardV_tt, ↓guardV_ff, ↓guardV_tf, ↓guardV_ft, cL, Int.reduceLE, Int.reduceLT, Int.reduceAdd, Int.reduceMul, Int.reduceSub, Int.reduceTDiv, Int.reduceTMod, Int.reduceNeg, Int.reduceToNat, Int.reduceGT, Int.reduceGE, Int.reducePow, Nat.reduceAdd, Nat.reduceMul, Nat.reduceSub, Nat.reduceDiv, Nat.reduceMod, Nat.reducePow, Nat.reduceLT, Nat.reduceLeDiff, cJ, cU, hz5, hz32, c1, c2, hr5, u0, u1, v0, v1, d0, d1, f0, f1, f2, f3, f4, ft, g0, g1, g2, g3, g4, g5, g6, hb, u8s_len, hlk, hl0]
  rfl
theorem key_inj {a b : Nat} (ha : a < 256 ^ 32) (hb : b < 256 ^ 32) : (dig 256 32 a == dig 256 32 b) = decide (a = b) := by
  by_cases h : a = b
  · subst h; simp
  · have : ¬ dig 256 32 a = dig 256 32 b := fun he => h (by
      have h1 := congrArg (num 256) he
      rwa [num_dig (by decide), num_dig (by decide), Nat.mod_eq_of_lt ha, Nat.mod_eq_of_lt hb] at h1)
    rw [decide_eq_false h, beq_eq_false_iff_ne.2 this]
theorem P_lt : Go.Fp.P < 256 ^ 32 := by rw [Go.Fp.P_eq]; decide
theorem fe_val (l : List Nat) : (fe l).val = v51 l % Go.Fp.P := rfl
theorem bytes_v {l : List Nat} (h : El l (2 ^ 52)) : evVal T 35 [eV l] = some (.agg (u8s (dig 256 32 (fe l).val)).toArray) := by
  obtain ⟨x0, x1, x2, x3, x4, rfl, a0, a1, a2, a3, a4⟩ := h.five
  exact bytes_key (by omega) (by omega) (by omega) (by omega) (by omega)
theorem fe_lt (a : Go.Fp.Fe) : a.val < 256 ^ 32 := Nat.lt_trans a.isLt P_lt
theorem fe_beq (a b : Go.Fp.Fe) : (dig 256 32 a.val == dig 256 32 b.val) = decide (a = b) := by
  rw [key_inj (fe_lt a) (fe_lt b)]
  by_cases h : a = b
  · subst h; simp
  · have : ¬ a.val = b.val := fun he => h (Fin.ext he)
    rw [decide_eq_false h, decide_eq_false this]
theorem eV_cells (l : List Nat) : (eV l).cells.toList = ns .u64 l := rfl
theorem eV_size (l : List Nat) : (eV l).cells.size = l.length := ns_len _ _
theorem eV_ok (l : List Nat) : okVar (eV l) = true := rfl
theorem eV_fold (l : List Nat) : Value.agg (ns .u64 l).toArray = eV l := rfl
theorem eq_v {x y : List Nat} (hx : El x (2 ^ 52)) (hy : El y (2 ^ 52)) : evVal T 65 [eV x, eV y] = some (.bool (decide (fe x = fe y))) := by
  have h1 := bytes_v hx
  have h2 := bytes_v hy
  have l1 := hx.len
  have l2 := hy.len
  apply evVal_ex
  apply Exists.intro
  rw [evFun_fn (fn := a55) rfl]
  simp only [a55, envOf, quiet, cF, ↓pF, reduceCtorEq, Nat.reduceEqDiff, Int.reduceEq, fs_callW, fs_regionP, ↓keepV_some, ↓qElse_some, ↓guardV_tt, ↓guardV_ff, ↓guardV_tf, ↓guardV_ft, cL, Int.reduceLE, Int.reduceLT, Int.reduceAdd, Int.reduceMul, Int.reduceSub, Int.reduceTDiv, Int.reduceTMod, Int.reduceNeg, Int.reduceToNat, Int.reduceGT, Int.reduceGE, Int.reducePow, Nat.reduceAdd, Nat.reduceMul, Nat.reduceSub, Nat.reduceDiv, Nat.reduceMod, Nat.reducePow, Nat.reduceLT, Nat.reduceLeDiff, cJ, eV_cells, eV_size, eV_ok, eV_fold, ns_len, l1, l2, h1, h2, cellsEq_u8, dig_len, fe_beq, rf_eV]
  rfl
theorem isZero_v {x : List Nat} (hx : El x (2 ^ 52)) : evVal T 47 [eV x] = some (.bool (decide (fe x = 0))) := by
  have h1 := bytes_v hx
  have l1 := hx.len
  have f0 : fillL (List.replicate 32 (Value.int .u8 0)) [] = some (u8s (dig 256 32 (0 : Go.Fp.Fe).val)) := rfl
  apply evVal_ex
  apply Exists.intro
  rw [evFun_fn (fn := a63) rfl]
  simp only [a63, envOf, quiet, cF, ↓pF, reduceCtorEq, Nat.reduceEqDiff, Int.reduceEq, fs_callW, fs_regionP, ↓keepV_some, ↓qElse_some, ↓guardV_tt, ↓guardV_ff, ↓guardV_tf, ↓guardV_ft, cL, Int.reduceLE, Int.reduceLT, Int.reduceAdd, Int.reduceMul, Int.reduceSub, Int.reduceTDiv, Int.reduceTMod, Int.reduceNeg, Int.reduceToNat, Int.reduceGT, Int.reduceGE, Int.reducePow, Nat.reduceAdd, Nat.reduceMul, Nat.reduceSub, Nat.reduceDiv, Nat.reduceMod, Nat.reducePow, Nat.reduceLT, Nat.reduceLeDiff, cJ, eV_cells, eV_size, eV_ok, eV_fold, ns_len, l1, h1, f0, cellsEq_u8, dig_len, fe_beq, rf_eV]
  rfl
theorem odd_v {x : List Nat} (hx : El x (2 ^ 52)) : evVal T 36 [eV x] = some (.bool (decide ((fe x).val % 2 = 1))) := by
  have h1 := bytes_v hx
  have l1 := hx.len
  have h0 : (u8s (dig 256 32 (fe x).val))[0]? = some (.int .u8 (((fe x).val % 256 : Nat) : Int)) := by
    apply u8s_get
    rw [dig_get (by decide), Nat.pow_zero, Nat.div_one]
  have hm : (fe x).val % 256 % 2 = (fe x).val % 2 := by omega
  have hd : ((((fe x).val % 2 : Nat) : Int) == 1) = decide ((fe x).val % 2 = 1) := by
    by_cases h : (fe x).val % 2 = 1
    · rw [h]; rfl
    · have : ¬ ((((fe x).val % 2 : Nat) : Int) = 1) := by omega
      rw [decide_eq_false h, beq_eq_false_iff_ne.2 this]
  apply evVal_ex
  apply Exists.intro
  rw [evFun_fn (fn := a58) rfl]
  simp only [a58, envOf, quiet, cF, ↓pF, reduceCtorEq, Nat.reduceEqDiff, Int.reduceEq, fs_callW, fs_regionP, ↓keepV_some, ↓qElse_some, ↓guardV_tt, ↓guardV_ff, ↓guardV_tf, ↓guardV_ft, cL, Int.reduceLE, Int.reduceLT, Int.reduceAdd, Int.reduceMul, Int.reduceSub, Int.reduceTDiv, Int.reduceTMod, Int.reduceNeg, Int.reduceToNat, Int.reduceGT, Int.reduceGE, Int.reducePow, Nat.reduceAdd, Nat.reduceMul, Nat.reduceSub, Nat.reduceDiv, Nat.reduceMod, Nat.reducePow, Nat.reduceLT, Nat.reduceLeDiff, cJ, cU, eV_cells, eV_size, eV_ok, eV_fold, ns_len, l1, h1, h0, hm, hd, u8s_len, dig_len, rf_eV]
  rfl
theorem canonical_v {k : List Nat} (lk : k.length = 32) (xk : ∀ x ∈ k, x < 256) : evVal T 43 [.agg (u8s k).toArray] = some (.bool (decide (num 256 k < Go.Fp.P))) := by
  have h0 := of_v lk xk
  have hel := of_el (V := num 256 k % 2 ^ 255)
  have h1 := bytes_v hel
  rw [fe_val, of_v51] at h1
  have hb : (dig 256 32 (num 256 k % 2 ^ 255 % Go.Fp.P) == k) = decide (num 256 k < Go.Fp.P) := by
    have hk := dig_num (B := 256) (by decide) xk
    rw [lk] at hk
    have hkl := num_lt xk
    rw [lk] at hkl
    rw [show (dig 256 32 (num 256 k % 2 ^ 255 % Go.Fp.P) == k) = (dig 256 32 (num 256 k % 2 ^ 255 % Go.Fp.P) == dig 256 32 (num 256 k)) from by rw [hk]]
    have hP := Go.Fp.P_eq
    rw [key_inj (Nat.lt_trans (Nat.mod_lt _ (by rw [hP]; decide)) P_lt) hkl]
    by_cases h : num 256 k < Go.Fp.P
    · rw [decide_eq_true h, Nat.mod_eq_of_lt (a := num 256 k) (by rw [hP] at h; omega), Nat.mod_eq_of_lt h]; simp
    · rw [decide_eq_false h, decide_eq_false]
      have := Nat.mod_lt (num 256 k % 2 ^ 255) (show 0 < Go.Fp.P by rw [hP]; decide)
      omega
  apply evVal_ex
  apply Exists.intro
  rw [evFun_fn (fn := a59) rfl]
  simp only [a59, envOf, quiet, cF, ↓pF, reduceCtorEq, Nat.reduceEqDiff, Int.reduceEq, fs_callW, fs_regionP, ↓keepV_some, ↓qElse_some, ↓guardV_tt, ↓guardV_ff, ↓guardV_tf, ↓guardV_ft, cL, Int.reduceLE, Int.reduceLT, Int.reduceAdd, Int.reduceMul, Int.reduceSub, Int.reduceTDiv, Int.reduceTMod, Int.reduceNeg, Int.reduceToNat, Int.reduceGT, Int.reduceGE, Int.reducePow, Nat.reduceAdd, Nat.reduceMul, Nat.reduceSub, Nat.reduceDiv, Nat.reduceMod, Nat.reducePow, Nat.reduceLT, Nat.reduceLeDiff, cJ, eV_cells, eV_size, eV_ok, eV_fold, ns_len, u8s_len, lk, h0, h1, cellsEq_u8, dig_len, hb, rf_eV]
  rfl
end Go.Ev.Ytgacigcbglflkaa
set_option linter.unusedSimpArgs false
set_option linter.unusedVariables false
namespace Go.Ev.Ytgacigcbglflkaa
open Go Go.Ev
attribute [local congr] bind_congr2 ite_congr2 qElse_congr gate_congr guardV_congr
set_option maxRecDepth 100000
theorem carL_el {x0 x1 x2 x3 x4 : Nat} (h0 : x0 < 2 ^ 60) (h1 : x1 < 2 ^ 60) (h2 : x2 < 2 ^ 60) (h3 : x3 < 2 ^ 60) (h4 : x4 < 2 ^ 60) : El (carL x0 x1 x2 x3 x4) (2 ^ 52) := by
  simp only [carL]
  have c0 : x0 / 2251799813685248 < 1024 := by omega
  have c1 : (x1 + x0 / 2251799813685248) / 2251799813685248 < 1024 := by omega
  have c2 : (x2 + (x1 + x0 / 2251799813685248) / 2251799813685248) / 2251799813685248 < 1024 := by omega
  have c3 : (x3 + (x2 + (x1 + x0 / 2251799813685248) / 2251799813685248) / 2251799813685248) / 2251799813685248 < 1024 := by omega
  have c4 : (x4 + (x3 + (x2 + (x1 + x0 / 2251799813685248) / 2251799813685248) / 2251799813685248) / 2251799813685248) / 2251799813685248 < 1024 := by omega
  have m0 := Nat.mod_lt x0 (by decide : 0 < 2251799813685248)
  apply El.mk5
  · generalize (x4 + (x3 + (x2 + (x1 + x0 / 2251799813685248) / 2251799813685248) / 2251799813685248) / 2251799813685248) / 2251799813685248 = c at *
    omega
  all_goals exact Nat.lt_trans (Nat.mod_lt _ (by decide)) (by decide)
theorem carL_fe {x0 x1 x2 x3 x4 : Nat} : fe (carL x0 x1 x2 x3 x4) = fe [x0, x1, x2, x3, x4] := by
  obtain ⟨k, hk⟩ := carL_val (x0 := x0) (x1 := x1) (x2 := x2) (x3 := x3) (x4 := x4)
  exact fe_of hk
theorem sub_v {x y : List Nat} (hx : El x (2 ^ 52)) (hy : El y (2 ^ 52)) : ∃ r, evVal T 45 [eV x, eV y] = some (eV r) ∧ El r (2 ^ 52) ∧ fe r = fe x - fe y := by
  obtain ⟨x0, x1, x2, x3, x4, rfl, a0, a1, a2, a3, a4⟩ := hx.five
  obtain ⟨y0, y1, y2, y3, y4, rfl, b0, b1, b2, b3, b4⟩ := hy.five
  refine ⟨carL (x0 + (9007199254740988 - y0) - 72) (x1 + (9007199254740988 - y1)) (x2 + (9007199254740988 - y2)) (x3 + (9007199254740988 - y3)) (x4 + (9007199254740988 - y4)), ?_, carL_el (by omega) (by omega) (by omega) (by omega) (by omega), ?_⟩
  · have s0 : (9007199254740988 + (18446744073709551616 - y0 % 18446744073709551616)) % 18446744073709551616 = 9007199254740988 - y0 := by omega
    have s1 : (9007199254740988 + (18446744073709551616 - y1 % 18446744073709551616)) % 18446744073709551616 = 9007199254740988 - y1 := by omega
    have s2 : (9007199254740988 + (18446744073709551616 - y2 % 18446744073709551616)) % 18446744073709551616 = 9007199254740988 - y2 := by omega
    have s3 : (9007199254740988 + (18446744073709551616 - y3 % 18446744073709551616)) % 18446744073709551616 = 9007199254740988 - y3 := by omega
    have s4 : (9007199254740988 + (18446744073709551616 - y4 % 18446744073709551616)) % 18446744073709551616 = 9007199254740988 - y4 := by omega
    have t0 : (x0 + (9007199254740988 - y0)) % 18446744073709551616 = x0 + (9007199254740988 - y0) := by omega
    have t1 : (x1 + (9007199254740988 - y1)) % 18446744073709551616 = x1 + (9007199254740988 - y1) := by omega
    have t2 : (x2 + (9007199254740988 - y2)) % 18446744073709551616 = x2 + (9007199254740988 - y2) := by omega
    have t3 : (x3 + (9007199254740988 - y3)) % 18446744073709551616 = x3 + (9007199254740988 - y3) := by omega
    have t4 : (x4 + (9007199254740988 - y4)) % 18446744073709551616 = x4 + (9007199254740988 - y4) := by omega
    have r0 : (x0 + (9007199254740988 - y0) + 18446744073709551544) % 18446744073709551616 = x0 + (9007199254740988 - y0) - 72 := by omega
    have c1 := carried_v (x0 := x0 + (9007199254740988 - y0) - 72) (x1 := x1 + (9007199254740988 - y1)) (x2 := x2 + (9007199254740988 - y2)) (x3 := x3 + (9007199254740988 - y3)) (x4 := x4 + (9007199254740988 - y4)) (by omega) (by omega) (by omega) (by omega) (by omega)
    have hl : (carL (x0 + (9007199254740988 - y0) - 72) (x1 + (9007199254740988 - y1)) (x2 + (9007199254740988 - y2)) (x3 + (9007199254740988 - y3)) (x4 + (9007199254740988 - y4))).length = 5 := rfl
    generalize carL (x0 + (9007199254740988 - y0) - 72) (x1 + (9007199254740988 - y1)) (x2 + (9007199254740988 - y2)) (x3 + (9007199254740988 - y3)) (x4 + (9007199254740988 - y4)) = C at *
    have hz5 : List.replicate 5 (Value.int .u64 0) = [.int .u64 0, .int .u64 0, .int .u64 0, .int .u64 0, .int .u64 0] := rfl
    have hr5 : ∀ a b c d e : Int, rf (.agg [.int .u64 a, .int .u64 b, .int .u64 c, .int .u64 d, .int .u64 e].toArray) = true := fun _ _ _ _ _ => rfl
    have u0 := fun s => @evCode_loop T 0 a61_l0 s
    have v0 := fun s => @evCode_block T 0 0 (.loop a61_l0) s
    have d0 : ∀ s, evCode T 0 a61_l0 s = evCode T 0 _ s := fun s => congrArg (fun c => evCode T 0 c s) a61_l0.eq_1
    have hrC : rf (.agg (ns .u64 C).toArray) = true := rf_ns _ _
    simp only [eV, ns_cons, ns_nil] at c1 ⊢
    apply evVal_ex
    apply Exists.intro
    rw [evFun_fn (fn := a61) rfl]
    simp only [a61, envOf, quiet, cF, ↓pF, reduceCtorEq, Nat.reduceEqDiff, Int.reduceEq, fs_callW, fs_regionP, ↓keepV_some, ↓qElse_some, ↓guardV_tt, ↓guardV_ff, ↓guardV_tf, ↓guardV_ft, cL, Int.reduceLE, Int.reduceLT, Int.reduceAdd, Int.reduceMul, Int.reduceSub, Int.reduceTDiv, Int.reduceTMod, Int.reduceNeg, Int.reduceToNat, Int.reduceGT, Int.reduceGE, Int.reducePow, Nat.reduceAdd, Nat.reduceMul, Nat.reduceSub, Nat.reduceDiv, Nat.reduceMod, Nat.reducePow, Nat.reduceLT, Nat.reduceLeDiff, cJ, cU, hz5, c1, hr5, u0, v0, d0, s0, s1, s2, s3, s4, t0, t1, t2, t3, t4, r0, ns_len, hl, hrC]
    rfl
  · rw [carL_fe]
    have e : v51 [x0 + (9007199254740988 - y0) - 72, x1 + (9007199254740988 - y1), x2 + (9007199254740988 - y2), x3 + (9007199254740988 - y3), x4 + (9007199254740988 - y4)] + v51 [y0, y1, y2, y3, y4] = v51 [x0, x1, x2, x3, x4] + 4 * Go.Fp.P := by
      simp only [v51, num, Go.Fp.P_eq]
      omega
    have h := congrArg Go.Fp.fp e
    rw [Go.Fp.fp_add, Go.Fp.fp_add, Go.Fp.fp_mulP] at h
    unfold fe
    grobner
theorem neg_v {x : List Nat} (hx : El x (2 ^ 52)) : ∃ r, evVal T 48 [eV x] = some (eV r) ∧ El r (2 ^ 52) ∧ fe r = -fe x := by
  have hz := small_el (n := 0) (by decide)
  obtain ⟨r, h1, h2, h3⟩ := sub_v hz hx
  refine ⟨r, ?_, h2, ?_⟩
  · have f0 : fillL (ns .u64 [0, 0, 0, 0, 0]) [] = some (ns .u64 [0, 0, 0, 0, 0]) := rfl
    have hz5 : List.replicate 5 (Value.int .u64 0) = ns .u64 [0, 0, 0, 0, 0] := rfl
    have l1 := hx.len
    have l2 := h2.len
    have l0 : (ns .u64 [0, 0, 0, 0, 0]).length = 5 := rfl
    apply evVal_ex
    apply Exists.intro
    rw [evFun_fn (fn := a64) rfl]
    simp only [a64, envOf, quiet, cF, ↓pF, reduceCtorEq, Nat.reduceEqDiff, Int.reduceEq, fs_callW, fs_regionP, ↓keepV_some, ↓qElse_some, ↓guardV_tt, ↓guardV_ff, ↓guardV_tf, ↓guardV_ft, cL, Int.reduceLE, Int.reduceLT, Int.reduceAdd, Int.reduceMul, Int.reduceSub, Int.reduceTDiv, Int.reduceTMod, Int.reduceNeg, Int.reduceToNat, Int.reduceGT, Int.reduceGE, Int.reducePow, Nat.reduceAdd, Nat.reduceMul, Nat.reduceSub, Nat.reduceDiv, Nat.reduceMod, Nat.reducePow, Nat.reduceLT, Nat.reduceLeDiff, cJ, f0, hz5, h1, eV_cells, eV_size, eV_ok, eV_fold, ns_len, l0, l1, l2, rf_eV]
    rfl
  · rw [h3, small_fe, Go.Fp.fp_zero]; grobner
def two_el (x y : List Nat) : Ob := ⟨ns .u64 (x ++ y), true, true, true, 1⟩
set_option maxHeartbeats 2000000 in
theorem add2_ev {H : List Ob} {id : Nat} {x y : List Nat} (hx : El x (2 ^ 52)) (hy : El y (2 ^ 52)) (h : H[id]? = some (two_el x y)) : ∃ r s, evFun T 46 [.slice (some ⟨id, 0, none⟩) 2 2] H = some (eV r, H ++ [⟨ns .u64 r, true, true, true, 1⟩, ⟨ns .u64 s, true, true, true, 1⟩, ⟨ns .u64 x, true, true, true, 1⟩, ⟨ns .u64 y, true, true, true, 1⟩], []) ∧ El r (2 ^ 52) ∧ fe r = fe x + fe y := by
  have hid : id < H.length := (List.getElem?_eq_some_iff.1 h).1
  have hA : ∀ l, (H ++ l)[id]? = some (two_el x y) := fun l => by rw [List.getElem?_append_left hid]; exact h
  obtain ⟨x0, x1, x2, x3, x4, rfl, a0, a1, a2, a3, a4⟩ := hx.five
  obtain ⟨y0, y1, y2, y3, y4, rfl, b0, b1, b2, b3, b4⟩ := hy.five
  refine ⟨carL (x0 + y0) (x1 + y1) (x2 + y2) (x3 + y3) (x4 + y4), [x0 + y0, x1 + y1, x2 + y2, x3 + y3, x4 + y4], ?_, carL_el (by omega) (by omega) (by omega) (by omega) (by omega), ?_⟩
  · have s0 : (0 + x0) % 18446744073709551616 = x0 := by omega
    have s1 : (0 + x1) % 18446744073709551616 = x1 := by omega
    have s2 : (0 + x2) % 18446744073709551616 = x2 := by omega
    have s3 : (0 + x3) % 18446744073709551616 = x3 := by omega
    have s4 : (0 + x4) % 18446744073709551616 = x4 := by omega
    have q0 : x0 % 18446744073709551616 = x0 := by omega
    have q1 : x1 % 18446744073709551616 = x1 := by omega
    have q2 : x2 % 18446744073709551616 = x2 := by omega
    have q3 : x3 % 18446744073709551616 = x3 := by omega
    have q4 : x4 % 18446744073709551616 = x4 := by omega
    have t0 : (x0 + y0) % 18446744073709551616 = x0 + y0 := by omega
    have t1 : (x1 + y1) % 18446744073709551616 = x1 + y1 := by omega
    have t2 : (x2 + y2) % 18446744073709551616 = x2 + y2 := by omega
    have t3 : (x3 + y3) % 18446744073709551616 = x3 + y3 := by omega
    have t4 : (x4 + y4) % 18446744073709551616 = x4 + y4 := by omega
    have c1 := carried_v (x0 := x0 + y0) (x1 := x1 + y1) (x2 := x2 + y2) (x3 := x3 + y3) (x4 := x4 + y4) (by omega) (by omega) (by omega) (by omega) (by omega)
    have hl : (carL (x0 + y0) (x1 + y1) (x2 + y2) (x3 + y3) (x4 + y4)).length = 5 := rfl
    generalize carL (x0 + y0) (x1 + y1) (x2 + y2) (x3 + y3) (x4 + y4) = C at *
    have hz5 : List.replicate 5 (Value.int .u64 0) = [.int .u64 0, .int .u64 0, .int .u64 0, .int .u64 0, .int .u64 0] := rfl
    have hr5 : ∀ a b c d e : Int, rf (.agg [.int .u64 a, .int .u64 b, .int .u64 c, .int .u64 d, .int .u64 e].toArray) = true := fun _ _ _ _ _ => rfl
    have u0 := fun s => @evCode_loop T H.length a62_l0 s
    have v0 := fun s => @evCode_block T H.length 2 (.loop a62_l0) s
    have d0 : ∀ s, evCode T H.length a62_l0 s = evCode T H.length _ s := fun s => congrArg (fun c => evCode T H.length c s) a62_l0.eq_1
    have u1 := fun s => @evCode_loop T H.length a62_l1 s
    have v1 := fun s => @evCode_block T H.length 0 (.loop a62_l1) s
    have d1 : ∀ s, evCode T H.length a62_l1 s = evCode T H.length _ s := fun s => congrArg (fun c => evCode T H.length c s) a62_l1.eq_1
    have hrC : rf (.agg (ns .u64 C).toArray) = true := rf_ns _ _
    have p1 : ∀ a b c d e f g i j k : Value, List.take 5 (List.drop 0 [a, b, c, d, e, f, g, i, j, k]) = [a, b, c, d, e] := fun _ _ _ _ _ _ _ _ _ _ => rfl
    have p2 : ∀ a b c d e f g i j k : Value, List.take 5 (List.drop 5 [a, b, c, d, e, f, g, i, j, k]) = [f, g, i, j, k] := fun _ _ _ _ _ _ _ _ _ _ => rfl
    simp only [eV, ns_cons, ns_nil] at c1 ⊢
    simp only [two_el, List.cons_append, List.nil_append, ns_cons, ns_nil] at hA h
    rw [evFun_fn (fn := a62) rfl]
    simp only [a62, Int.reduceBEq, Int.reduceBNe, envOf, quiet, cF, ↓pF, reduceCtorEq, Nat.reduceEqDiff, Int.reduceEq, fs_callW, fs_regionP, ↓keepV_some, ↓qElse_some, ↓guardV_tt, ↓guardV_ff, ↓guardV_tf, ↓guardV_ft, cL, Int.reduceLE, Int.reduceLT, Int.reduceAdd, Int.reduceMul, Int.reduceSub, Int.reduceTDiv, Int.reduceTMod, Int.reduceNeg, Int.reduceToNat, Int.reduceGT, Int.reduceGE, Int.reducePow, Nat.reduceAdd, Nat.reduceMul, Nat.reduceSub, Nat.reduceDiv, Nat.reduceMod, Nat.reducePow, Nat.reduceLT, Nat.reduceLeDiff, cJ, cU, h, hA, hz5, c1, hr5, u0, v0, d0, u1, v1, d1, p1, p2, s0, s1, s2, s3, s4, q0, q1, q2, q3, q4, t0, t1, t2, t3, t4, ns_len, hl, hrC]
  · rw [carL_fe]
    have e : v51 [x0 + y0, x1 + y1, x2 + y2, x3 + y3, x4 + y4] = v51 [x0, x1, x2, x3, x4] + v51 [y0, y1, y2, y3, y4] := by
      simp only [v51, num]
      omega
    unfold fe
    rw [e, Go.Fp.fp_add]
end Go.Ev.Ytgacigcbglflkaa
set_option linter.unusedSimpArgs false
set_option linter.unusedVariables false
namespace Go.Ev.Ytgacigcbglflkaa
open Go Go.Ev
attribute [local congr] bind_congr2 ite_congr2 qElse_congr gate_congr guardV_congr
set_option maxRecDepth 100000
theorem part5 {a b c : List Nat} {n : Nat} (hb : b.length = 5) (ha : a.length = n) : List.take 5 (List.drop n (ns .u64 (a ++ (b ++ c)))) = ns .u64 b := by
  simp only [ns_append]
  rw [List.drop_append_of_le_length (by rw [ns_len]; omega), List.drop_of_length_le (by rw [ns_len]; omega), List.nil_append, List.take_append_of_le_length (by rw [ns_len]; omega), List.take_of_length_le (by rw [ns_len]; omega)]
theorem prod_body {H : List Ob} {l : List Ob} {id n i : Nat} {o x r R : List Nat} {cs : List Value} {g : List Ob} (hi : i < n) (hn : n < 100) (hx : El x (2 ^ 52)) (ho : El o (2 ^ 52)) (hm : evVal T 29 [eV o, eV x] = some (eV r)) (hr : El r (2 ^ 52))
    (hA : ∀ l, (H ++ l)[id]? = some ⟨cs, true, true, true, 1⟩) (hcs : (cs.drop (i * 5)).take 5 = ns .u64 x) (hlen : i * 5 + 5 ≤ cs.length) :
    evCode T H.length a82_l0 ⟨[(2, .pointer (some ⟨H.length, 0, none⟩)), (3, .pointer (some ⟨H.length + 1, 0, none⟩)), (7, .slice (some ⟨id, 0, none⟩) n n), (8, .int .i64 n), (9, .int .i64 i)], H ++ (⟨ns .u64 R, true, true, true, 1⟩ :: ⟨ns .u64 o, true, true, true, 1⟩ :: g), []⟩ =
      some (.normal, ⟨[(2, .pointer (some ⟨H.length, 0, none⟩)), (3, .pointer (some ⟨H.length + 1, 0, none⟩)), (7, .slice (some ⟨id, 0, none⟩) n n), (8, .int .i64 n), (9, .int .i64 ((i + 1 : Nat) : Int))], H ++ (⟨ns .u64 R, true, true, true, 1⟩ :: ⟨ns .u64 r, true, true, true, 1⟩ :: (g ++ [⟨ns .u64 x, true, true, true, 1⟩])), []⟩) := by
  have hz5 : List.replicate 5 (Value.int .u64 0) = ns .u64 [0, 0, 0, 0, 0] := rfl
  have l0 : (ns .u64 [0, 0, 0, 0, 0]).length = 5 := rfl
  have l1 := hx.len
  have l2 := ho.len
  have l3 := hr.len
  have e1 : ((i : Int) < (n : Int)) = True := eq_true (by omega)
  have w3 : IntKind.i64.wrap ((i : Int) + 1) = ((i + 1 : Nat) : Int) := wrap_nat (n := i + 1) (by omega)
  simp only [a82_l0, envOf, quiet, cF, ↓pF, reduceCtorEq, Nat.reduceEqDiff, Int.reduceEq, fs_callW, fs_regionP, ↓keepV_some, ↓qElse_some, ↓guardV_tt, ↓guardV_ff, ↓guardV_tf, ↓guardV_ft, cL, Int.reduceLE, Int.reduceLT, Int.reduceAdd, Int.reduceMul, Int.reduceSub, Int.reduceTDiv, Int.reduceTMod, Int.reduceNeg, Int.reduceToNat, Int.reduceGT, Int.reduceGE, Int.reducePow, Nat.reduceAdd, Nat.reduceMul, Nat.reduceSub, Nat.reduceDiv, Nat.reduceMod, Nat.reducePow, Nat.reduceLT, Nat.reduceLeDiff, cJ, Nat.add_assoc, hz5, hA, hcs, hlen, hm, eV_cells, eV_size, eV_ok, eV_fold, ns_len, l0, l1, l2, l3, rf_eV, e1, w3]
theorem one_fe : fe [1, 0, 0, 0, 0] = 1 := by rw [small_fe]; rfl
theorem one_el : El [1, 0, 0, 0, 0] (2 ^ 52) := small_el (by decide)
theorem prod_ev {H : List Ob} {id n : Nat} {xs : List (List Nat)} (hn : xs.length = n) (hN : n < 100) (hx : ∀ x ∈ xs, El x (2 ^ 52)) (h : H[id]? = some ⟨ns .u64 xs.flatten, true, true, true, 1⟩) :
    ∃ r, evFun T 60 [.slice (some ⟨id, 0, none⟩) n n] H = some (eV r, H ++ (⟨ns .u64 r, true, true, true, 1⟩ :: ⟨ns .u64 r, true, true, true, 1⟩ :: xs.map fun x => (⟨ns .u64 x, true, true, true, 1⟩ : Ob)), []) ∧ El r (2 ^ 52) ∧ fe r = (xs.map fe).foldl (· * ·) 1 := by
  have hid : id < H.length := (List.getElem?_eq_some_iff.1 h).1
  have hA : ∀ l, (H ++ l)[id]? = some ⟨ns .u64 xs.flatten, true, true, true, 1⟩ := fun l => by rw [List.getElem?_append_left hid]; exact h
  have hfl : ∀ (ys : List (List Nat)), (∀ x ∈ ys, El x (2 ^ 52)) → ys.flatten.length = ys.length * 5 := by
    intro ys hy
    induction ys with
    | nil => rfl
    | cons y ys ih =>
      rw [List.flatten_cons, List.length_append, ih (fun x hx => hy x (by simp [hx])), (hy y (by simp)).len, List.length_cons]; omega
  obtain ⟨st, hb, r, rfl, hr1, hr2⟩ := block_inv (T := T) (base := H.length) (id := 0) (body := a82_l0)
    (fun i st => ∃ r : List Nat, st = ⟨[(2, .pointer (some ⟨H.length, 0, none⟩)), (3, .pointer (some ⟨H.length + 1, 0, none⟩)), (7, .slice (some ⟨id, 0, none⟩) n n), (8, .int .i64 n), (9, .int .i64 (i : Nat))], H ++ (⟨ns .u64 [0, 0, 0, 0, 0], true, true, true, 1⟩ :: ⟨ns .u64 r, true, true, true, 1⟩ :: ((xs.take i).map fun x => (⟨ns .u64 x, true, true, true, 1⟩ : Ob))), []⟩ ∧ El r (2 ^ 52) ∧ fe r = ((xs.take i).map fe).foldl (· * ·) 1)
    (Q := fun st => ∃ r : List Nat, st = ⟨[(2, .pointer (some ⟨H.length, 0, none⟩)), (3, .pointer (some ⟨H.length + 1, 0, none⟩)), (7, .slice (some ⟨id, 0, none⟩) n n), (8, .int .i64 n), (9, .int .i64 n), (10, .bool false)], H ++ (⟨ns .u64 [0, 0, 0, 0, 0], true, true, true, 1⟩ :: ⟨ns .u64 r, true, true, true, 1⟩ :: (xs.map fun x => (⟨ns .u64 x, true, true, true, 1⟩ : Ob))), []⟩ ∧ El r (2 ^ 52) ∧ fe r = (xs.map fe).foldl (· * ·) 1)
    n (s := ⟨[(2, .pointer (some ⟨H.length, 0, none⟩)), (3, .pointer (some ⟨H.length + 1, 0, none⟩)), (7, .slice (some ⟨id, 0, none⟩) n n), (8, .int .i64 n), (9, .int .i64 0)], H ++ [⟨ns .u64 [0, 0, 0, 0, 0], true, true, true, 1⟩, ⟨ns .u64 [1, 0, 0, 0, 0], true, true, true, 1⟩], []⟩) ⟨[1, 0, 0, 0, 0], rfl, one_el, one_fe⟩
    (fun i st hi hs => by
      obtain ⟨r, rfl, hr1, hr2⟩ := hs
      obtain ⟨x, hxi⟩ : ∃ y, xs[i]? = some y := ⟨_, List.getElem?_eq_getElem (by omega)⟩
      have hxe := hx x (List.mem_of_getElem? hxi)
      obtain ⟨r', hm, g1, g2⟩ := mul_ev hr1 hxe
      have hsplit : xs = xs.take i ++ x :: xs.drop (i + 1) := by
        have h1 := List.getElem?_eq_some_iff.1 hxi
        conv => lhs; rw [← List.take_append_drop i xs, List.drop_eq_getElem_cons h1.1, h1.2]
      have htl : (xs.take i).flatten.length = i * 5 := by
        rw [hfl _ (fun y hy => hx y (List.mem_of_mem_take hy)), List.length_take, Nat.min_eq_left (by omega)]
      have hcs : ((ns .u64 xs.flatten).drop (i * 5)).take 5 = ns .u64 x := by
        conv => lhs; rw [hsplit, List.flatten_append, List.flatten_cons]
        exact part5 hxe.len htl
      have hb := prod_body (R := [0, 0, 0, 0, 0]) (g := (xs.take i).map fun x => (⟨ns .u64 x, true, true, true, 1⟩ : Ob)) (l := []) hi hN hxe hr1 hm g1 hA hcs (by rw [ns_len, hfl xs hx, hn]; omega)
      have htk : xs.take (i + 1) = xs.take i ++ [x] := by rw [List.take_add_one, hxi]; rfl
      refine ⟨_, hb, r', ?_, g1, ?_⟩
      · rw [htk, List.map_append]; rfl
      · rw [htk, List.map_append, List.foldl_append, ← hr2, g2]; rfl)
    (fun st hs => by
      obtain ⟨r, rfl, hr1, hr2⟩ := hs
      have e1 : ((n : Int) < (n : Int)) = False := eq_false (by omega)
      have ht : xs.take n = xs := List.take_of_length_le (by omega)
      rw [ht] at hr2 ⊢
      refine ⟨_, ?_, r, rfl, hr1, hr2⟩
      simp only [a82_l0, envOf, quiet, cF, ↓pF, reduceCtorEq, Nat.reduceEqDiff, Int.reduceEq, fs_callW, fs_regionP, ↓keepV_some, ↓qElse_some, ↓guardV_tt, ↓guardV_ff, ↓guardV_tf, ↓guardV_ft, cL, Int.reduceLE, Int.reduceLT, Int.reduceAdd, Int.reduceMul, Int.reduceSub, Int.reduceTDiv, Int.reduceTMod, Int.reduceNeg, Int.reduceToNat, Int.reduceGT, Int.reduceGE, Int.reducePow, Nat.reduceAdd, Nat.reduceMul, Nat.reduceSub, Nat.reduceDiv, Nat.reduceMod, Nat.reducePow, Nat.reduceLT, Nat.reduceLeDiff, e1])
  refine ⟨r, ?_, hr1, hr2⟩
  have hz5 : List.replicate 5 (Value.int .u64 0) = ns .u64 [0, 0, 0, 0, 0] := rfl
  have l0 : (ns .u64 [0, 0, 0, 0, 0]).length = 5 := rfl
  have l1 := hr1.len
  have hs := small_v (n := 1) (by decide)
  have l2 : ([1, 0, 0, 0, 0] : List Nat).length = 5 := rfl
  simp only [Int.natCast_one] at hs
  rw [evFun_fn (fn := a82) rfl]
  simp only [a82, envOf, quiet, cF, ↓pF, reduceCtorEq, Nat.reduceEqDiff, Int.reduceEq, fs_callW, fs_regionP, ↓keepV_some, ↓qElse_some, ↓guardV_tt, ↓guardV_ff, ↓guardV_tf, ↓guardV_ft, cL, Int.reduceLE, Int.reduceLT, Int.reduceAdd, Int.reduceMul, Int.reduceSub, Int.reduceTDiv, Int.reduceTMod, Int.reduceNeg, Int.reduceToNat, Int.reduceGT, Int.reduceGE, Int.reducePow, Nat.reduceAdd, Nat.reduceMul, Nat.reduceSub, Nat.reduceDiv, Nat.reduceMod, Nat.reducePow, Nat.reduceLT, Nat.reduceLeDiff, cJ, Nat.add_assoc, hz5, hs, hb, eV_cells, eV_size, eV_ok, eV_fold, ns_len, l0, l1, l2, rf_eV]
end Go.Ev.Ytgacigcbglflkaa

/-
  scalar.mod: its two inner loops.
-/
import Derived.Test.YtaceeoghjgggjaaSW4
set_option linter.unusedSimpArgs false
set_option linter.unusedVariables false
namespace Go.Ev.Ytaceeoghjgggjaa
open Go Go.Ev
attribute [local congr] bind_congr1
set_option maxRecDepth 100000

/-- 2^252 + .. : the order. -/
def ell : Nat := 7237005577332262213973186563042994240857116359379907606001950938285454250989
theorem ell_num : num 4294967296 orderW = ell := by decide
theorem order_lt : ∀ x ∈ orderW, x < 4294967296 := by decide

structure ShInv (k c0 : Nat) (r0 r : List Nat) (c : Nat) : Prop where
  len : r.length = 8
  lt : ∀ x ∈ r, x < 4294967296
  cle : c ≤ 1
  eq : num 4294967296 r + c * 4294967296 ^ k = num 4294967296 r0 + num 4294967296 (r0.take k) + c0
  rest : ∀ j, k ≤ j → r[j]? = r0[j]?

theorem ShInv.step {k c0 c x : Nat} {r0 r : List Nat} (h : ShInv k c0 r0 r c) (hx : r[k]? = some x) : ShInv (k + 1) c0 r0 (r.set k ((2 * x + c) % 4294967296)) (x / 2147483648) := by
  have hx' : x < 4294967296 := h.lt x (List.mem_of_getElem? hx)
  have hc := h.cle
  refine ⟨by rw [List.length_set]; exact h.len, set_lt h.lt (Nat.mod_lt _ (by decide)), by omega, ?_, ?_⟩
  · have h1 := num_set (B := 4294967296) ((2 * x + c) % 4294967296) hx
    have h2 := h.eq
    rw [num_take (by rw [← h.rest k (Nat.le_refl _)]; exact hx)]
    have h3 : 4294967296 * (x / 2147483648) + (2 * x + c) % 4294967296 = 2 * x + c := by omega
    generalize (2 * x + c) % 4294967296 = y at *
    generalize x / 2147483648 = q at *
    have e2 : q * 4294967296 ^ (k + 1) = 4294967296 * q * 4294967296 ^ k := by
      rw [Nat.pow_succ]; simp only [Nat.mul_assoc, Nat.mul_left_comm, Nat.mul_comm]
    have e3 : (4294967296 * q + y) * 4294967296 ^ k = (2 * x + c) * 4294967296 ^ k := by rw [h3]
    rw [Nat.add_mul, Nat.add_mul, Nat.mul_assoc 2] at e3
    rw [e2]
    omega
  · intro j hj
    rw [List.getElem?_set_ne (by omega)]
    exact h.rest j (by omega)

structure SbInv (k : Nat) (r nx : List Nat) (b : Nat) : Prop where
  len : nx.length = 8
  lt : ∀ x ∈ nx, x < 4294967296
  ble : b ≤ 1
  eq : num 4294967296 (r.take k) + b * 4294967296 ^ k = num 4294967296 (orderW.take k) + num 4294967296 (nx.take k)

theorem take_set_self {l : List Nat} {k y : Nat} : (l.set k y).take k = l.take k := by
  apply List.ext_getElem?
  intro i
  rw [List.getElem?_take, List.getElem?_take]
  by_cases h : i < k
  · rw [if_pos h, if_pos h, List.getElem?_set_ne (by omega)]
  · rw [if_neg h, if_neg h]

theorem SbInv.step {k b x l : Nat} {r nx : List Nat} (h : SbInv k r nx b) (hr : ∀ x ∈ r, x < 4294967296) (hk : k < 8) (hx : r[k]? = some x) (hl : orderW[k]? = some l) : SbInv (k + 1) r (nx.set k (subD x l b)) (subB x l b) := by
  have hx' : x < 4294967296 := hr x (List.mem_of_getElem? hx)
  have hl' : l < 4294967296 := order_lt l (List.mem_of_getElem? hl)
  have hb := h.ble
  have hd : subD x l b < 4294967296 ∧ x + 4294967296 * subB x l b = l + b + subD x l b ∧ subB x l b ≤ 1 := by
    unfold subD subB; split <;> omega
  refine ⟨by rw [List.length_set]; exact h.len, set_lt h.lt hd.1, hd.2.2, ?_⟩
  have h2 := h.eq
  have hy : (nx.set k (subD x l b))[k]? = some (subD x l b) := List.getElem?_set_self (by rw [h.len]; exact hk)
  rw [num_take hx, num_take hl, num_take hy, take_set_self]
  have h3 := hd.2.1
  generalize subD x l b = d at *
  generalize subB x l b = q at *
  have e2 : q * 4294967296 ^ (k + 1) = 4294967296 * q * 4294967296 ^ k := by
    rw [Nat.pow_succ]; simp only [Nat.mul_assoc, Nat.mul_left_comm, Nat.mul_comm]
  have e3 : (x + 4294967296 * q) * 4294967296 ^ k = (l + b + d) * 4294967296 ^ k := by rw [h3]
  rw [Nat.add_mul, Nat.add_mul, Nat.add_mul] at e3
  rw [e2]
  omega

theorem sh_body0 {H : List Ob} {s v : Value} {k c x : Nat} {r nx : List Nat} (hk : k < 8) (hl : r.length = 8) (hx : r[k]? = some x) (hx' : x < 4294967296) (hc : c ≤ 1) :
    evCode T H.length a41_l1 (⟨[(0, s), (3, (.slice (some ⟨H.length, 0, none⟩) 8 8)), (4, (.slice (some ⟨H.length + 1, 0, none⟩) 8 8)), (5, (.slice (some ⟨(H.length + 2), 0, none⟩) 8 8)), (6, v), (7, .int .u32 ((c : Nat))), (32, .int .i64 8), (33, .int .i64 ((k : Nat)))], H ++ [⟨u32s (r), true, true, true, 1⟩, ⟨u32s orderW, true, true, true, 1⟩, ⟨u32s (nx), true, true, true, 1⟩], []⟩ : St) = some (.normal, (⟨[(0, s), (3, (.slice (some ⟨H.length, 0, none⟩) 8 8)), (4, (.slice (some ⟨H.length + 1, 0, none⟩) 8 8)), (5, (.slice (some ⟨(H.length + 2), 0, none⟩) 8 8)), (6, v), (7, .int .u32 (((x / 2147483648 : Nat) : Int))), (32, .int .i64 8), (33, .int .i64 (((k + 1 : Nat) : Int)))], H ++ [⟨u32s (r.set k ((2 * x + c) % 4294967296)), true, true, true, 1⟩, ⟨u32s orderW, true, true, true, 1⟩, ⟨u32s (nx), true, true, true, 1⟩], []⟩ : St)) := by
  have hxc := u32s_get hx
  have h1 : ((k : Int) < (8 : Int)) := by omega
  have h1' : ((k : Int) < ((8 : Nat) : Int)) := by omega
  have e1 : IntKind.u32.wrap ((x : Int) * 2 ^ min 1 IntKind.u32.bits) = ((2 * x % 4294967296 : Nat) : Int) := by
    rw [wrap_u32, show min 1 IntKind.u32.bits = 1 from rfl]; omega
  have e2 : bitsOp .or .u32 ((2 * x % 4294967296 : Nat) : Int) (c : Int) = (((2 * x + c) % 4294967296 : Nat) : Int) := by
    rw [bits_or (k := .u32) (a := 2 * x % 4294967296) (b := c) rfl (Nat.mod_lt _ (by decide)) (by show c < 2 ^ 32; omega)]
    congr 1
    have h2 : 2 * x % 4294967296 = 2 ^ 1 * (x % 2147483648) := by omega
    rw [h2, ← Nat.two_pow_add_eq_or_of_lt (by omega : c < 2 ^ 1)]
    omega
  have e3 : Int.fdiv (x : Int) (2 ^ min 31 IntKind.u32.bits) = ((x / 2147483648 : Nat) : Int) := by
    rw [Int.fdiv_eq_ediv_of_nonneg _ (by decide)]; rfl
  have e10 : IntKind.i64.wrap ((k : Int) + 1) = ((k + 1 : Nat) : Int) := wrap_nat (n := k + 1) (by omega)
  have h5 : k + 1 ≤ (u32s r).length := by rw [u32s_len, hl]; omega
  simp only [a41_l1, envOf, evCode_skip, evCode_exit, evCode_seq, evCode_region, evCode_cond, evCode_block, evCode_ret, evOps_cons, evOps_nil, guardOf, simpleOp, opd, opds, opdOpt, opdParts, Env.get, Env.put, pureV, Option.bind_some, List.nil_append, List.cons_append, inMerge, pairsOk, List.all_nil, List.all_cons, St.after, Env.keep, if_true, if_false, ite_true, ite_false, binV, intBin, unV, shiftOp, resultOf, packed, reduceCtorEq, Option.isNone_none, Option.isSome_none, Bool.false_eq_true, Nat.reduceAdd, Nat.reduceEqDiff, Nat.reduceMul, Nat.zero_add, List.length_cons, List.length_nil, beq_self_eq_true, Bool.not_true, Bool.not_false, evOper_move, evOper_pick, evOper_alloc, evOper_box, evOper_load, evOper_store, evOper_bin, evOper_eqv, evOper_isNil, evOper_un, evOper_conv, evOper_convStr, evOper_s2b, evOper_b2s, evOper_field, evOper_index, evOper_indexStr, evOper_build, evOper_buildSlice, evOper_fieldAddr, evOper_indexAddr, evOper_indexSl, evOper_sliceArr, evOper_sliceSl, evOper_sliceStr, evOper_makeSlice, evOper_extract, evOper_mkIface, evOper_mkFunc, evOper_nilCheck, evOper_s2ap, evOper_append, evOper_copy, evOper_len, evOper_minmax, evOper_call, evOper_callVal, Ob.fresh, live0, live1, live2, Int.natCast_nonneg, and_self, true_and, and_true, Int.toNat_natCast, Nat.mul_one, addr_add, partL, cells_int, cells_int_size, okVar, splice_single, Nat.lt_irrefl, false_and, decide_true, decide_false, Nat.add_zero, Int.reduceEq, Int.reduceLT, Int.reduceLE, Int.reduceToNat, Nat.reduceLT, Nat.reduceSub, rf_int, rf_tuple_ints, toList2, Bool.and_true, Bool.true_and, Bool.and_self, List.getElem?_cons_zero, List.getElem?_cons_succ, nlt1, nlt2, nlt3, nlt4, Nat.le_refl, Int.le_refl, Nat.not_lt_zero, Nat.sub_zero, Nat.zero_mul, cells_agg, cells_agg_size, h1, h1', hxc, e1, e2, e3, e10, h5, storeAt0, u32s_set]

theorem sb_body0 {H : List Ob} {s v : Value} {k b x l : Nat} {r nx : List Nat} (hk : k < 8) (hl : nx.length = 8) (hx : r[k]? = some x) (hx' : x < 4294967296) (ho : orderW[k]? = some l) (hb : b ≤ 1) :
    evCode T H.length a41_l0 (⟨[(0, s), (3, (.slice (some ⟨H.length, 0, none⟩) 8 8)), (4, (.slice (some ⟨H.length + 1, 0, none⟩) 8 8)), (5, (.slice (some ⟨(H.length + 2), 0, none⟩) 8 8)), (6, v), (9, .int .u32 ((b : Nat))), (53, .int .i64 8), (54, .int .i64 ((k : Nat)))], H ++ [⟨u32s (r), true, true, true, 1⟩, ⟨u32s orderW, true, true, true, 1⟩, ⟨u32s (nx), true, true, true, 1⟩], []⟩ : St) = some (.normal, (⟨[(0, s), (3, (.slice (some ⟨H.length, 0, none⟩) 8 8)), (4, (.slice (some ⟨H.length + 1, 0, none⟩) 8 8)), (5, (.slice (some ⟨(H.length + 2), 0, none⟩) 8 8)), (6, v), (9, .int .u32 (((subB x l b : Nat) : Int))), (53, .int .i64 8), (54, .int .i64 (((k + 1 : Nat) : Int)))], H ++ [⟨u32s (r), true, true, true, 1⟩, ⟨u32s orderW, true, true, true, 1⟩, ⟨u32s (nx.set k (subD x l b)), true, true, true, 1⟩], []⟩ : St)) := by
  have hxc := u32s_get hx
  have hlc := u32s_get ho
  have h1 : ((k : Int) < (8 : Int)) := by omega
  have h1' : ((k : Int) < ((8 : Nat) : Int)) := by omega
  have hsub := sub32_ev hx' (order_lt l (List.mem_of_getElem? ho)) hb
  have e10 : IntKind.i64.wrap ((k : Int) + 1) = ((k + 1 : Nat) : Int) := wrap_nat (n := k + 1) (by omega)
  have h5 : k + 1 ≤ (u32s nx).length := by rw [u32s_len, hl]; omega
  simp only [a41_l0, envOf, evCode_skip, evCode_exit, evCode_seq, evCode_region, evCode_cond, evCode_block, evCode_ret, evOps_cons, evOps_nil, guardOf, simpleOp, opd, opds, opdOpt, opdParts, Env.get, Env.put, pureV, Option.bind_some, List.nil_append, List.cons_append, inMerge, pairsOk, List.all_nil, List.all_cons, St.after, Env.keep, if_true, if_false, ite_true, ite_false, binV, intBin, unV, shiftOp, resultOf, packed, reduceCtorEq, Option.isNone_none, Option.isSome_none, Bool.false_eq_true, Nat.reduceAdd, Nat.reduceEqDiff, Nat.reduceMul, Nat.zero_add, List.length_cons, List.length_nil, beq_self_eq_true, Bool.not_true, Bool.not_false, evOper_move, evOper_pick, evOper_alloc, evOper_box, evOper_load, evOper_store, evOper_bin, evOper_eqv, evOper_isNil, evOper_un, evOper_conv, evOper_convStr, evOper_s2b, evOper_b2s, evOper_field, evOper_index, evOper_indexStr, evOper_build, evOper_buildSlice, evOper_fieldAddr, evOper_indexAddr, evOper_indexSl, evOper_sliceArr, evOper_sliceSl, evOper_sliceStr, evOper_makeSlice, evOper_extract, evOper_mkIface, evOper_mkFunc, evOper_nilCheck, evOper_s2ap, evOper_append, evOper_copy, evOper_len, evOper_minmax, evOper_call, evOper_callVal, Ob.fresh, live0, live1, live2, Int.natCast_nonneg, and_self, true_and, and_true, Int.toNat_natCast, Nat.mul_one, addr_add, partL, cells_int, cells_int_size, okVar, splice_single, Nat.lt_irrefl, false_and, decide_true, decide_false, Nat.add_zero, Int.reduceEq, Int.reduceLT, Int.reduceLE, Int.reduceToNat, Nat.reduceLT, Nat.reduceSub, rf_int, rf_tuple_ints, toList2, Bool.and_true, Bool.true_and, Bool.and_self, List.getElem?_cons_zero, List.getElem?_cons_succ, nlt1, nlt2, nlt3, nlt4, Nat.le_refl, Int.le_refl, Nat.not_lt_zero, Nat.sub_zero, Nat.zero_mul, cells_agg, cells_agg_size, h1, h1', hxc, hlc, hsub, e10, h5, storeAt2, u32s_set]

theorem sh_loop0 {H : List Ob} {s v : Value} {c : Nat} {r nx : List Nat} (hl : r.length = 8) (hr : ∀ x ∈ r, x < 4294967296) (hc : c ≤ 1) :
    ∃ r' c', evCode T H.length (.block 2 (.loop a41_l1)) (⟨[(0, s), (3, (.slice (some ⟨H.length, 0, none⟩) 8 8)), (4, (.slice (some ⟨H.length + 1, 0, none⟩) 8 8)), (5, (.slice (some ⟨(H.length + 2), 0, none⟩) 8 8)), (6, v), (7, .int .u32 ((c : Nat))), (32, .int .i64 8), (33, .int .i64 (0))], H ++ [⟨u32s (r), true, true, true, 1⟩, ⟨u32s orderW, true, true, true, 1⟩, ⟨u32s (nx), true, true, true, 1⟩], []⟩ : St) = some (.normal, (⟨[(0, s), (3, (.slice (some ⟨H.length, 0, none⟩) 8 8)), (4, (.slice (some ⟨H.length + 1, 0, none⟩) 8 8)), (5, (.slice (some ⟨(H.length + 2), 0, none⟩) 8 8)), (6, v), (7, .int .u32 ((c' : Nat))), (32, .int .i64 8), (33, .int .i64 (8)), (34, .bool false)], H ++ [⟨u32s (r'), true, true, true, 1⟩, ⟨u32s orderW, true, true, true, 1⟩, ⟨u32s (nx), true, true, true, 1⟩], []⟩ : St)) ∧ ShInv 8 c r r' c' := by
  obtain ⟨s', hb, r', c', rfl, hinv⟩ := block_inv (T := T) (base := H.length) (id := 2) (body := a41_l1)
    (fun k s1 => ∃ r' c', s1 = (⟨[(0, s), (3, (.slice (some ⟨H.length, 0, none⟩) 8 8)), (4, (.slice (some ⟨H.length + 1, 0, none⟩) 8 8)), (5, (.slice (some ⟨(H.length + 2), 0, none⟩) 8 8)), (6, v), (7, .int .u32 ((c' : Nat))), (32, .int .i64 8), (33, .int .i64 ((k : Nat)))], H ++ [⟨u32s (r'), true, true, true, 1⟩, ⟨u32s orderW, true, true, true, 1⟩, ⟨u32s (nx), true, true, true, 1⟩], []⟩ : St) ∧ ShInv k c r r' c')
    (Q := fun s1 => ∃ r' c', s1 = (⟨[(0, s), (3, (.slice (some ⟨H.length, 0, none⟩) 8 8)), (4, (.slice (some ⟨H.length + 1, 0, none⟩) 8 8)), (5, (.slice (some ⟨(H.length + 2), 0, none⟩) 8 8)), (6, v), (7, .int .u32 ((c' : Nat))), (32, .int .i64 8), (33, .int .i64 (8)), (34, .bool false)], H ++ [⟨u32s (r'), true, true, true, 1⟩, ⟨u32s orderW, true, true, true, 1⟩, ⟨u32s (nx), true, true, true, 1⟩], []⟩ : St) ∧ ShInv 8 c r r' c')
    8 (s := (⟨[(0, s), (3, (.slice (some ⟨H.length, 0, none⟩) 8 8)), (4, (.slice (some ⟨H.length + 1, 0, none⟩) 8 8)), (5, (.slice (some ⟨(H.length + 2), 0, none⟩) 8 8)), (6, v), (7, .int .u32 ((c : Nat))), (32, .int .i64 8), (33, .int .i64 (((0 : Nat) : Int)))], H ++ [⟨u32s (r), true, true, true, 1⟩, ⟨u32s orderW, true, true, true, 1⟩, ⟨u32s (nx), true, true, true, 1⟩], []⟩ : St)) ⟨_, _, rfl, ⟨hl, hr, hc, by simp [num], fun _ _ => rfl⟩⟩
    (fun k s1 hk hs => by
      obtain ⟨r', c', rfl, hI⟩ := hs
      obtain ⟨x, hx⟩ : ∃ x, r'[k]? = some x := ⟨_, List.getElem?_eq_getElem (by rw [hI.len]; omega)⟩
      exact ⟨_, sh_body0 hk hI.len hx (hI.lt x (List.mem_of_getElem? hx)) hI.cle, _, _, rfl, hI.step hx⟩)
    (fun s1 hs => by
      obtain ⟨r', c', rfl, hI⟩ := hs
      have h1 : ¬ (((8 : Nat) : Int) < (8 : Int)) := by omega
      refine ⟨_, ?_, r', c', rfl, hI⟩
      simp only [a41_l1, envOf, evCode_skip, evCode_exit, evCode_seq, evCode_region, evCode_cond, evCode_block, evCode_ret, evOps_cons, evOps_nil, guardOf, simpleOp, opd, opds, opdOpt, opdParts, Env.get, Env.put, pureV, Option.bind_some, List.nil_append, List.cons_append, inMerge, pairsOk, List.all_nil, List.all_cons, St.after, Env.keep, if_true, if_false, ite_true, ite_false, binV, intBin, unV, shiftOp, resultOf, packed, reduceCtorEq, Option.isNone_none, Option.isSome_none, Bool.false_eq_true, Nat.reduceAdd, Nat.reduceEqDiff, Nat.reduceMul, Nat.zero_add, List.length_cons, List.length_nil, beq_self_eq_true, Bool.not_true, Bool.not_false, evOper_move, evOper_pick, evOper_alloc, evOper_box, evOper_load, evOper_store, evOper_bin, evOper_eqv, evOper_isNil, evOper_un, evOper_conv, evOper_convStr, evOper_s2b, evOper_b2s, evOper_field, evOper_index, evOper_indexStr, evOper_build, evOper_buildSlice, evOper_fieldAddr, evOper_indexAddr, evOper_indexSl, evOper_sliceArr, evOper_sliceSl, evOper_sliceStr, evOper_makeSlice, evOper_extract, evOper_mkIface, evOper_mkFunc, evOper_nilCheck, evOper_s2ap, evOper_append, evOper_copy, evOper_len, evOper_minmax, evOper_call, evOper_callVal, Ob.fresh, live0, live1, live2, Int.natCast_nonneg, and_self, true_and, and_true, Int.toNat_natCast, Nat.mul_one, addr_add, partL, cells_int, cells_int_size, okVar, splice_single, Nat.lt_irrefl, false_and, decide_true, decide_false, Nat.add_zero, Int.reduceEq, Int.reduceLT, Int.reduceLE, Int.reduceToNat, Nat.reduceLT, Nat.reduceSub, rf_int, rf_tuple_ints, toList2, Bool.and_true, Bool.true_and, Bool.and_self, List.getElem?_cons_zero, List.getElem?_cons_succ, nlt1, nlt2, nlt3, nlt4, Nat.le_refl, Int.le_refl, Nat.not_lt_zero, Nat.sub_zero, Nat.zero_mul, cells_agg, cells_agg_size, h1]
      rfl)
  exact ⟨r', c', hb, hinv⟩

theorem sb_loop0 {H : List Ob} {s v : Value} {r nx : List Nat} (hl : r.length = 8) (hr : ∀ x ∈ r, x < 4294967296) (hl2 : nx.length = 8) (hr2 : ∀ x ∈ nx, x < 4294967296) :
    ∃ nx' b, evCode T H.length (.block 4 (.loop a41_l0)) (⟨[(0, s), (3, (.slice (some ⟨H.length, 0, none⟩) 8 8)), (4, (.slice (some ⟨H.length + 1, 0, none⟩) 8 8)), (5, (.slice (some ⟨(H.length + 2), 0, none⟩) 8 8)), (6, v), (9, .int .u32 (0)), (53, .int .i64 8), (54, .int .i64 (0))], H ++ [⟨u32s (r), true, true, true, 1⟩, ⟨u32s orderW, true, true, true, 1⟩, ⟨u32s (nx), true, true, true, 1⟩], []⟩ : St) = some (.normal, (⟨[(0, s), (3, (.slice (some ⟨H.length, 0, none⟩) 8 8)), (4, (.slice (some ⟨H.length + 1, 0, none⟩) 8 8)), (5, (.slice (some ⟨(H.length + 2), 0, none⟩) 8 8)), (6, v), (9, .int .u32 ((b : Nat))), (53, .int .i64 8), (54, .int .i64 (8)), (55, .bool false)], H ++ [⟨u32s (r), true, true, true, 1⟩, ⟨u32s orderW, true, true, true, 1⟩, ⟨u32s (nx'), true, true, true, 1⟩], []⟩ : St)) ∧ SbInv 8 r nx' b := by
  obtain ⟨s', hb, nx', b, rfl, hinv⟩ := block_inv (T := T) (base := H.length) (id := 4) (body := a41_l0)
    (fun k s1 => ∃ nx' b, s1 = (⟨[(0, s), (3, (.slice (some ⟨H.length, 0, none⟩) 8 8)), (4, (.slice (some ⟨H.length + 1, 0, none⟩) 8 8)), (5, (.slice (some ⟨(H.length + 2), 0, none⟩) 8 8)), (6, v), (9, .int .u32 ((b : Nat))), (53, .int .i64 8), (54, .int .i64 ((k : Nat)))], H ++ [⟨u32s (r), true, true, true, 1⟩, ⟨u32s orderW, true, true, true, 1⟩, ⟨u32s (nx'), true, true, true, 1⟩], []⟩ : St) ∧ SbInv k r nx' b)
    (Q := fun s1 => ∃ nx' b, s1 = (⟨[(0, s), (3, (.slice (some ⟨H.length, 0, none⟩) 8 8)), (4, (.slice (some ⟨H.length + 1, 0, none⟩) 8 8)), (5, (.slice (some ⟨(H.length + 2), 0, none⟩) 8 8)), (6, v), (9, .int .u32 ((b : Nat))), (53, .int .i64 8), (54, .int .i64 (8)), (55, .bool false)], H ++ [⟨u32s (r), true, true, true, 1⟩, ⟨u32s orderW, true, true, true, 1⟩, ⟨u32s (nx'), true, true, true, 1⟩], []⟩ : St) ∧ SbInv 8 r nx' b)
    8 (s := (⟨[(0, s), (3, (.slice (some ⟨H.length, 0, none⟩) 8 8)), (4, (.slice (some ⟨H.length + 1, 0, none⟩) 8 8)), (5, (.slice (some ⟨(H.length + 2), 0, none⟩) 8 8)), (6, v), (9, .int .u32 (((0 : Nat) : Int))), (53, .int .i64 8), (54, .int .i64 (((0 : Nat) : Int)))], H ++ [⟨u32s (r), true, true, true, 1⟩, ⟨u32s orderW, true, true, true, 1⟩, ⟨u32s (nx), true, true, true, 1⟩], []⟩ : St)) ⟨_, _, rfl, ⟨hl2, hr2, by decide, by simp [num]⟩⟩
    (fun k s1 hk hs => by
      obtain ⟨nx', b, rfl, hI⟩ := hs
      obtain ⟨x, hx⟩ : ∃ x, r[k]? = some x := ⟨_, List.getElem?_eq_getElem (by omega)⟩
      obtain ⟨l, hlk⟩ : ∃ l, orderW[k]? = some l := ⟨_, List.getElem?_eq_getElem (show k < orderW.length from hk)⟩
      exact ⟨_, sb_body0 hk hI.len hx (hr x (List.mem_of_getElem? hx)) hlk hI.ble, _, _, rfl, hI.step hr hk hx hlk⟩)
    (fun s1 hs => by
      obtain ⟨nx', b, rfl, hI⟩ := hs
      have h1 : ¬ (((8 : Nat) : Int) < (8 : Int)) := by omega
      refine ⟨_, ?_, nx', b, rfl, hI⟩
      simp only [a41_l0, envOf, evCode_skip, evCode_exit, evCode_seq, evCode_region, evCode_cond, evCode_block, evCode_ret, evOps_cons, evOps_nil, guardOf, simpleOp, opd, opds, opdOpt, opdParts, Env.get, Env.put, pureV, Option.bind_some, List.nil_append, List.cons_append, inMerge, pairsOk, List.all_nil, List.all_cons, St.after, Env.keep, if_true, if_false, ite_true, ite_false, binV, intBin, unV, shiftOp, resultOf, packed, reduceCtorEq, Option.isNone_none, Option.isSome_none, Bool.false_eq_true, Nat.reduceAdd, Nat.reduceEqDiff, Nat.reduceMul, Nat.zero_add, List.length_cons, List.length_nil, beq_self_eq_true, Bool.not_true, Bool.not_false, evOper_move, evOper_pick, evOper_alloc, evOper_box, evOper_load, evOper_store, evOper_bin, evOper_eqv, evOper_isNil, evOper_un, evOper_conv, evOper_convStr, evOper_s2b, evOper_b2s, evOper_field, evOper_index, evOper_indexStr, evOper_build, evOper_buildSlice, evOper_fieldAddr, evOper_indexAddr, evOper_indexSl, evOper_sliceArr, evOper_sliceSl, evOper_sliceStr, evOper_makeSlice, evOper_extract, evOper_mkIface, evOper_mkFunc, evOper_nilCheck, evOper_s2ap, evOper_append, evOper_copy, evOper_len, evOper_minmax, evOper_call, evOper_callVal, Ob.fresh, live0, live1, live2, Int.natCast_nonneg, and_self, true_and, and_true, Int.toNat_natCast, Nat.mul_one, addr_add, partL, cells_int, cells_int_size, okVar, splice_single, Nat.lt_irrefl, false_and, decide_true, decide_false, Nat.add_zero, Int.reduceEq, Int.reduceLT, Int.reduceLE, Int.reduceToNat, Nat.reduceLT, Nat.reduceSub, rf_int, rf_tuple_ints, toList2, Bool.and_true, Bool.true_and, Bool.and_self, List.getElem?_cons_zero, List.getElem?_cons_succ, nlt1, nlt2, nlt3, nlt4, Nat.le_refl, Int.le_refl, Nat.not_lt_zero, Nat.sub_zero, Nat.zero_mul, cells_agg, cells_agg_size, h1]
      rfl)
  exact ⟨nx', b, hb, hinv⟩

theorem sh_body1 {H : List Ob} {s v : Value} {k c x : Nat} {r nx : List Nat} (hk : k < 8) (hl : r.length = 8) (hx : r[k]? = some x) (hx' : x < 4294967296) (hc : c ≤ 1) :
    evCode T H.length a41_l1 (⟨[(0, s), (3, (.slice (some ⟨(H.length + 2), 0, none⟩) 8 8)), (4, (.slice (some ⟨H.length + 1, 0, none⟩) 8 8)), (5, (.slice (some ⟨H.length, 0, none⟩) 8 8)), (6, v), (7, .int .u32 ((c : Nat))), (32, .int .i64 8), (33, .int .i64 ((k : Nat)))], H ++ [⟨u32s (nx), true, true, true, 1⟩, ⟨u32s orderW, true, true, true, 1⟩, ⟨u32s (r), true, true, true, 1⟩], []⟩ : St) = some (.normal, (⟨[(0, s), (3, (.slice (some ⟨(H.length + 2), 0, none⟩) 8 8)), (4, (.slice (some ⟨H.length + 1, 0, none⟩) 8 8)), (5, (.slice (some ⟨H.length, 0, none⟩) 8 8)), (6, v), (7, .int .u32 (((x / 2147483648 : Nat) : Int))), (32, .int .i64 8), (33, .int .i64 (((k + 1 : Nat) : Int)))], H ++ [⟨u32s (nx), true, true, true, 1⟩, ⟨u32s orderW, true, true, true, 1⟩, ⟨u32s (r.set k ((2 * x + c) % 4294967296)), true, true, true, 1⟩], []⟩ : St)) := by
  have hxc := u32s_get hx
  have h1 : ((k : Int) < (8 : Int)) := by omega
  have h1' : ((k : Int) < ((8 : Nat) : Int)) := by omega
  have e1 : IntKind.u32.wrap ((x : Int) * 2 ^ min 1 IntKind.u32.bits) = ((2 * x % 4294967296 : Nat) : Int) := by
    rw [wrap_u32, show min 1 IntKind.u32.bits = 1 from rfl]; omega
  have e2 : bitsOp .or .u32 ((2 * x % 4294967296 : Nat) : Int) (c : Int) = (((2 * x + c) % 4294967296 : Nat) : Int) := by
    rw [bits_or (k := .u32) (a := 2 * x % 4294967296) (b := c) rfl (Nat.mod_lt _ (by decide)) (by show c < 2 ^ 32; omega)]
    congr 1
    have h2 : 2 * x % 4294967296 = 2 ^ 1 * (x % 2147483648) := by omega
    rw [h2, ← Nat.two_pow_add_eq_or_of_lt (by omega : c < 2 ^ 1)]
    omega
  have e3 : Int.fdiv (x : Int) (2 ^ min 31 IntKind.u32.bits) = ((x / 2147483648 : Nat) : Int) := by
    rw [Int.fdiv_eq_ediv_of_nonneg _ (by decide)]; rfl
  have e10 : IntKind.i64.wrap ((k : Int) + 1) = ((k + 1 : Nat) : Int) := wrap_nat (n := k + 1) (by omega)
  have h5 : k + 1 ≤ (u32s r).length := by rw [u32s_len, hl]; omega
  simp only [a41_l1, envOf, evCode_skip, evCode_exit, evCode_seq, evCode_region, evCode_cond, evCode_block, evCode_ret, evOps_cons, evOps_nil, guardOf, simpleOp, opd, opds, opdOpt, opdParts, Env.get, Env.put, pureV, Option.bind_some, List.nil_append, List.cons_append, inMerge, pairsOk, List.all_nil, List.all_cons, St.after, Env.keep, if_true, if_false, ite_true, ite_false, binV, intBin, unV, shiftOp, resultOf, packed, reduceCtorEq, Option.isNone_none, Option.isSome_none, Bool.false_eq_true, Nat.reduceAdd, Nat.reduceEqDiff, Nat.reduceMul, Nat.zero_add, List.length_cons, List.length_nil, beq_self_eq_true, Bool.not_true, Bool.not_false, evOper_move, evOper_pick, evOper_alloc, evOper_box, evOper_load, evOper_store, evOper_bin, evOper_eqv, evOper_isNil, evOper_un, evOper_conv, evOper_convStr, evOper_s2b, evOper_b2s, evOper_field, evOper_index, evOper_indexStr, evOper_build, evOper_buildSlice, evOper_fieldAddr, evOper_indexAddr, evOper_indexSl, evOper_sliceArr, evOper_sliceSl, evOper_sliceStr, evOper_makeSlice, evOper_extract, evOper_mkIface, evOper_mkFunc, evOper_nilCheck, evOper_s2ap, evOper_append, evOper_copy, evOper_len, evOper_minmax, evOper_call, evOper_callVal, Ob.fresh, live0, live1, live2, Int.natCast_nonneg, and_self, true_and, and_true, Int.toNat_natCast, Nat.mul_one, addr_add, partL, cells_int, cells_int_size, okVar, splice_single, Nat.lt_irrefl, false_and, decide_true, decide_false, Nat.add_zero, Int.reduceEq, Int.reduceLT, Int.reduceLE, Int.reduceToNat, Nat.reduceLT, Nat.reduceSub, rf_int, rf_tuple_ints, toList2, Bool.and_true, Bool.true_and, Bool.and_self, List.getElem?_cons_zero, List.getElem?_cons_succ, nlt1, nlt2, nlt3, nlt4, Nat.le_refl, Int.le_refl, Nat.not_lt_zero, Nat.sub_zero, Nat.zero_mul, cells_agg, cells_agg_size, h1, h1', hxc, e1, e2, e3, e10, h5, storeAt2, u32s_set]

theorem sb_body1 {H : List Ob} {s v : Value} {k b x l : Nat} {r nx : List Nat} (hk : k < 8) (hl : nx.length = 8) (hx : r[k]? = some x) (hx' : x < 4294967296) (ho : orderW[k]? = some l) (hb : b ≤ 1) :
    evCode T H.length a41_l0 (⟨[(0, s), (3, (.slice (some ⟨(H.length + 2), 0, none⟩) 8 8)), (4, (.slice (some ⟨H.length + 1, 0, none⟩) 8 8)), (5, (.slice (some ⟨H.length, 0, none⟩) 8 8)), (6, v), (9, .int .u32 ((b : Nat))), (53, .int .i64 8), (54, .int .i64 ((k : Nat)))], H ++ [⟨u32s (nx), true, true, true, 1⟩, ⟨u32s orderW, true, true, true, 1⟩, ⟨u32s (r), true, true, true, 1⟩], []⟩ : St) = some (.normal, (⟨[(0, s), (3, (.slice (some ⟨(H.length + 2), 0, none⟩) 8 8)), (4, (.slice (some ⟨H.length + 1, 0, none⟩) 8 8)), (5, (.slice (some ⟨H.length, 0, none⟩) 8 8)), (6, v), (9, .int .u32 (((subB x l b : Nat) : Int))), (53, .int .i64 8), (54, .int .i64 (((k + 1 : Nat) : Int)))], H ++ [⟨u32s (nx.set k (subD x l b)), true, true, true, 1⟩, ⟨u32s orderW, true, true, true, 1⟩, ⟨u32s (r), true, true, true, 1⟩], []⟩ : St)) := by
  have hxc := u32s_get hx
  have hlc := u32s_get ho
  have h1 : ((k : Int) < (8 : Int)) := by omega
  have h1' : ((k : Int) < ((8 : Nat) : Int)) := by omega
  have hsub := sub32_ev hx' (order_lt l (List.mem_of_getElem? ho)) hb
  have e10 : IntKind.i64.wrap ((k : Int) + 1) = ((k + 1 : Nat) : Int) := wrap_nat (n := k + 1) (by omega)
  have h5 : k + 1 ≤ (u32s nx).length := by rw [u32s_len, hl]; omega
  simp only [a41_l0, envOf, evCode_skip, evCode_exit, evCode_seq, evCode_region, evCode_cond, evCode_block, evCode_ret, evOps_cons, evOps_nil, guardOf, simpleOp, opd, opds, opdOpt, opdParts, Env.get, Env.put, pureV, Option.bind_some, List.nil_append, List.cons_append, inMerge, pairsOk, List.all_nil, List.all_cons, St.after, Env.keep, if_true, if_false, ite_true, ite_false, binV, intBin, unV, shiftOp, resultOf, packed, reduceCtorEq, Option.isNone_none, Option.isSome_none, Bool.false_eq_true, Nat.reduceAdd, Nat.reduceEqDiff, Nat.reduceMul, Nat.zero_add, List.length_cons, List.length_nil, beq_self_eq_true, Bool.not_true, Bool.not_false, evOper_move, evOper_pick, evOper_alloc, evOper_box, evOper_load, evOper_store, evOper_bin, evOper_eqv, evOper_isNil, evOper_un, evOper_conv, evOper_convStr, evOper_s2b, evOper_b2s, evOper_field, evOper_index, evOper_indexStr, evOper_build, evOper_buildSlice, evOper_fieldAddr, evOper_indexAddr, evOper_indexSl, evOper_sliceArr, evOper_sliceSl, evOper_sliceStr, evOper_makeSlice, evOper_extract, evOper_mkIface, evOper_mkFunc, evOper_nilCheck, evOper_s2ap, evOper_append, evOper_copy, evOper_len, evOper_minmax, evOper_call, evOper_callVal, Ob.fresh, live0, live1, live2, Int.natCast_nonneg, and_self, true_and, and_true, Int.toNat_natCast, Nat.mul_one, addr_add, partL, cells_int, cells_int_size, okVar, splice_single, Nat.lt_irrefl, false_and, decide_true, decide_false, Nat.add_zero, Int.reduceEq, Int.reduceLT, Int.reduceLE, Int.reduceToNat, Nat.reduceLT, Nat.reduceSub, rf_int, rf_tuple_ints, toList2, Bool.and_true, Bool.true_and, Bool.and_self, List.getElem?_cons_zero, List.getElem?_cons_succ, nlt1, nlt2, nlt3, nlt4, Nat.le_refl, Int.le_refl, Nat.not_lt_zero, Nat.sub_zero, Nat.zero_mul, cells_agg, cells_agg_size, h1, h1', hxc, hlc, hsub, e10, h5, storeAt0, u32s_set]

theorem sh_loop1 {H : List Ob} {s v : Value} {c : Nat} {r nx : List Nat} (hl : r.length = 8) (hr : ∀ x ∈ r, x < 4294967296) (hc : c ≤ 1) :
    ∃ r' c', evCode T H.length (.block 2 (.loop a41_l1)) (⟨[(0, s), (3, (.slice (some ⟨(H.length + 2), 0, none⟩) 8 8)), (4, (.slice (some ⟨H.length + 1, 0, none⟩) 8 8)), (5, (.slice (some ⟨H.length, 0, none⟩) 8 8)), (6, v), (7, .int .u32 ((c : Nat))), (32, .int .i64 8), (33, .int .i64 (0))], H ++ [⟨u32s (nx), true, true, true, 1⟩, ⟨u32s orderW, true, true, true, 1⟩, ⟨u32s (r), true, true, true, 1⟩], []⟩ : St) = some (.normal, (⟨[(0, s), (3, (.slice (some ⟨(H.length + 2), 0, none⟩) 8 8)), (4, (.slice (some ⟨H.length + 1, 0, none⟩) 8 8)), (5, (.slice (some ⟨H.length, 0, none⟩) 8 8)), (6, v), (7, .int .u32 ((c' : Nat))), (32, .int .i64 8), (33, .int .i64 (8)), (34, .bool false)], H ++ [⟨u32s (nx), true, true, true, 1⟩, ⟨u32s orderW, true, true, true, 1⟩, ⟨u32s (r'), true, true, true, 1⟩], []⟩ : St)) ∧ ShInv 8 c r r' c' := by
  obtain ⟨s', hb, r', c', rfl, hinv⟩ := block_inv (T := T) (base := H.length) (id := 2) (body := a41_l1)
    (fun k s1 => ∃ r' c', s1 = (⟨[(0, s), (3, (.slice (some ⟨(H.length + 2), 0, none⟩) 8 8)), (4, (.slice (some ⟨H.length + 1, 0, none⟩) 8 8)), (5, (.slice (some ⟨H.length, 0, none⟩) 8 8)), (6, v), (7, .int .u32 ((c' : Nat))), (32, .int .i64 8), (33, .int .i64 ((k : Nat)))], H ++ [⟨u32s (nx), true, true, true, 1⟩, ⟨u32s orderW, true, true, true, 1⟩, ⟨u32s (r'), true, true, true, 1⟩], []⟩ : St) ∧ ShInv k c r r' c')
    (Q := fun s1 => ∃ r' c', s1 = (⟨[(0, s), (3, (.slice (some ⟨(H.length + 2), 0, none⟩) 8 8)), (4, (.slice (some ⟨H.length + 1, 0, none⟩) 8 8)), (5, (.slice (some ⟨H.length, 0, none⟩) 8 8)), (6, v), (7, .int .u32 ((c' : Nat))), (32, .int .i64 8), (33, .int .i64 (8)), (34, .bool false)], H ++ [⟨u32s (nx), true, true, true, 1⟩, ⟨u32s orderW, true, true, true, 1⟩, ⟨u32s (r'), true, true, true, 1⟩], []⟩ : St) ∧ ShInv 8 c r r' c')
    8 (s := (⟨[(0, s), (3, (.slice (some ⟨(H.length + 2), 0, none⟩) 8 8)), (4, (.slice (some ⟨H.length + 1, 0, none⟩) 8 8)), (5, (.slice (some ⟨H.length, 0, none⟩) 8 8)), (6, v), (7, .int .u32 ((c : Nat))), (32, .int .i64 8), (33, .int .i64 (((0 : Nat) : Int)))], H ++ [⟨u32s (nx), true, true, true, 1⟩, ⟨u32s orderW, true, true, true, 1⟩, ⟨u32s (r), true, true, true, 1⟩], []⟩ : St)) ⟨_, _, rfl, ⟨hl, hr, hc, by simp [num], fun _ _ => rfl⟩⟩
    (fun k s1 hk hs => by
      obtain ⟨r', c', rfl, hI⟩ := hs
      obtain ⟨x, hx⟩ : ∃ x, r'[k]? = some x := ⟨_, List.getElem?_eq_getElem (by rw [hI.len]; omega)⟩
      exact ⟨_, sh_body1 hk hI.len hx (hI.lt x (List.mem_of_getElem? hx)) hI.cle, _, _, rfl, hI.step hx⟩)
    (fun s1 hs => by
      obtain ⟨r', c', rfl, hI⟩ := hs
      have h1 : ¬ (((8 : Nat) : Int) < (8 : Int)) := by omega
      refine ⟨_, ?_, r', c', rfl, hI⟩
      simp only [a41_l1, envOf, evCode_skip, evCode_exit, evCode_seq, evCode_region, evCode_cond, evCode_block, evCode_ret, evOps_cons, evOps_nil, guardOf, simpleOp, opd, opds, opdOpt, opdParts, Env.get, Env.put, pureV, Option.bind_some, List.nil_append, List.cons_append, inMerge, pairsOk, List.all_nil, List.all_cons, St.after, Env.keep, if_true, if_false, ite_true, ite_false, binV, intBin, unV, shiftOp, resultOf, packed, reduceCtorEq, Option.isNone_none, Option.isSome_none, Bool.false_eq_true, Nat.reduceAdd, Nat.reduceEqDiff, Nat.reduceMul, Nat.zero_add, List.length_cons, List.length_nil, beq_self_eq_true, Bool.not_true, Bool.not_false, evOper_move, evOper_pick, evOper_alloc, evOper_box, evOper_load, evOper_store, evOper_bin, evOper_eqv, evOper_isNil, evOper_un, evOper_conv, evOper_convStr, evOper_s2b, evOper_b2s, evOper_field, evOper_index, evOper_indexStr, evOper_build, evOper_buildSlice, evOper_fieldAddr, evOper_indexAddr, evOper_indexSl, evOper_sliceArr, evOper_sliceSl, evOper_sliceStr, evOper_makeSlice, evOper_extract, evOper_mkIface, evOper_mkFunc, evOper_nilCheck, evOper_s2ap, evOper_append, evOper_copy, evOper_len, evOper_minmax, evOper_call, evOper_callVal, Ob.fresh, live0, live1, live2, Int.natCast_nonneg, and_self, true_and, and_true, Int.toNat_natCast, Nat.mul_one, addr_add, partL, cells_int, cells_int_size, okVar, splice_single, Nat.lt_irrefl, false_and, decide_true, decide_false, Nat.add_zero, Int.reduceEq, Int.reduceLT, Int.reduceLE, Int.reduceToNat, Nat.reduceLT, Nat.reduceSub, rf_int, rf_tuple_ints, toList2, Bool.and_true, Bool.true_and, Bool.and_self, List.getElem?_cons_zero, List.getElem?_cons_succ, nlt1, nlt2, nlt3, nlt4, Nat.le_refl, Int.le_refl, Nat.not_lt_zero, Nat.sub_zero, Nat.zero_mul, cells_agg, cells_agg_size, h1]
      rfl)
  exact ⟨r', c', hb, hinv⟩

theorem sb_loop1 {H : List Ob} {s v : Value} {r nx : List Nat} (hl : r.length = 8) (hr : ∀ x ∈ r, x < 4294967296) (hl2 : nx.length = 8) (hr2 : ∀ x ∈ nx, x < 4294967296) :
    ∃ nx' b, evCode T H.length (.block 4 (.loop a41_l0)) (⟨[(0, s), (3, (.slice (some ⟨(H.length + 2), 0, none⟩) 8 8)), (4, (.slice (some ⟨H.length + 1, 0, none⟩) 8 8)), (5, (.slice (some ⟨H.length, 0, none⟩) 8 8)), (6, v), (9, .int .u32 (0)), (53, .int .i64 8), (54, .int .i64 (0))], H ++ [⟨u32s (nx), true, true, true, 1⟩, ⟨u32s orderW, true, true, true, 1⟩, ⟨u32s (r), true, true, true, 1⟩], []⟩ : St) = some (.normal, (⟨[(0, s), (3, (.slice (some ⟨(H.length + 2), 0, none⟩) 8 8)), (4, (.slice (some ⟨H.length + 1, 0, none⟩) 8 8)), (5, (.slice (some ⟨H.length, 0, none⟩) 8 8)), (6, v), (9, .int .u32 ((b : Nat))), (53, .int .i64 8), (54, .int .i64 (8)), (55, .bool false)], H ++ [⟨u32s (nx'), true, true, true, 1⟩, ⟨u32s orderW, true, true, true, 1⟩, ⟨u32s (r), true, true, true, 1⟩], []⟩ : St)) ∧ SbInv 8 r nx' b := by
  obtain ⟨s', hb, nx', b, rfl, hinv⟩ := block_inv (T := T) (base := H.length) (id := 4) (body := a41_l0)
    (fun k s1 => ∃ nx' b, s1 = (⟨[(0, s), (3, (.slice (some ⟨(H.length + 2), 0, none⟩) 8 8)), (4, (.slice (some ⟨H.length + 1, 0, none⟩) 8 8)), (5, (.slice (some ⟨H.length, 0, none⟩) 8 8)), (6, v), (9, .int .u32 ((b : Nat))), (53, .int .i64 8), (54, .int .i64 ((k : Nat)))], H ++ [⟨u32s (nx'), true, true, true, 1⟩, ⟨u32s orderW, true, true, true, 1⟩, ⟨u32s (r), true, true, true, 1⟩], []⟩ : St) ∧ SbInv k r nx' b)
    (Q := fun s1 => ∃ nx' b, s1 = (⟨[(0, s), (3, (.slice (some ⟨(H.length + 2), 0, none⟩) 8 8)), (4, (.slice (some ⟨H.length + 1, 0, none⟩) 8 8)), (5, (.slice (some ⟨H.length, 0, none⟩) 8 8)), (6, v), (9, .int .u32 ((b : Nat))), (53, .int .i64 8), (54, .int .i64 (8)), (55, .bool false)], H ++ [⟨u32s (nx'), true, true, true, 1⟩, ⟨u32s orderW, true, true, true, 1⟩, ⟨u32s (r), true, true, true, 1⟩], []⟩ : St) ∧ SbInv 8 r nx' b)
    8 (s := (⟨[(0, s), (3, (.slice (some ⟨(H.length + 2), 0, none⟩) 8 8)), (4, (.slice (some ⟨H.length + 1, 0, none⟩) 8 8)), (5, (.slice (some ⟨H.length, 0, none⟩) 8 8)), (6, v), (9, .int .u32 (((0 : Nat) : Int))), (53, .int .i64 8), (54, .int .i64 (((0 : Nat) : Int)))], H ++ [⟨u32s (nx), true, true, true, 1⟩, ⟨u32s orderW, true, true, true, 1⟩, ⟨u32s (r), true, true, true, 1⟩], []⟩ : St)) ⟨_, _, rfl, ⟨hl2, hr2, by decide, by simp [num]⟩⟩
    (fun k s1 hk hs => by
      obtain ⟨nx', b, rfl, hI⟩ := hs
      obtain ⟨x, hx⟩ : ∃ x, r[k]? = some x := ⟨_, List.getElem?_eq_getElem (by omega)⟩
      obtain ⟨l, hlk⟩ : ∃ l, orderW[k]? = some l := ⟨_, List.getElem?_eq_getElem (show k < orderW.length from hk)⟩
      exact ⟨_, sb_body1 hk hI.len hx (hr x (List.mem_of_getElem? hx)) hlk hI.ble, _, _, rfl, hI.step hr hk hx hlk⟩)
    (fun s1 hs => by
      obtain ⟨nx', b, rfl, hI⟩ := hs
      have h1 : ¬ (((8 : Nat) : Int) < (8 : Int)) := by omega
      refine ⟨_, ?_, nx', b, rfl, hI⟩
      simp only [a41_l0, envOf, evCode_skip, evCode_exit, evCode_seq, evCode_region, evCode_cond, evCode_block, evCode_ret, evOps_cons, evOps_nil, guardOf, simpleOp, opd, opds, opdOpt, opdParts, Env.get, Env.put, pureV, Option.bind_some, List.nil_append, List.cons_append, inMerge, pairsOk, List.all_nil, List.all_cons, St.after, Env.keep, if_true, if_false, ite_true, ite_false, binV, intBin, unV, shiftOp, resultOf, packed, reduceCtorEq, Option.isNone_none, Option.isSome_none, Bool.false_eq_true, Nat.reduceAdd, Nat.reduceEqDiff, Nat.reduceMul, Nat.zero_add, List.length_cons, List.length_nil, beq_self_eq_true, Bool.not_true, Bool.not_false, evOper_move, evOper_pick, evOper_alloc, evOper_box, evOper_load, evOper_store, evOper_bin, evOper_eqv, evOper_isNil, evOper_un, evOper_conv, evOper_convStr, evOper_s2b, evOper_b2s, evOper_field, evOper_index, evOper_indexStr, evOper_build, evOper_buildSlice, evOper_fieldAddr, evOper_indexAddr, evOper_indexSl, evOper_sliceArr, evOper_sliceSl, evOper_sliceStr, evOper_makeSlice, evOper_extract, evOper_mkIface, evOper_mkFunc, evOper_nilCheck, evOper_s2ap, evOper_append, evOper_copy, evOper_len, evOper_minmax, evOper_call, evOper_callVal, Ob.fresh, live0, live1, live2, Int.natCast_nonneg, and_self, true_and, and_true, Int.toNat_natCast, Nat.mul_one, addr_add, partL, cells_int, cells_int_size, okVar, splice_single, Nat.lt_irrefl, false_and, decide_true, decide_false, Nat.add_zero, Int.reduceEq, Int.reduceLT, Int.reduceLE, Int.reduceToNat, Nat.reduceLT, Nat.reduceSub, rf_int, rf_tuple_ints, toList2, Bool.and_true, Bool.true_and, Bool.and_self, List.getElem?_cons_zero, List.getElem?_cons_succ, nlt1, nlt2, nlt3, nlt4, Nat.le_refl, Int.le_refl, Nat.not_lt_zero, Nat.sub_zero, Nat.zero_mul, cells_agg, cells_agg_size, h1]
      rfl)
  exact ⟨nx', b, hb, hinv⟩
end Go.Ev.Ytaceeoghjgggjaa

/-
  scalar.times: the words of a product.
-/
import Derived.Test.YtaceeoghjgggjaaSW2
set_option linter.unusedSimpArgs false
set_option linter.unusedVariables false
namespace Go.Ev.Ytaceeoghjgggjaa
open Go Go.Ev
attribute [local congr] bind_congr1
set_option maxRecDepth 100000

/-- What the inner loop of 'times' does to the words and the carry. -/
structure MulInv (n m i k A a : Nat) (os out : List Nat) (c : Nat) : Prop where
  len : out.length = n + m
  lt : ∀ x ∈ out, x < 4294967296
  clt : c < 4294967296
  eq : num 4294967296 out + c * 4294967296 ^ (i + k) = A + a * 4294967296 ^ i * num 4294967296 (os.take k)
  top : ∀ j, i + m ≤ j → j < n + m → out[j]? = some 0

theorem MulInv.step {n m i k A a b y c : Nat} {os out : List Nat} (h : MulInv n m i k A a os out c) (ha : a < 4294967296) (hb : os[k]? = some b) (hb' : b < 4294967296) (hy : out[i + k]? = some y) (hk : k < m) :
    MulInv n m i (k + 1) A a os (out.set (i + k) ((c + (y + a * b)) % 4294967296)) ((c + (y + a * b)) / 4294967296) := by
  have hy' : y < 4294967296 := h.lt y (List.mem_of_getElem? hy)
  have hc := h.clt
  refine ⟨by rw [List.length_set]; exact h.len, set_lt h.lt (Nat.mod_lt _ (by decide)), ?_, ?_, ?_⟩
  · have : a * b ≤ 4294967295 * 4294967295 := Nat.mul_le_mul (by omega) (by omega)
    rw [Nat.div_lt_iff_lt_mul (by decide)]
    show _ < 4294967296 * 4294967296
    omega
  · have h1 := num_set (B := 4294967296) ((c + (y + a * b)) % 4294967296) hy
    have h2 := h.eq
    rw [num_take hb]
    have h3 := Nat.div_add_mod (c + (y + a * b)) 4294967296
    generalize (c + (y + a * b)) / 4294967296 = q at *
    generalize (c + (y + a * b)) % 4294967296 = r at *
    have e1 : a * 4294967296 ^ i * (num 4294967296 (os.take k) + b * 4294967296 ^ k) = a * 4294967296 ^ i * num 4294967296 (os.take k) + a * b * 4294967296 ^ (i + k) := by
      rw [Nat.mul_add, Nat.pow_add]; congr 1; simp only [Nat.mul_assoc, Nat.mul_left_comm, Nat.mul_comm]
    have e2 : q * 4294967296 ^ (i + (k + 1)) = 4294967296 * q * 4294967296 ^ (i + k) := by
      rw [← Nat.add_assoc, Nat.pow_succ]; simp only [Nat.mul_assoc, Nat.mul_left_comm, Nat.mul_comm]
    rw [e1, e2]
    have e3 : (4294967296 * q + r) * 4294967296 ^ (i + k) = (c + (y + a * b)) * 4294967296 ^ (i + k) := by rw [h3]
    rw [Nat.add_mul, Nat.add_mul, Nat.add_mul] at e3
    omega
  · intro j h1 h2
    rw [List.getElem?_set_ne (by omega)]
    exact h.top j h1 h2

def mulI (H : List Ob) (s1 s2 : Value) (n m i a k c : Nat) (out : List Nat) : St :=
  ⟨[(1, s2), (5, .slice (some ⟨H.length, 0, none⟩) (n + m) (n + m)), (6, .int .i64 i), (7, .int .u32 a), (8, .int .u64 c), (17, s1), (18, .int .i64 n), (19, .int .i64 i), (24, s2), (25, .int .i64 m), (26, .int .i64 k)], H ++ [Ob.fresh (u32s out)], []⟩

theorem mul_inner {H : List Ob} {s1 : Value} {id2 off2 c2 n m i a k c b y : Nat} {os out : List Nat} (hr : Row .u32 H id2 off2 os) (hN : n + m < 2 ^ 40) (hi : i < n) (hk : k < m) (ha : a < 4294967296) (hb : os[k]? = some b) (hb' : b < 4294967296) (hl : out.length = n + m) (hy : out[i + k]? = some y) (hy' : y < 4294967296) (hc : c < 4294967296) :
    evCode T H.length a44_l0 (mulI H s1 (.slice (some ⟨id2, off2, none⟩) m c2) n m i a k c out) = some (.normal, mulI H s1 (.slice (some ⟨id2, off2, none⟩) m c2) n m i a (k + 1) ((c + (y + a * b)) / 4294967296) (out.set (i + k) ((c + (y + a * b)) % 4294967296))) := by
  obtain ⟨o, ho, hcell⟩ := hr
  have ho' := liveAt_app (l := [⟨u32s out, true, true, true, 1⟩]) ho
  have hxc := hcell k b hb
  have hyc := u32s_get hy
  have hab : a * b ≤ 4294967295 * 4294967295 := Nat.mul_le_mul (by omega) (by omega)
  have h1 : ((k : Int) < (m : Int)) := by omega
  have h2 : ((i + k : Nat) : Int) < ((n + m : Nat) : Int) := by omega
  have e1 : IntKind.i64.wrap ((i : Int) + (k : Int)) = ((i + k : Nat) : Int) := wrap_nat (n := i + k) (by omega)
  have e2 : IntKind.u64.wrap (y : Int) = (y : Nat) := wrap_small rfl (by show y < 2 ^ 64; omega)
  have e3 : IntKind.u64.wrap (a : Int) = (a : Nat) := wrap_small rfl (by show a < 2 ^ 64; omega)
  have e4 : IntKind.u64.wrap (b : Int) = (b : Nat) := wrap_small rfl (by show b < 2 ^ 64; omega)
  have e5 : IntKind.u64.wrap ((a : Int) * (b : Int)) = ((a * b : Nat) : Int) := wrap_small (n := a * b) rfl (by show _ < 2 ^ 64; omega)
  have e6 : IntKind.u64.wrap ((y : Int) + ((a * b : Nat) : Int)) = ((y + a * b : Nat) : Int) := wrap_small (n := y + a * b) rfl (by show _ < 2 ^ 64; omega)
  have e7 : IntKind.u64.wrap ((c : Int) + ((y + a * b : Nat) : Int)) = ((c + (y + a * b) : Nat) : Int) := wrap_small (n := c + (y + a * b)) rfl (by show _ < 2 ^ 64; omega)
  have e8 : IntKind.u32.wrap ((c + (y + a * b) : Nat) : Int) = (((c + (y + a * b)) % 4294967296 : Nat) : Int) := by rw [wrap_u32]; rfl
  have e9 : Int.fdiv ((c + (y + a * b) : Nat) : Int) (2 ^ min 32 IntKind.u64.bits) = (((c + (y + a * b)) / 4294967296 : Nat) : Int) := by
    rw [Int.fdiv_eq_ediv_of_nonneg _ (by decide)]; rfl
  have e10 : IntKind.i64.wrap ((k : Int) + 1) = ((k + 1 : Nat) : Int) := wrap_nat (n := k + 1) (by omega)
  have h5 : i + k + 1 ≤ (u32s out).length := by rw [u32s_len, hl]; omega
  simp only [mulI, a44_l0, envOf, evCode_skip, evCode_exit, evCode_seq, evCode_region, evCode_cond, evCode_block, evCode_ret, evOps_cons, evOps_nil, guardOf, simpleOp, opd, opds, opdOpt, opdParts, Env.get, Env.put, pureV, Option.bind_some, List.nil_append, List.cons_append, inMerge, pairsOk, List.all_nil, List.all_cons, St.after, Env.keep, if_true, if_false, ite_true, ite_false, binV, intBin, unV, shiftOp, resultOf, packed, reduceCtorEq, Option.isNone_none, Option.isSome_none, Bool.false_eq_true, Nat.reduceAdd, Nat.reduceEqDiff, Nat.reduceMul, Nat.zero_add, List.length_cons, List.length_nil, beq_self_eq_true, Bool.not_true, Bool.not_false, evOper_move, evOper_pick, evOper_alloc, evOper_box, evOper_load, evOper_store, evOper_bin, evOper_eqv, evOper_isNil, evOper_un, evOper_conv, evOper_convStr, evOper_s2b, evOper_b2s, evOper_field, evOper_index, evOper_indexStr, evOper_build, evOper_buildSlice, evOper_fieldAddr, evOper_indexAddr, evOper_indexSl, evOper_sliceArr, evOper_sliceSl, evOper_sliceStr, evOper_makeSlice, evOper_extract, evOper_mkIface, evOper_mkFunc, evOper_nilCheck, evOper_s2ap, evOper_append, evOper_copy, evOper_len, evOper_minmax, evOper_call, evOper_callVal, Ob.fresh, live0, live1, live2, Int.natCast_nonneg, and_self, true_and, and_true, Int.toNat_natCast, Nat.mul_one, addr_add, partL, cells_int, cells_int_size, okVar, splice_single, Nat.lt_irrefl, false_and, decide_true, decide_false, Nat.add_zero, Int.reduceEq, Int.reduceLT, Int.reduceLE, Int.reduceToNat, Nat.reduceLT, Nat.reduceSub, rf_int, rf_tuple_ints, toList2, Bool.and_true, Bool.true_and, Bool.and_self, List.getElem?_cons_zero, List.getElem?_cons_succ, nlt1, nlt2, nlt3, nlt4, Nat.le_refl, Int.le_refl, Nat.not_lt_zero, Nat.sub_zero, Nat.zero_mul, cells_agg, cells_agg_size, h1, h2, ho', hxc, hyc, e1, e2, e3, e4, e5, e6, e7, e8, e9, e10, h5, storeAt0, u32s_set]

structure TimesInv (n m i : Nat) (ws os out : List Nat) : Prop where
  len : out.length = n + m
  lt : ∀ x ∈ out, x < 4294967296
  eq : num 4294967296 out = num 4294967296 (ws.take i) * num 4294967296 os
  top : ∀ j, i + m ≤ j → j < n + m → out[j]? = some 0

def timesI (H : List Ob) (s1 s2 : Value) (n m i : Nat) (out : List Nat) : St :=
  ⟨[(1, s2), (5, .slice (some ⟨H.length, 0, none⟩) (n + m) (n + m)), (17, s1), (18, .int .i64 n), (19, .int .i64 i)], H ++ [Ob.fresh (u32s out)], []⟩

theorem times_outer {H : List Ob} {id1 off1 c1 id2 off2 c2 n m i a : Nat} {ws os out : List Nat} (hr1 : Row .u32 H id1 off1 ws) (hr2 : Row .u32 H id2 off2 os) (hm : os.length = m) (hN : n + m < 2 ^ 40) (hi : i < n) (ha : ws[i]? = some a) (ha' : a < 4294967296) (hos : ∀ x ∈ os, x < 4294967296) (h : TimesInv n m i ws os out) :
    ∃ out', evCode T H.length a44_l1 (timesI H (.slice (some ⟨id1, off1, none⟩) n c1) (.slice (some ⟨id2, off2, none⟩) m c2) n m i out) = some (.normal, timesI H (.slice (some ⟨id1, off1, none⟩) n c1) (.slice (some ⟨id2, off2, none⟩) m c2) n m (i + 1) out') ∧ TimesInv n m (i + 1) ws os out' := by
  have h0 : MulInv n m i 0 (num 4294967296 out) a os out 0 := ⟨h.len, h.lt, by decide, by simp [num], h.top⟩
  obtain ⟨s', hb, out1, c, rfl, hinv⟩ := block_inv (T := T) (base := H.length) (id := 2) (body := a44_l0)
    (fun k s => ∃ out1 c, s = mulI H (.slice (some ⟨id1, off1, none⟩) n c1) (.slice (some ⟨id2, off2, none⟩) m c2) n m i a k c out1 ∧ MulInv n m i k (num 4294967296 out) a os out1 c)
    (Q := fun s => ∃ out1 c, s = ⟨[(1, .slice (some ⟨id2, off2, none⟩) m c2), (5, .slice (some ⟨H.length, 0, none⟩) (n + m) (n + m)), (6, .int .i64 i), (7, .int .u32 a), (8, .int .u64 (c : Nat)), (17, .slice (some ⟨id1, off1, none⟩) n c1), (18, .int .i64 n), (19, .int .i64 i), (24, .slice (some ⟨id2, off2, none⟩) m c2), (25, .int .i64 m), (26, .int .i64 m), (27, .bool false)], H ++ [⟨u32s out1, true, true, true, 1⟩], []⟩ ∧ MulInv n m i m (num 4294967296 out) a os out1 c)
    m ⟨out, 0, rfl, h0⟩
    (fun k s hk hs => by
      obtain ⟨out1, c, rfl, hI⟩ := hs
      obtain ⟨b, hbk⟩ : ∃ b, os[k]? = some b := ⟨_, List.getElem?_eq_getElem (by omega)⟩
      obtain ⟨y, hy⟩ : ∃ y, out1[i + k]? = some y := ⟨_, List.getElem?_eq_getElem (by rw [hI.len]; omega)⟩
      have hb' := hos b (List.mem_of_getElem? hbk)
      exact ⟨_, mul_inner hr2 hN hi hk ha' hbk hb' hI.len hy (hI.lt y (List.mem_of_getElem? hy)) hI.clt, _, _, rfl, hI.step ha' hbk hb' hy hk⟩)
    (fun s hs => by
      obtain ⟨out1, c, rfl, hI⟩ := hs
      have h1 : ¬ ((m : Int) < (m : Int)) := by omega
      refine ⟨_, ?_, out1, c, rfl, hI⟩
      simp only [mulI, a44_l0, envOf, evCode_skip, evCode_exit, evCode_seq, evCode_region, evCode_cond, evCode_block, evCode_ret, evOps_cons, evOps_nil, guardOf, simpleOp, opd, opds, opdOpt, opdParts, Env.get, Env.put, pureV, Option.bind_some, List.nil_append, List.cons_append, inMerge, pairsOk, List.all_nil, List.all_cons, St.after, Env.keep, if_true, if_false, ite_true, ite_false, binV, intBin, unV, shiftOp, resultOf, packed, reduceCtorEq, Option.isNone_none, Option.isSome_none, Bool.false_eq_true, Nat.reduceAdd, Nat.reduceEqDiff, Nat.reduceMul, Nat.zero_add, List.length_cons, List.length_nil, beq_self_eq_true, Bool.not_true, Bool.not_false, evOper_move, evOper_pick, evOper_alloc, evOper_box, evOper_load, evOper_store, evOper_bin, evOper_eqv, evOper_isNil, evOper_un, evOper_conv, evOper_convStr, evOper_s2b, evOper_b2s, evOper_field, evOper_index, evOper_indexStr, evOper_build, evOper_buildSlice, evOper_fieldAddr, evOper_indexAddr, evOper_indexSl, evOper_sliceArr, evOper_sliceSl, evOper_sliceStr, evOper_makeSlice, evOper_extract, evOper_mkIface, evOper_mkFunc, evOper_nilCheck, evOper_s2ap, evOper_append, evOper_copy, evOper_len, evOper_minmax, evOper_call, evOper_callVal, Ob.fresh, live0, live1, live2, Int.natCast_nonneg, and_self, true_and, and_true, Int.toNat_natCast, Nat.mul_one, addr_add, partL, cells_int, cells_int_size, okVar, splice_single, Nat.lt_irrefl, false_and, decide_true, decide_false, Nat.add_zero, Int.reduceEq, Int.reduceLT, Int.reduceLE, Int.reduceToNat, Nat.reduceLT, Nat.reduceSub, rf_int, rf_tuple_ints, toList2, Bool.and_true, Bool.true_and, Bool.and_self, List.getElem?_cons_zero, List.getElem?_cons_succ, nlt1, nlt2, nlt3, nlt4, Nat.le_refl, Int.le_refl, Nat.not_lt_zero, Nat.sub_zero, Nat.zero_mul, cells_agg, cells_agg_size, h1])
  rw [show mulI H (.slice (some ⟨id1, off1, none⟩) n c1) (.slice (some ⟨id2, off2, none⟩) m c2) n m i a 0 0 out = ⟨[(1, .slice (some ⟨id2, off2, none⟩) m c2), (5, .slice (some ⟨H.length, 0, none⟩) (n + m) (n + m)), (6, .int .i64 i), (7, .int .u32 a), (8, .int .u64 0), (17, .slice (some ⟨id1, off1, none⟩) n c1), (18, .int .i64 n), (19, .int .i64 i), (24, .slice (some ⟨id2, off2, none⟩) m c2), (25, .int .i64 m), (26, .int .i64 0)], H ++ [⟨u32s out, true, true, true, 1⟩], []⟩ from rfl] at hb
  obtain ⟨o, ho, hcell⟩ := hr1
  have ho' := liveAt_app (l := [⟨u32s out, true, true, true, 1⟩]) ho
  have hxc := hcell i a ha
  have hz : out1[i + m]? = some 0 := hinv.top (i + m) (Nat.le_refl _) (by omega)
  have h1 : ((i : Int) < (n : Int)) := by omega
  have h2 : ((i + m : Nat) : Int) < ((n + m : Nat) : Int) := by omega
  have e1 : IntKind.i64.wrap ((i : Int) + (m : Int)) = ((i + m : Nat) : Int) := wrap_nat (n := i + m) (by omega)
  have e2 : IntKind.u32.wrap (c : Int) = (c : Nat) := wrap_small rfl hinv.clt
  have e10 : IntKind.i64.wrap ((i : Int) + 1) = ((i + 1 : Nat) : Int) := wrap_nat (n := i + 1) (by omega)
  have h5 : i + m + 1 ≤ (u32s out1).length := by rw [u32s_len, hinv.len]; omega
  refine ⟨out1.set (i + m) c, ?_, ?_⟩
  · simp only [timesI, a44_l1, envOf, evCode_skip, evCode_exit, evCode_seq, evCode_region, evCode_cond, evCode_block, evCode_ret, evOps_cons, evOps_nil, guardOf, simpleOp, opd, opds, opdOpt, opdParts, Env.get, Env.put, pureV, Option.bind_some, List.nil_append, List.cons_append, inMerge, pairsOk, List.all_nil, List.all_cons, St.after, Env.keep, if_true, if_false, ite_true, ite_false, binV, intBin, unV, shiftOp, resultOf, packed, reduceCtorEq, Option.isNone_none, Option.isSome_none, Bool.false_eq_true, Nat.reduceAdd, Nat.reduceEqDiff, Nat.reduceMul, Nat.zero_add, List.length_cons, List.length_nil, beq_self_eq_true, Bool.not_true, Bool.not_false, evOper_move, evOper_pick, evOper_alloc, evOper_box, evOper_load, evOper_store, evOper_bin, evOper_eqv, evOper_isNil, evOper_un, evOper_conv, evOper_convStr, evOper_s2b, evOper_b2s, evOper_field, evOper_index, evOper_indexStr, evOper_build, evOper_buildSlice, evOper_fieldAddr, evOper_indexAddr, evOper_indexSl, evOper_sliceArr, evOper_sliceSl, evOper_sliceStr, evOper_makeSlice, evOper_extract, evOper_mkIface, evOper_mkFunc, evOper_nilCheck, evOper_s2ap, evOper_append, evOper_copy, evOper_len, evOper_minmax, evOper_call, evOper_callVal, Ob.fresh, live0, live1, live2, Int.natCast_nonneg, and_self, true_and, and_true, Int.toNat_natCast, Nat.mul_one, addr_add, partL, cells_int, cells_int_size, okVar, splice_single, Nat.lt_irrefl, false_and, decide_true, decide_false, Nat.add_zero, Int.reduceEq, Int.reduceLT, Int.reduceLE, Int.reduceToNat, Nat.reduceLT, Nat.reduceSub, rf_int, rf_tuple_ints, toList2, Bool.and_true, Bool.true_and, Bool.and_self, List.getElem?_cons_zero, List.getElem?_cons_succ, nlt1, nlt2, nlt3, nlt4, Nat.le_refl, Int.le_refl, Nat.not_lt_zero, Nat.sub_zero, Nat.zero_mul, cells_agg, cells_agg_size, h1, h2, ho', hxc, hb, e1, e2, e10, h5, storeAt0, u32s_set]
  · refine ⟨by rw [List.length_set]; exact hinv.len, set_lt hinv.lt hinv.clt, ?_, ?_⟩
    · have h6 := num_set (B := 4294967296) c hz
      have h7 := hinv.eq
      rw [show os.take m = os by rw [← hm]; exact List.take_length, h.eq] at h7
      rw [num_take ha, Nat.add_mul]
      omega
    · intro j h6 h7
      rw [List.getElem?_set_ne (by omega)]
      exact hinv.top j (by omega) h7

theorem times_ev {H : List Ob} {id1 off1 c1 id2 off2 c2 n m : Nat} {ws os : List Nat} (hr1 : Row .u32 H id1 off1 ws) (hr2 : Row .u32 H id2 off2 os) (hn : ws.length = n) (hm : os.length = m) (hN : n + m < 2 ^ 40) (hws : ∀ x ∈ ws, x < 4294967296) (hos : ∀ x ∈ os, x < 4294967296) :
    evFun T 44 [.slice (some ⟨id1, off1, none⟩) n c1, .slice (some ⟨id2, off2, none⟩) m c2] H = some (.slice (some ⟨H.length, 0, none⟩) (n + m) (n + m), H ++ [Ob.fresh (u32s (dig 4294967296 (n + m) (num 4294967296 ws * num 4294967296 os)))], []) := by
  have h0 : TimesInv n m 0 ws os (dig 4294967296 (n + m) 0) := ⟨dig_len _ _ _, fun x hx => dig_lt (by decide) hx, by rw [num_dig (by decide)]; simp [num], fun j _ h => by rw [dig_get h]; simp⟩
  obtain ⟨s', hb, out, rfl, hinv⟩ := block_inv (T := T) (base := H.length) (id := 0) (body := a44_l1)
    (fun i s => ∃ out, s = timesI H (.slice (some ⟨id1, off1, none⟩) n c1) (.slice (some ⟨id2, off2, none⟩) m c2) n m i out ∧ TimesInv n m i ws os out)
    (Q := fun s => ∃ out, s = ⟨[(1, .slice (some ⟨id2, off2, none⟩) m c2), (5, .slice (some ⟨H.length, 0, none⟩) (n + m) (n + m)), (17, .slice (some ⟨id1, off1, none⟩) n c1), (18, .int .i64 n), (19, .int .i64 n), (20, .bool false)], H ++ [⟨u32s out, true, true, true, 1⟩], []⟩ ∧ TimesInv n m n ws os out)
    n ⟨_, rfl, h0⟩
    (fun i s hi hs => by
      obtain ⟨out, rfl, hI⟩ := hs
      obtain ⟨a, ha⟩ : ∃ a, ws[i]? = some a := ⟨_, List.getElem?_eq_getElem (by omega)⟩
      obtain ⟨out', g1, g2⟩ := times_outer (c1 := c1) (c2 := c2) hr1 hr2 hm hN hi ha (hws a (List.mem_of_getElem? ha)) hos hI
      exact ⟨_, g1, _, rfl, g2⟩)
    (fun s hs => by
      obtain ⟨out, rfl, hI⟩ := hs
      have h1 : ¬ ((n : Int) < (n : Int)) := by omega
      refine ⟨_, ?_, out, rfl, hI⟩
      simp only [timesI, a44_l1, envOf, evCode_skip, evCode_exit, evCode_seq, evCode_region, evCode_cond, evCode_block, evCode_ret, evOps_cons, evOps_nil, guardOf, simpleOp, opd, opds, opdOpt, opdParts, Env.get, Env.put, pureV, Option.bind_some, List.nil_append, List.cons_append, inMerge, pairsOk, List.all_nil, List.all_cons, St.after, Env.keep, if_true, if_false, ite_true, ite_false, binV, intBin, unV, shiftOp, resultOf, packed, reduceCtorEq, Option.isNone_none, Option.isSome_none, Bool.false_eq_true, Nat.reduceAdd, Nat.reduceEqDiff, Nat.reduceMul, Nat.zero_add, List.length_cons, List.length_nil, beq_self_eq_true, Bool.not_true, Bool.not_false, evOper_move, evOper_pick, evOper_alloc, evOper_box, evOper_load, evOper_store, evOper_bin, evOper_eqv, evOper_isNil, evOper_un, evOper_conv, evOper_convStr, evOper_s2b, evOper_b2s, evOper_field, evOper_index, evOper_indexStr, evOper_build, evOper_buildSlice, evOper_fieldAddr, evOper_indexAddr, evOper_indexSl, evOper_sliceArr, evOper_sliceSl, evOper_sliceStr, evOper_makeSlice, evOper_extract, evOper_mkIface, evOper_mkFunc, evOper_nilCheck, evOper_s2ap, evOper_append, evOper_copy, evOper_len, evOper_minmax, evOper_call, evOper_callVal, Ob.fresh, live0, live1, live2, Int.natCast_nonneg, and_self, true_and, and_true, Int.toNat_natCast, Nat.mul_one, addr_add, partL, cells_int, cells_int_size, okVar, splice_single, Nat.lt_irrefl, false_and, decide_true, decide_false, Nat.add_zero, Int.reduceEq, Int.reduceLT, Int.reduceLE, Int.reduceToNat, Nat.reduceLT, Nat.reduceSub, rf_int, rf_tuple_ints, toList2, Bool.and_true, Bool.true_and, Bool.and_self, List.getElem?_cons_zero, List.getElem?_cons_succ, nlt1, nlt2, nlt3, nlt4, Nat.le_refl, Int.le_refl, Nat.not_lt_zero, Nat.sub_zero, Nat.zero_mul, cells_agg, cells_agg_size, h1])
  rw [show timesI H (.slice (some ⟨id1, off1, none⟩) n c1) (.slice (some ⟨id2, off2, none⟩) m c2) n m 0 (dig 4294967296 (n + m) 0) = ⟨[(1, .slice (some ⟨id2, off2, none⟩) m c2), (5, .slice (some ⟨H.length, 0, none⟩) (n + m) (n + m)), (17, .slice (some ⟨id1, off1, none⟩) n c1), (18, .int .i64 n), (19, .int .i64 0)], H ++ [⟨u32s (dig 4294967296 (n + m) 0), true, true, true, 1⟩], []⟩ from rfl] at hb
  have hout : dig 4294967296 (n + m) (num 4294967296 ws * num 4294967296 os) = out := by
    have h1 := hinv.eq
    rw [show ws.take n = ws by rw [← hn]; exact List.take_length] at h1
    rw [← h1, ← hinv.len, dig_num (by decide) hinv.lt]
  have e1 : IntKind.i64.wrap ((n : Int) + (m : Int)) = ((n + m : Nat) : Int) := wrap_nat (n := n + m) (by omega)
  have h1 : (((n + m : Nat) : Int) * ((4 : Nat) : Int) ≤ 2 ^ 47) := by omega
  have h2 : (0 : Nat) < 4 := by decide
  rw [evFun_fn (fn := a44) rfl, hout]
  simp only [a44, envOf, evCode_skip, evCode_exit, evCode_seq, evCode_region, evCode_cond, evCode_block, evCode_ret, evOps_cons, evOps_nil, guardOf, simpleOp, opd, opds, opdOpt, opdParts, Env.get, Env.put, pureV, Option.bind_some, List.nil_append, List.cons_append, inMerge, pairsOk, List.all_nil, List.all_cons, St.after, Env.keep, if_true, if_false, ite_true, ite_false, binV, intBin, unV, shiftOp, resultOf, packed, reduceCtorEq, Option.isNone_none, Option.isSome_none, Bool.false_eq_true, Nat.reduceAdd, Nat.reduceEqDiff, Nat.reduceMul, Nat.zero_add, List.length_cons, List.length_nil, beq_self_eq_true, Bool.not_true, Bool.not_false, evOper_move, evOper_pick, evOper_alloc, evOper_box, evOper_load, evOper_store, evOper_bin, evOper_eqv, evOper_isNil, evOper_un, evOper_conv, evOper_convStr, evOper_s2b, evOper_b2s, evOper_field, evOper_index, evOper_indexStr, evOper_build, evOper_buildSlice, evOper_fieldAddr, evOper_indexAddr, evOper_indexSl, evOper_sliceArr, evOper_sliceSl, evOper_sliceStr, evOper_makeSlice, evOper_extract, evOper_mkIface, evOper_mkFunc, evOper_nilCheck, evOper_s2ap, evOper_append, evOper_copy, evOper_len, evOper_minmax, evOper_call, evOper_callVal, Ob.fresh, live0, live1, live2, Int.natCast_nonneg, and_self, true_and, and_true, Int.toNat_natCast, Nat.mul_one, addr_add, partL, cells_int, cells_int_size, okVar, splice_single, Nat.lt_irrefl, false_and, decide_true, decide_false, Nat.add_zero, Int.reduceEq, Int.reduceLT, Int.reduceLE, Int.reduceToNat, Nat.reduceLT, Nat.reduceSub, rf_int, rf_tuple_ints, toList2, Bool.and_true, Bool.true_and, Bool.and_self, List.getElem?_cons_zero, List.getElem?_cons_succ, nlt1, nlt2, nlt3, nlt4, Nat.le_refl, Int.le_refl, Nat.not_lt_zero, Nat.sub_zero, Nat.zero_mul, cells_agg, cells_agg_size, e1, h1, h2, Int.le_refl, flat_one, u32s_zero, hb]
end Go.Ev.Ytaceeoghjgggjaa

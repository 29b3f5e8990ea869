/-
  scalar.bytes: the bytes of eight words.
-/
import Derived.Test.YtaceeoghjgggjaaSW6
set_option linter.unusedSimpArgs false
set_option linter.unusedVariables false
namespace Go.Ev.Ytaceeoghjgggjaa
open Go Go.Ev
attribute [local congr] bind_congr1
set_option maxRecDepth 100000

theorem splice_all {cs v : List Value} (h : v.length = cs.length) : splice cs 0 v = v := by
  rw [splice_gen _ _ _ (by omega), List.take_zero, List.nil_append, Nat.zero_add, h, List.drop_length, List.append_nil]
theorem u8s_zero (n : Nat) : List.replicate n (Value.int .u8 0) = u8s (dig 256 n 0) := by simp [dig_zero, u8s]

theorem byte_of {v w i : Nat} (hw : v / 4294967296 ^ (i / 4) % 4294967296 = w) : w / 2 ^ (8 * (i % 4)) % 256 = v / 256 ^ i % 256 := by
  subst hw
  have e1 : (4294967296 : Nat) ^ (i / 4) = 2 ^ (32 * (i / 4)) := by rw [show (4294967296 : Nat) = 2 ^ 32 from rfl, ← Nat.pow_mul]
  have e2 : (256 : Nat) ^ i = 2 ^ (32 * (i / 4)) * 2 ^ (8 * (i % 4)) := by
    rw [show (256 : Nat) = 2 ^ 8 from rfl, ← Nat.pow_mul, ← Nat.pow_add]; congr 1; omega
  rw [e1, e2, ← Nat.div_div_eq_div_mul]
  generalize v / 2 ^ (32 * (i / 4)) = u
  have e3 : (4294967296 : Nat) = 2 ^ (8 * (i % 4)) * 2 ^ (32 - 8 * (i % 4)) := by rw [← Nat.pow_add]; rw [show 8 * (i % 4) + (32 - 8 * (i % 4)) = 32 by omega]
  rw [e3, Nat.mod_mul_right_div_self, Nat.mod_mod_of_dvd]
  exact ⟨2 ^ (24 - 8 * (i % 4)), by rw [show (256 : Nat) = 2 ^ 8 from rfl, ← Nat.pow_add]; congr 1; omega⟩

def byI (H : List Ob) (s : Value) (i : Int) (k : List Nat) (ex : Env) : St :=
  ⟨[(0, s), (2, .pointer (some ⟨H.length, 0, none⟩)), (3, .pointer (some ⟨H.length + 1, 0, none⟩)), (5, .int .i64 i)] ++ ex, H ++ [⟨u8s (dig 256 32 0), true, true, true, 1⟩, ⟨u8s k, true, true, true, 1⟩], []⟩

theorem by_body {H : List Ob} {id off cap i w : Nat} {ws k : List Nat} (hr : Row .u32 H id off ws) (hn : ws.length = 8) (hi : i < 32) (hw : ws[i / 4]? = some w) (hl : k.length = 32) :
    evCode T H.length a42_l0 (byI H (.slice (some ⟨id, off, none⟩) 8 cap) (i : Nat) k []) = some (.normal, byI H (.slice (some ⟨id, off, none⟩) 8 cap) ((i + 1 : Nat) : Int) (k.set i (w / 2 ^ (8 * (i % 4)) % 256)) []) := by
  obtain ⟨o, ho, hcell⟩ := hr
  have ho' := liveAt_app (l := [⟨u8s (dig 256 32 0), true, true, true, 1⟩, ⟨u8s k, true, true, true, 1⟩]) ho
  have hwc := hcell (i / 4) w hw
  have h1 : ((i : Int) < 32) := by omega
  have h1' : ((i : Int) < ((32 : Nat) : Int)) := by omega
  have h2 : ((i / 4 : Nat) : Int) < ((8 : Nat) : Int) := by omega
  have h2' : ((i / 4 : Nat) : Int) < (8 : Int) := by omega
  have h4 : ¬ (((8 * (i % 4) : Nat) : Int) < 0) := by omega
  have e1 : IntKind.i64.wrap ((i : Int).tdiv 4) = ((i / 4 : Nat) : Int) := wrap_nat (n := i / 4) (by omega)
  have e2 : ((i : Int).tmod 4) = ((i % 4 : Nat) : Int) := rfl
  have e3 : IntKind.i64.wrap (8 * ((i % 4 : Nat) : Int)) = ((8 * (i % 4) : Nat) : Int) := wrap_nat (n := 8 * (i % 4)) (by omega)
  have e4 : Int.fdiv (w : Int) (2 ^ min (8 * (i % 4)) IntKind.u32.bits) = ((w / 2 ^ (8 * (i % 4)) : Nat) : Int) := by
    rw [Nat.min_eq_left (by show _ ≤ 32; omega), Int.fdiv_eq_ediv_of_nonneg _ (Int.le_of_lt (Int.pow_pos (by decide)))]; simp
  have e5 : IntKind.u8.wrap ((w / 2 ^ (8 * (i % 4)) : Nat) : Int) = ((w / 2 ^ (8 * (i % 4)) % 256 : Nat) : Int) := by rw [wrap_u8]; rfl
  have e6 : IntKind.i64.wrap ((i : Int) + 1) = ((i + 1 : Nat) : Int) := wrap_nat (n := i + 1) (by omega)
  have h5 : i + 1 ≤ (u8s k).length := by rw [u8s_len, hl]; omega
  simp only [byI, a42_l0, envOf, evCode_skip, evCode_exit, evCode_seq, evCode_region, evCode_cond, evCode_block, evCode_ret, evOps_cons, evOps_nil, guardOf, simpleOp, opd, opds, opdOpt, opdParts, Env.get, Env.put, pureV, Option.bind_some, List.nil_append, List.cons_append, inMerge, pairsOk, List.all_nil, List.all_cons, St.after, Env.keep, if_true, if_false, ite_true, ite_false, binV, intBin, unV, shiftOp, resultOf, packed, reduceCtorEq, Option.isNone_none, Option.isSome_none, Bool.false_eq_true, Nat.reduceAdd, Nat.reduceEqDiff, Nat.reduceMul, Nat.zero_add, List.length_cons, List.length_nil, beq_self_eq_true, Bool.not_true, Bool.not_false, evOper_move, evOper_pick, evOper_alloc, evOper_box, evOper_load, evOper_store, evOper_bin, evOper_eqv, evOper_isNil, evOper_un, evOper_conv, evOper_convStr, evOper_s2b, evOper_b2s, evOper_field, evOper_index, evOper_indexStr, evOper_build, evOper_buildSlice, evOper_fieldAddr, evOper_indexAddr, evOper_indexSl, evOper_sliceArr, evOper_sliceSl, evOper_sliceStr, evOper_makeSlice, evOper_extract, evOper_mkIface, evOper_mkFunc, evOper_nilCheck, evOper_s2ap, evOper_append, evOper_copy, evOper_len, evOper_minmax, evOper_call, evOper_callVal, Ob.fresh, live0, live1, live2, Int.natCast_nonneg, and_self, true_and, and_true, Int.toNat_natCast, Nat.mul_one, addr_add, partL, cells_int, cells_int_size, okVar, splice_single, Nat.lt_irrefl, false_and, decide_true, decide_false, Nat.add_zero, Int.reduceEq, Int.reduceLT, Int.reduceLE, Int.reduceToNat, Nat.reduceLT, Nat.reduceSub, rf_int, rf_tuple_ints, toList2, Bool.and_true, Bool.true_and, Bool.and_self, List.getElem?_cons_zero, List.getElem?_cons_succ, nlt1, nlt2, nlt3, nlt4, Nat.le_refl, Int.le_refl, Nat.not_lt_zero, Nat.sub_zero, Nat.zero_mul, cells_agg, cells_agg_size, h1, h1', h2, h2', h4, ho', hwc, e1, e2, e3, e4, e5, e6, h5, storeAt1, u8s_set]

theorem bytes_ev {H : List Ob} {id off cap v : Nat} (hr : Row .u32 H id off (dig 4294967296 8 v)) :
    ∃ l, evFun T 42 [.slice (some ⟨id, off, none⟩) 8 cap] H = some (.agg (u8s (dig 256 32 v)).toArray, H ++ l, []) := by
  obtain ⟨s', hb, k, rfl, hlen, hk⟩ := block_inv (T := T) (base := H.length) (id := 0) (body := a42_l0)
    (fun i s => ∃ k, s = byI H (.slice (some ⟨id, off, none⟩) 8 cap) (i : Nat) k [] ∧ k.length = 32 ∧ ∀ t, t < i → k[t]? = some (v / 256 ^ t % 256))
    (Q := fun s => ∃ k, s = byI H (.slice (some ⟨id, off, none⟩) 8 cap) 32 k [(6, .bool false)] ∧ k.length = 32 ∧ ∀ t, t < 32 → k[t]? = some (v / 256 ^ t % 256))
    32 (s := byI H (.slice (some ⟨id, off, none⟩) 8 cap) ((0 : Nat) : Int) (dig 256 32 0) []) ⟨_, rfl, dig_len _ _ _, fun t ht => by omega⟩
    (fun i s hi hs => by
      obtain ⟨k, rfl, hl, hk⟩ := hs
      refine ⟨_, by_body hr (dig_len _ _ _) hi (dig_get (by omega)) hl, _, rfl, by rw [List.length_set]; exact hl, fun t ht => ?_⟩
      by_cases h : t = i
      · subst h
        rw [List.getElem?_set_self (by omega), byte_of rfl]
      · rw [List.getElem?_set_ne (by omega)]
        exact hk t (by omega))
    (fun s hs => by
      obtain ⟨k, rfl, hl, hk⟩ := hs
      have h1 : ¬ (((32 : Nat) : Int) < (32 : Int)) := by omega
      refine ⟨_, ?_, k, rfl, hl, hk⟩
      simp only [byI, a42_l0, envOf, evCode_skip, evCode_exit, evCode_seq, evCode_region, evCode_cond, evCode_block, evCode_ret, evOps_cons, evOps_nil, guardOf, simpleOp, opd, opds, opdOpt, opdParts, Env.get, Env.put, pureV, Option.bind_some, List.nil_append, List.cons_append, inMerge, pairsOk, List.all_nil, List.all_cons, St.after, Env.keep, if_true, if_false, ite_true, ite_false, binV, intBin, unV, shiftOp, resultOf, packed, reduceCtorEq, Option.isNone_none, Option.isSome_none, Bool.false_eq_true, Nat.reduceAdd, Nat.reduceEqDiff, Nat.reduceMul, Nat.zero_add, List.length_cons, List.length_nil, beq_self_eq_true, Bool.not_true, Bool.not_false, evOper_move, evOper_pick, evOper_alloc, evOper_box, evOper_load, evOper_store, evOper_bin, evOper_eqv, evOper_isNil, evOper_un, evOper_conv, evOper_convStr, evOper_s2b, evOper_b2s, evOper_field, evOper_index, evOper_indexStr, evOper_build, evOper_buildSlice, evOper_fieldAddr, evOper_indexAddr, evOper_indexSl, evOper_sliceArr, evOper_sliceSl, evOper_sliceStr, evOper_makeSlice, evOper_extract, evOper_mkIface, evOper_mkFunc, evOper_nilCheck, evOper_s2ap, evOper_append, evOper_copy, evOper_len, evOper_minmax, evOper_call, evOper_callVal, Ob.fresh, live0, live1, live2, Int.natCast_nonneg, and_self, true_and, and_true, Int.toNat_natCast, Nat.mul_one, addr_add, partL, cells_int, cells_int_size, okVar, splice_single, Nat.lt_irrefl, false_and, decide_true, decide_false, Nat.add_zero, Int.reduceEq, Int.reduceLT, Int.reduceLE, Int.reduceToNat, Nat.reduceLT, Nat.reduceSub, rf_int, rf_tuple_ints, toList2, Bool.and_true, Bool.true_and, Bool.and_self, List.getElem?_cons_zero, List.getElem?_cons_succ, nlt1, nlt2, nlt3, nlt4, Nat.le_refl, Int.le_refl, Nat.not_lt_zero, Nat.sub_zero, Nat.zero_mul, cells_agg, cells_agg_size, h1]
      rfl)
  have hkk : k = dig 256 32 v := dig_ext hlen fun i hi => hk i hi
  subst hkk
  have hz : List.replicate 32 (Value.int .u8 0) = u8s (dig 256 32 0) := rfl
  have h1 : 0 + 32 ≤ (u8s (dig 256 32 v)).length := by rw [u8s_len, dig_len]; omega
  have h1' : 32 ≤ (u8s (dig 256 32 v)).length := by rw [u8s_len, dig_len]; omega
  have h2 : ((u8s (dig 256 32 v)).drop 0).take 32 = u8s (dig 256 32 v) := by rw [List.drop_zero, List.take_of_length_le (by rw [u8s_len, dig_len]; omega)]
  have h3 : (u8s (dig 256 32 v)).length = 32 := by rw [u8s_len, dig_len]
  have h4 : 0 + (u8s (dig 256 32 v)).length ≤ (u8s (dig 256 32 0)).length := by rw [u8s_len, u8s_len, dig_len, dig_len]; omega
  have h5 : splice (u8s (dig 256 32 0)) 0 (u8s (dig 256 32 v)) = u8s (dig 256 32 v) := splice_all (by rw [u8s_len, u8s_len, dig_len, dig_len])
  have h6 := storeAt0 (H := H) (r := [⟨u8s (dig 256 32 v), true, true, true, 1⟩]) (e := true) (s := 1) h4
  rw [h5] at h6
  refine ⟨[⟨u8s (dig 256 32 v), true, true, true, 1⟩, ⟨u8s (dig 256 32 v), true, true, true, 1⟩], ?_⟩
  rw [show byI H (.slice (some ⟨id, off, none⟩) 8 cap) ((0 : Nat) : Int) (dig 256 32 0) [] = ⟨[(0, .slice (some ⟨id, off, none⟩) 8 cap), (2, .pointer (some ⟨H.length, 0, none⟩)), (3, .pointer (some ⟨H.length + 1, 0, none⟩)), (5, .int .i64 0)], H ++ [⟨u8s (dig 256 32 0), true, true, true, 1⟩, ⟨u8s (dig 256 32 0), true, true, true, 1⟩], []⟩ from rfl] at hb
  rw [evFun_fn (fn := a42) rfl]
  simp only [a42, envOf, evCode_skip, evCode_exit, evCode_seq, evCode_region, evCode_cond, evCode_block, evCode_ret, evOps_cons, evOps_nil, guardOf, simpleOp, opd, opds, opdOpt, opdParts, Env.get, Env.put, pureV, Option.bind_some, List.nil_append, List.cons_append, inMerge, pairsOk, List.all_nil, List.all_cons, St.after, Env.keep, if_true, if_false, ite_true, ite_false, binV, intBin, unV, shiftOp, resultOf, packed, reduceCtorEq, Option.isNone_none, Option.isSome_none, Bool.false_eq_true, Nat.reduceAdd, Nat.reduceEqDiff, Nat.reduceMul, Nat.zero_add, List.length_cons, List.length_nil, beq_self_eq_true, Bool.not_true, Bool.not_false, evOper_move, evOper_pick, evOper_alloc, evOper_box, evOper_load, evOper_store, evOper_bin, evOper_eqv, evOper_isNil, evOper_un, evOper_conv, evOper_convStr, evOper_s2b, evOper_b2s, evOper_field, evOper_index, evOper_indexStr, evOper_build, evOper_buildSlice, evOper_fieldAddr, evOper_indexAddr, evOper_indexSl, evOper_sliceArr, evOper_sliceSl, evOper_sliceStr, evOper_makeSlice, evOper_extract, evOper_mkIface, evOper_mkFunc, evOper_nilCheck, evOper_s2ap, evOper_append, evOper_copy, evOper_len, evOper_minmax, evOper_call, evOper_callVal, Ob.fresh, live0, live1, live2, Int.natCast_nonneg, and_self, true_and, and_true, Int.toNat_natCast, Nat.mul_one, addr_add, partL, cells_int, cells_int_size, okVar, splice_single, Nat.lt_irrefl, false_and, decide_true, decide_false, Nat.add_zero, Int.reduceEq, Int.reduceLT, Int.reduceLE, Int.reduceToNat, Nat.reduceLT, Nat.reduceSub, rf_int, rf_tuple_ints, toList2, Bool.and_true, Bool.true_and, Bool.and_self, List.getElem?_cons_zero, List.getElem?_cons_succ, nlt1, nlt2, nlt3, nlt4, Nat.le_refl, Int.le_refl, Nat.not_lt_zero, Nat.sub_zero, Nat.zero_mul, cells_agg, cells_agg_size, hz, hb, byI, h1, h1', h2, cells_agg, cells_agg_size, h3, h6, List.length_append, List.append_assoc]
end Go.Ev.Ytaceeoghjgggjaa

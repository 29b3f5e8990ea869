/-
  scalar.MulAdd: one number times another and a third more, by the order.
-/
import Derived.Test.YtaceeoghjgggjaaSW7
set_option linter.unusedSimpArgs false
set_option linter.unusedVariables false
namespace Go.Ev.Ytaceeoghjgggjaa
open Go Go.Ev
attribute [local congr] bind_congr1
set_option maxRecDepth 100000

theorem row_new {H : List Ob} {ws : List Nat} : Row .u32 (H ++ [Ob.fresh (u32s ws)]) H.length 0 ws := ⟨_, live0, fun i x hx => by rw [Nat.zero_add]; exact u32s_get hx⟩
theorem row_new2 {H : List Ob} {ws : List Nat} {o : Ob} : Row .u32 (H ++ [⟨u32s ws, true, true, true, 1⟩, o]) H.length 0 ws := ⟨_, live0, fun i x hx => by rw [Nat.zero_add]; exact u32s_get hx⟩

def keyV (l : List Nat) : Value := .agg (u8s l).toArray
theorem bnd32 : bounds3 32 32 none none none = some (0, 32, 32) := rfl

theorem dig_lt' {n v : Nat} : ∀ x ∈ dig 4294967296 n v, x < 4294967296 := fun x hx => dig_lt (by decide) hx
theorem num_key {l : List Nat} (hl : l.length = 32) (h : ∀ x ∈ l, x < 256) : num 256 l < 4294967296 ^ 8 := by
  have := num_lt h
  rw [hl] at this
  rw [show (4294967296 : Nat) ^ 8 = 256 ^ 32 from by decide]; exact this

theorem mulAdd_mid {H : List Ob} {a b c : List Nat} (ha : Row .u8 H 0 0 a) (hb : Row .u8 H 1 0 b) (hc : Row .u8 H 2 0 c) (la : a.length = 32) (lb : b.length = 32) (lc : c.length = 32)
    (xa : ∀ x ∈ a, x < 256) (xb : ∀ x ∈ b, x < 256) (xc : ∀ x ∈ c, x < 256) :
    ∃ k l l2, evFun T 40 [.slice (some ⟨0, 0, none⟩) 32 32] H = some (.slice (some ⟨H.length, 0, none⟩) 8 8, H ++ [Ob.fresh (u32s (dig 4294967296 8 (num 256 a)))], []) ∧
      (let H5 := H ++ [Ob.fresh (u32s (dig 4294967296 8 (num 256 a)))]
       let H6 := H5 ++ [Ob.fresh (u32s (dig 4294967296 8 (num 256 b)))]
       let H7 := H6 ++ [Ob.fresh (u32s (dig 4294967296 16 (num 256 a * num 256 b)))]
       let H8 := H7 ++ [Ob.fresh (u32s (dig 4294967296 8 (num 256 c)))]
       let H10 := H8 ++ [⟨u32s (dig 4294967296 17 (num 256 a * num 256 b + num 256 c)), true, true, true, 1⟩, ⟨[.int .u32 0], true, true, true, 1⟩]
       evFun T 40 [.slice (some ⟨1, 0, none⟩) 32 32] H5 = some (.slice (some ⟨H5.length, 0, none⟩) 8 8, H6, []) ∧
       evFun T 44 [.slice (some ⟨H.length, 0, none⟩) 8 8, .slice (some ⟨H5.length, 0, none⟩) 8 8] H6 = some (.slice (some ⟨H6.length, 0, none⟩) 16 16, H7, []) ∧
       evFun T 40 [.slice (some ⟨2, 0, none⟩) 32 32] H7 = some (.slice (some ⟨H7.length, 0, none⟩) 8 8, H8, []) ∧
       evFun T 45 [.slice (some ⟨H6.length, 0, none⟩) 16 16, .slice (some ⟨H7.length, 0, none⟩) 8 8] H8 = some (.slice (some ⟨H8.length, 0, none⟩) 17 17, H10, []) ∧
       evFun T 41 [.slice (some ⟨H8.length, 0, none⟩) 17 17] H10 = some (.slice (some ⟨k, 0, none⟩) 8 8, H10 ++ l, []) ∧
       evFun T 42 [.slice (some ⟨k, 0, none⟩) 8 8] (H10 ++ l) = some (keyV (dig 256 32 ((num 256 a * num 256 b + num 256 c) % ell)), H10 ++ l ++ l2, [])) := by
  have na := num_key la xa
  have nb := num_key lb xb
  have nc := num_key lc xc
  have h1 := of_ev (c := 32) ha la (by decide) xa
  have h2 := of_ev (c := 32) (hb.app (l := [Ob.fresh (u32s (dig 4294967296 8 (num 256 a)))])) lb (by decide) xb
  have r1 := (row_new (H := H) (ws := dig 4294967296 8 (num 256 a))).app (l := [Ob.fresh (u32s (dig 4294967296 8 (num 256 b)))])
  have r2 := row_new (H := H ++ [Ob.fresh (u32s (dig 4294967296 8 (num 256 a)))]) (ws := dig 4294967296 8 (num 256 b))
  have h3 := times_ev (c1 := 8) (c2 := 8) r1 r2 (dig_len _ _ _) (dig_len _ _ _) (by decide) dig_lt' dig_lt'
  rw [num_dig (by decide), num_dig (by decide), Nat.mod_eq_of_lt na, Nat.mod_eq_of_lt nb] at h3
  have h4 := of_ev (c := 32) (((hc.app (l := [Ob.fresh (u32s (dig 4294967296 8 (num 256 a)))])).app (l := [Ob.fresh (u32s (dig 4294967296 8 (num 256 b)))])).app (l := [Ob.fresh (u32s (dig 4294967296 16 (num 256 a * num 256 b)))])) lc (by decide) xc
  have r3 := (row_new (H := H ++ [Ob.fresh (u32s (dig 4294967296 8 (num 256 a)))] ++ [Ob.fresh (u32s (dig 4294967296 8 (num 256 b)))]) (ws := dig 4294967296 16 (num 256 a * num 256 b))).app (l := [Ob.fresh (u32s (dig 4294967296 8 (num 256 c)))])
  have r4 := row_new (H := H ++ [Ob.fresh (u32s (dig 4294967296 8 (num 256 a)))] ++ [Ob.fresh (u32s (dig 4294967296 8 (num 256 b)))] ++ [Ob.fresh (u32s (dig 4294967296 16 (num 256 a * num 256 b)))]) (ws := dig 4294967296 8 (num 256 c))
  have h5 := plus_ev (c1 := 16) (c2 := 8) r3 r4 (dig_len _ _ _) (dig_len _ _ _) (by decide) (by decide) (by decide) dig_lt' dig_lt'
  have nab : num 256 a * num 256 b < 4294967296 ^ 16 := by
    rw [show (4294967296 : Nat) ^ 16 = 4294967296 ^ 8 * 4294967296 ^ 8 from by decide]
    exact Nat.mul_lt_mul'' na nb
  rw [num_dig (by decide), num_dig (by decide), Nat.mod_eq_of_lt nab, Nat.mod_eq_of_lt nc] at h5
  have r5 := row_new2 (H := H ++ [Ob.fresh (u32s (dig 4294967296 8 (num 256 a)))] ++ [Ob.fresh (u32s (dig 4294967296 8 (num 256 b)))] ++ [Ob.fresh (u32s (dig 4294967296 16 (num 256 a * num 256 b)))] ++ [Ob.fresh (u32s (dig 4294967296 8 (num 256 c)))]) (ws := dig 4294967296 17 (num 256 a * num 256 b + num 256 c)) (o := ⟨[.int .u32 0], true, true, true, 1⟩)
  obtain ⟨k, l, h6, r6⟩ := mod_ev (cap := 17) r5 (dig_len _ _ _) (by decide) (by decide) dig_lt'
  have nabc : num 256 a * num 256 b + num 256 c < 4294967296 ^ 17 := by
    have : (4294967296 : Nat) ^ 16 + 4294967296 ^ 8 ≤ 4294967296 ^ 17 := by decide
    omega
  rw [num_dig (by decide), Nat.mod_eq_of_lt nabc] at r6
  obtain ⟨l2, h7⟩ := bytes_ev (cap := 8) r6
  exact ⟨k, l, l2, h1, h2, h3, h4, h5, h6, h7⟩

theorem mulAdd_ev {a b c : List Nat} (la : a.length = 32) (lb : b.length = 32) (lc : c.length = 32) (xa : ∀ x ∈ a, x < 256) (xb : ∀ x ∈ b, x < 256) (xc : ∀ x ∈ c, x < 256) :
    ∃ l, evFun T 19 [keyV a, keyV b, keyV c] [] = some (keyV (dig 256 32 ((num 256 a * num 256 b + num 256 c) % ell)), l, []) := by
  have hz : List.replicate 32 (Value.int .u8 0) = u8s (dig 256 32 0) := rfl
  obtain ⟨H, hH⟩ : ∃ H : List Ob, H = [⟨u8s a, true, true, true, 1⟩, ⟨u8s b, true, true, true, 1⟩, ⟨u8s c, true, true, true, 1⟩, ⟨u8s (dig 256 32 0), true, true, true, 1⟩] := ⟨_, rfl⟩
  have ra : Row .u8 H 0 0 a := by subst hH; exact ⟨_, rfl, fun i x hx => by rw [Nat.zero_add]; exact u8s_get hx⟩
  have rb : Row .u8 H 1 0 b := by subst hH; exact ⟨_, rfl, fun i x hx => by rw [Nat.zero_add]; exact u8s_get hx⟩
  have rc : Row .u8 H 2 0 c := by subst hH; exact ⟨_, rfl, fun i x hx => by rw [Nat.zero_add]; exact u8s_get hx⟩
  obtain ⟨k, l, l2, h1, h2, h3, h4, h5, h6, h7⟩ := mulAdd_mid ra rb rc la lb lc xa xb xc
  generalize hR : dig 256 32 ((num 256 a * num 256 b + num 256 c) % ell) = R at *
  have lR : (u8s R).length = 32 := by rw [u8s_len, ← hR, dig_len]
  generalize hH5 : H ++ [Ob.fresh (u32s (dig 4294967296 8 (num 256 a)))] = H5 at h1 h2 h3 h4 h5 h6 h7
  generalize hH6 : H5 ++ [Ob.fresh (u32s (dig 4294967296 8 (num 256 b)))] = H6 at h2 h3 h4 h5 h6 h7
  generalize hH7 : H6 ++ [Ob.fresh (u32s (dig 4294967296 16 (num 256 a * num 256 b)))] = H7 at h3 h4 h5 h6 h7
  generalize hH8 : H7 ++ [Ob.fresh (u32s (dig 4294967296 8 (num 256 c)))] = H8 at h4 h5 h6 h7
  generalize hH10 : H8 ++ [⟨u32s (dig 4294967296 17 (num 256 a * num 256 b + num 256 c)), true, true, true, 1⟩, ⟨[.int .u32 0], true, true, true, 1⟩] = H10 at h5 h6 h7
  generalize hH11 : H10 ++ l = H11 at h6 h7
  generalize hG : H11 ++ l2 = G at h7
  obtain ⟨t, hGt⟩ : ∃ t, G = ⟨u8s a, true, true, true, 1⟩ :: ⟨u8s b, true, true, true, 1⟩ :: ⟨u8s c, true, true, true, 1⟩ :: ⟨u8s (dig 256 32 0), true, true, true, 1⟩ :: t := by
    rw [← hG, ← hH11, ← hH10, ← hH8, ← hH7, ← hH6, ← hH5, hH]; exact ⟨_, rfl⟩
  have hst : storeAt G ⟨3, 0, none⟩ (u8s R) = some (⟨u8s a, true, true, true, 1⟩ :: ⟨u8s b, true, true, true, 1⟩ :: ⟨u8s c, true, true, true, 1⟩ :: ⟨u8s R, true, true, true, 1⟩ :: t) := by
    rw [hGt]
    have h8 := storeAt0 (H := [⟨u8s a, true, true, true, 1⟩, ⟨u8s b, true, true, true, 1⟩, ⟨u8s c, true, true, true, 1⟩]) (r := t) (cs := u8s (dig 256 32 0)) (e := true) (s := 1) (off := 0) (v := u8s R) (by rw [lR, u8s_len, dig_len]; omega)
    rw [splice_all (by rw [lR, u8s_len, dig_len])] at h8
    exact h8
  have hlv : liveAt (⟨u8s a, true, true, true, 1⟩ :: ⟨u8s b, true, true, true, 1⟩ :: ⟨u8s c, true, true, true, 1⟩ :: ⟨u8s R, true, true, true, 1⟩ :: t) 3 = some ⟨u8s R, true, true, true, 1⟩ := rfl
  have h9 : ((u8s R).drop 0).take 32 = u8s R := by rw [List.drop_zero, List.take_of_length_le (by omega)]
  refine ⟨⟨u8s a, true, true, true, 1⟩ :: ⟨u8s b, true, true, true, 1⟩ :: ⟨u8s c, true, true, true, 1⟩ :: ⟨u8s R, true, true, true, 1⟩ :: t, ?_⟩
  rw [evFun_fn (fn := a19) rfl]
  simp only [keyV] at h7 ⊢
  simp only [a19, envOf, evCode_skip, evCode_exit, evCode_seq, evCode_region, evCode_cond, evCode_block, evCode_ret, evOps_cons, evOps_nil, guardOf, simpleOp, opd, opds, opdOpt, opdParts, Env.get, Env.put, pureV, Option.bind_some, List.nil_append, List.cons_append, inMerge, pairsOk, List.all_nil, List.all_cons, St.after, Env.keep, if_true, if_false, ite_true, ite_false, binV, intBin, unV, shiftOp, resultOf, packed, reduceCtorEq, Option.isNone_none, Option.isSome_none, Bool.false_eq_true, Nat.reduceAdd, Nat.reduceEqDiff, Nat.reduceMul, Nat.zero_add, List.length_cons, List.length_nil, beq_self_eq_true, Bool.not_true, Bool.not_false, evOper_move, evOper_pick, evOper_alloc, evOper_box, evOper_load, evOper_store, evOper_bin, evOper_eqv, evOper_isNil, evOper_un, evOper_conv, evOper_convStr, evOper_s2b, evOper_b2s, evOper_field, evOper_index, evOper_indexStr, evOper_build, evOper_buildSlice, evOper_fieldAddr, evOper_indexAddr, evOper_indexSl, evOper_sliceArr, evOper_sliceSl, evOper_sliceStr, evOper_makeSlice, evOper_extract, evOper_mkIface, evOper_mkFunc, evOper_nilCheck, evOper_s2ap, evOper_append, evOper_copy, evOper_len, evOper_minmax, evOper_call, evOper_callVal, Ob.fresh, live0, live1, live2, Int.natCast_nonneg, and_self, true_and, and_true, Int.toNat_natCast, Nat.mul_one, addr_add, partL, cells_int, cells_int_size, okVar, splice_single, Nat.lt_irrefl, false_and, decide_true, decide_false, Nat.add_zero, Int.reduceEq, Int.reduceLT, Int.reduceLE, Int.reduceToNat, Nat.reduceLT, Nat.reduceSub, rf_int, rf_tuple_ints, toList2, Bool.and_true, Bool.true_and, Bool.and_self, List.getElem?_cons_zero, List.getElem?_cons_succ, nlt1, nlt2, nlt3, nlt4, Nat.le_refl, Int.le_refl, Nat.not_lt_zero, Nat.sub_zero, Nat.zero_mul, cells_agg, cells_agg_size, hz, ← hH, bnd32, h1, h2, h3, h4, h5, h6, h7, lR, hst, hlv, h9]
end Go.Ev.Ytaceeoghjgggjaa

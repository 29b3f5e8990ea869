/-
  ScalarRules, as the evaluator reads it, answers true.
-/
import Derived.Test.YtaceeoghjgggjaaBunD
import Derived.Test.YtaceeoghjgggjaaBunC
set_option linter.unusedSimpArgs false
set_option linter.unusedVariables false
namespace Go.Ev.Ytaceeoghjgggjaa
open Go Go.Ev
attribute [local congr] bind_congr2 ite_congr2 qElse_congr gate_congr guardV_congr
set_option maxRecDepth 100000

def mA (x y z : List Nat) : List Nat := dig 256 32 ((num 256 x * num 256 y + num 256 z) % ell)
def rd (x : List Nat) : List Nat := dig 256 32 (num 256 x % ell)
theorem rd_def (x : List Nat) : dig 256 32 (num 256 x % ell) = rd x := rfl
theorem mA_len {x y z : List Nat} : (mA x y z).length = 32 := dig_len _ _ _
theorem rd_len {x : List Nat} : (rd x).length = 32 := dig_len _ _ _
theorem mA_lt {x y z : List Nat} : ∀ t ∈ mA x y z, t < 256 := fun _ h => dig_lt (by decide) h
theorem rd_lt {x : List Nat} : ∀ t ∈ rd x, t < 256 := fun _ h => dig_lt (by decide) h
theorem ell_le : ell ≤ 256 ^ 32 := by decide
theorem num_dig_ell (v : Nat) : num 256 (dig 256 32 (v % ell)) = v % ell := by
  rw [num_dig (by decide), Nat.mod_eq_of_lt (Nat.lt_of_lt_of_le (Nat.mod_lt _ ell_pos) ell_le)]
theorem num_mA (x y z : List Nat) : num 256 (mA x y z) = (num 256 x * num 256 y + num 256 z) % ell := num_dig_ell _
theorem num_rd (x : List Nat) : num 256 (rd x) = num 256 x % ell := num_dig_ell _
theorem mulAdd_mA {a b c : List Nat} (la : a.length = 32) (lb : b.length = 32) (lc : c.length = 32) (xa : ∀ x ∈ a, x < 256) (xb : ∀ x ∈ b, x < 256) (xc : ∀ x ∈ c, x < 256) :
    ∃ l, evFun T 19 [.agg (u8s a).toArray, .agg (u8s b).toArray, .agg (u8s c).toArray] [] = some (.agg (u8s (mA a b c)).toArray, l, []) := mulAdd_ev la lb lc xa xb xc
theorem key_ext {a b : List Nat} (la : a.length = 32) (lb : b.length = 32) (xa : ∀ x ∈ a, x < 256) (xb : ∀ x ∈ b, x < 256) (h : num 256 a = num 256 b) : a = b := by
  rw [← dig_num (B := 256) (by decide) xa, ← dig_num (B := 256) (by decide) xb, h, la, lb]
theorem rd_eq {a : List Nat} (la : a.length = 32) (xa : ∀ x ∈ a, x < 256) : (decide (num 256 a < ell)) = (a == rd a) := by
  by_cases h : num 256 a < ell
  · have : a = rd a := key_ext la rd_len xa rd_lt (by rw [num_rd, Nat.mod_eq_of_lt h])
    rw [decide_eq_true h, ← this, beq_self_eq_true]
  · have : ¬ a = rd a := fun he => by
      have h1 := congrArg (num 256) he
      rw [num_rd] at h1
      have := Nat.mod_lt (num 256 a) ell_pos
      omega
    rw [decide_eq_false h, beq_eq_false_iff_ne.2 this]
/-- One part that is a whole key. -/
theorem parts_one {H : List Ob} {id pid : Nat} {a : List Nat} {o : Ob} (la : a.length = 32) (h1 : liveAt H id = some o) (ho : o.cells = u8s a) (h2 : liveAt H pid = some ⟨[.slice (some ⟨id, 0, none⟩) 32 32], true, true, true, 1⟩) : Parts .u8 H pid 0 [a] :=
  ⟨_, h2, fun i p hp => by
    rcases i with _ | i <;> simp at hp
    subst hp
    refine ⟨_, rfl, ?_⟩
    rw [← la]
    exact .mk h1 (by rw [ho, u8s_len]; omega) (fun i x hx => by rw [ho, Nat.zero_add]; exact u8s_get hx)⟩

theorem rules_ev {a b c : List Nat} (la : a.length = 32) (xa : ∀ x ∈ a, x < 256) (lb : b.length = 32) (xb : ∀ x ∈ b, x < 256) (lc : c.length = 32) (xc : ∀ x ∈ c, x < 256) : ∃ l, evFun T 6 [.agg (u8s a).toArray, .agg (u8s b).toArray, .agg (u8s c).toArray] [] = some (.bool true, l, []) := by
  have hz : List.replicate 32 (Value.int .u8 0) = u8s (dig 256 32 0) := rfl
  have f1 : fillL (u8s (dig 256 32 0)) [(0, 1, .int .u8 1)] = some (u8s (k1 1)) := rfl
  have f0 : fillL (u8s (dig 256 32 0)) [] = some (u8s (dig 256 32 0)) := rfl
  have fp : ∀ i : Nat, fillL [Value.slice none 0 0] [(0, 1, .slice (some ⟨i, 0, none⟩) 32 32)] = some [.slice (some ⟨i, 0, none⟩) 32 32] := fun _ => rfl
  have l1 : (k1 1).length = 32 := rfl
  have x1 : ∀ x ∈ k1 1, x < 256 := by decide
  have n1 : num 256 (k1 1) = 1 := by decide
  have l0 : (dig 256 32 0).length = 32 := rfl
  have x0 : ∀ x ∈ dig 256 32 0, x < 256 := by decide
  have n0 : num 256 (dig 256 32 0) = 0 := by decide
  have hr1 := reduce_ev (H := [⟨u8s a, true, true, true, 1⟩, ⟨u8s b, true, true, true, 1⟩, ⟨u8s c, true, true, true, 1⟩, ⟨u8s (k1 1), true, true, true, 1⟩, ⟨u8s (dig 256 32 0), true, true, true, 1⟩, ⟨[.slice (some ⟨0, 0, none⟩) 32 32], true, true, true, 1⟩]) (id := 5) (off := 0) (c := 1) (n := 1) (parts_one la (id := 0) rfl rfl rfl) rfl (by decide) (by simp [la]) (by simpa using xa)
  obtain ⟨g1, hr1⟩ := hr1
  simp only [List.flatten_cons, List.flatten_nil, List.append_nil, rd_def, List.cons_append, List.nil_append] at hr1
  have hr2 := reduce_ev (H := ⟨u8s a, true, true, true, 1⟩ :: ⟨u8s b, true, true, true, 1⟩ :: ⟨u8s c, true, true, true, 1⟩ :: ⟨u8s (k1 1), true, true, true, 1⟩ :: ⟨u8s (dig 256 32 0), true, true, true, 1⟩ :: ⟨[.slice (some ⟨0, 0, none⟩) 32 32], true, true, true, 1⟩ :: (g1 ++ [⟨u8s (rd a), true, true, true, 1⟩, ⟨[.slice (some ⟨g1.length + 6, 0, none⟩) 32 32], true, true, true, 1⟩])) (id := g1.length + 7) (off := 0) (c := 1) (n := 1)
    (parts_one (a := rd a) (o := ⟨u8s (rd a), true, true, true, 1⟩) rd_len (id := g1.length + 6) (by simp [liveAt]) rfl (by simp [liveAt])) rfl (by decide) (by simp [rd_len]) (by simpa using rd_lt)
  obtain ⟨g2, hr2⟩ := hr2
  have hrr : rd (rd a) = rd a := key_ext rd_len rd_len rd_lt rd_lt (by rw [num_rd, num_rd, Nat.mod_mod])
  simp only [List.flatten_cons, List.flatten_nil, List.append_nil, rd_def, List.cons_append, List.nil_append, hrr, List.append_assoc] at hr2
  have hG : ∀ l, (g1 ++ ⟨u8s (rd a), true, true, true, 1⟩ :: ⟨[.slice (some ⟨g1.length + 6, 0, none⟩) 32 32], true, true, true, 1⟩ :: g2 ++ l)[g1.length]? = some ⟨u8s (rd a), true, true, true, 1⟩ := fun l => by simp
  have hG0 := hG []
  rw [List.append_nil] at hG0
  generalize g1 ++ ⟨u8s (rd a), true, true, true, 1⟩ :: ⟨[.slice (some ⟨g1.length + 6, 0, none⟩) 32 32], true, true, true, 1⟩ :: g2 = G at hr2 hG hG0
  obtain ⟨q1, hcX⟩ := canonical_ev (a := rd a) rd_len rd_lt
  rw [decide_eq_true (by rw [num_rd]; exact Nat.mod_lt _ ell_pos)] at hcX
  obtain ⟨q2, hca⟩ := canonical_ev la xa
  rw [rd_eq la xa] at hca
  obtain ⟨q3, hm1⟩ := mulAdd_mA la l1 l0 xa x1 x0
  rw [show mA a (k1 1) (dig 256 32 0) = rd a from by unfold mA rd; rw [n1, n0, Nat.mul_one, Nat.add_zero]] at hm1
  obtain ⟨q4, hm2⟩ := mulAdd_mA lb l1 lc xb x1 xc
  obtain ⟨q5, hm3⟩ := mulAdd_mA la lb l0 xa xb x0
  obtain ⟨q6, hm4⟩ := mulAdd_mA lb la l0 xb xa x0
  rw [show mA b a (dig 256 32 0) = mA a b (dig 256 32 0) from by unfold mA; rw [Nat.mul_comm]] at hm4
  obtain ⟨q7, hm5⟩ := mulAdd_mA la (mA_len (x := b) (y := k1 1) (z := c)) l0 xa mA_lt x0
  obtain ⟨q8, hm6⟩ := mulAdd_mA la lc l0 xa xc x0
  obtain ⟨q9, hm7⟩ := mulAdd_mA la lb (mA_len (x := a) (y := c) (z := dig 256 32 0)) xa xb mA_lt
  rw [show mA a b (mA a c (dig 256 32 0)) = mA a (mA b (k1 1) c) (dig 256 32 0) from by
    apply key_ext mA_len mA_len mA_lt mA_lt
    simp only [num_mA, n0, n1, Nat.add_zero, Nat.mul_one]
    rw [Nat.add_mod_mod, Nat.mul_mod_mod, Nat.mul_add]] at hm7
  have hc := counts_ev
  apply Exists.intro
  rw [evFun_fn (fn := a6) rfl]
  simp only [a6, envOf, evCode_skip, evCode_exit, evCode_seq, fs_blockS, fs_blockR, fs_blockC, fs_blockK, fs_blockB, evCode_ret, quiet, keep_nil, keep_cons, fs_cond, fs_region, fs_regionP, fs_nil, fs_guard, fs_move, fs_pick, fs_alloc, fs_box, fs_load, fs_store, fs_bin, fs_eqv, fs_isNil, fs_un, fs_conv, fs_convStr, fs_field, fs_index, fs_indexStr, fs_build, fs_buildSlice, fs_fieldAddr, fs_indexAddr, fs_indexSl, fs_sliceArr, fs_sliceSl, fs_sliceStr, fs_makeSlice, fs_extract, fs_mkIface, fs_mkFunc, fs_nilCheck, fs_s2ap, fs_len, fs_minmax, fs_s2b, fs_b2s, fs_append, fs_copy, fs_callV, fs_callR, fs_callv, opd_tmp, opd_const, opd_func, opds_nil, opds_cons, opdOpt_none, opdOpt_some, opdParts_nil, opdParts_cons, get_miss, vPick_t, vPick_f, vEq_agg, vEq_aggN, vEq_bool, vEq_boolN, vConv_int, vStr_s, vField_agg, vIndex_agg, vIndexStr_s, vFieldAddr_p, vIndexAddr_p, vIndexSl_s, vSliceArr_p, vSliceSl_s, vSliceSl_n, vSliceStr_s, vExtract_t, vNilCheck_p, vS2ap_s, vLen_s, vLen_str, vMin_i, vMax_i, vLoad_p, vStore_p, baseP_p, vB2s_s, vMake_i, vS2b_s, callee_f, liveAt_eq, storeAt_eq, partL_none, partL_some, natIn_none, natIn_int, bounds3_two, bin_add, bin_sub, bin_mul, bin_quo, bin_rem, bin_and, bin_or, bin_xor, bin_andNot, bin_eql, bin_neq, bin_lss, bin_leq, bin_gtr, bin_geq, bin_shl, bin_shr, bin_sadd, bin_seql, bin_sneq, un_not, un_neg, un_xor, after_some, put_some, put_none, res_nil, res_val, res_var, packed_one, packed_two, merge_nil, merge_ge, rf_tup2, rfIn_int, rfIn_bool, rfIn_u8s, rf_str, rfIn_str, ↓gate_true, ↓guardV_tt, ↓guardV_ff, ↓guardV_tf, ↓guardV_ft, ↓keepV_some, ↓qElse_some, ↓get_hit, ↓Option.bind_some, ↓if_true, ↓if_false, List.nil_append, List.cons_append, List.all_nil, List.all_cons, List.isEmpty_nil, reduceCtorEq, Bool.false_eq_true, Nat.reduceEqDiff, beq_self_eq_true, bne_self_eq_false, Bool.not_true, Bool.not_false, Int.natCast_nonneg, Nat.lt_irrefl, false_and, Int.reduceEq, rf_int, rf_bool, rf_tuple_ints, rf_u8s, arr_list, toList2, Bool.and_self, Nat.not_lt_zero, Nat.sub_zero, Nat.zero_le, Nat.le_add_right, cells_agg, cells_agg_size, cells_int, cells_int_size, okVar, eq_self, wrapI64_small, Int.natCast_zero, Int.natCast_one, Int.cast_ofNat_Int, List.length_nil, List.length_cons, List.getElem?_cons_zero, List.getElem?_cons_succ, List.set_cons_zero, List.set_cons_succ, Nat.zero_add, Nat.add_zero, Nat.mul_one, Nat.zero_mul, Int.toNat_natCast, Int.toNat_zero, Int.lt_irrefl, Int.le_refl, Nat.le_refl, and_self, true_and, and_true, decide_true, decide_false, Int.reduceLE, Int.reduceLT, Int.reduceAdd, Int.reduceMul, Int.reduceSub, Int.reduceTDiv, Int.reduceTMod, Int.reduceNeg, Int.reduceToNat, Int.reduceGT, Int.reduceGE, Int.reducePow, Nat.reduceAdd, Nat.reduceMul, Nat.reduceSub, Nat.reduceDiv, Nat.reduceMod, Nat.reducePow, Nat.reduceLT, Nat.reduceLeDiff, Nat.min_self, ge_iff_le, gt_iff_lt, Option.isNone_none, Option.isSome_none, Option.isNone_some, Option.isSome_some, Bool.and_true, Bool.true_and, Bool.and_false, Bool.false_and, not_true_eq_false, not_false_eq_true, or_true, true_or, false_or, or_false, hget0, hgetK, hset0, hsetK, splice_single, splice_whole, take_whole, List.getElem?_nil, List.length_append, List.append_assoc, Nat.add_assoc, hz, f1, f0, fp, l1, l0, la, lb, lc, rd_len, mA_len, u8s_len, hc, bnd32, hr1, hr2, hG, hG0, hcX, hca, hm1, hm2, hm3, hm4, hm5, hm6, hm7, cellsEq_u8]
  rfl
end Go.Ev.Ytaceeoghjgggjaa

/-
  intaglioref04.Order: the order's digits.
-/
set_option linter.unusedSimpArgs false
set_option linter.unusedVariables false
namespace Go.Ev.Ytaceeoghjgggjaa
open Go Go.Ev
attribute [local congr] bind_congr2 ite_congr2 qElse_congr gate_congr guardV_congr
set_option maxRecDepth 100000

def ord16 : List Nat := [237, 211, 245, 92, 26, 99, 18, 88, 214, 156, 247, 162, 222, 249, 222, 20]
def ordL : List Nat := dig 256 32 ell
theorem ordL_eq : ordL = ord16 ++ List.replicate 15 0 ++ [16] := by decide +kernel
theorem ordL_len : ordL.length = 32 := dig_len _ _ _
theorem ordL_lt : ∀ x ∈ ordL, x < 256 := fun _ h => dig_lt (by decide) h
theorem ordL_num : num 256 ordL = ell := by decide +kernel

/-- One number more is put behind those that have grown. -/
theorem grow_one {k : IntKind} {B bytes : Nat} {H : List Ob} {s : Value} {bs : List Nat} {x : Nat} (h : Grown k B H s bs) (hB : B ≤ H.length) (hb : (bs.length + 1) * bytes ≤ 2 ^ 47) (hb0 : 0 < bytes) :
    ∃ s' H' M, appendV 1 bytes (H ++ [⟨[.int k (x : Nat)], true, true, true, 1⟩]) s (.slice (some ⟨H.length, 0, none⟩) 1 1) = some (s', H', none, M) ∧ Grown k B H' s' (bs ++ [x]) ∧ (∀ i ∈ M, B ≤ i) ∧ B ≤ H'.length ∧ ∀ i, i < B → H'[i]? = H[i]? := by
  obtain ⟨s', H', M, h1, h2, h3, h4, h5⟩ := (h.app (l' := [⟨[.int k (x : Nat)], true, true, true, 1⟩])).append (bytes := bytes) (x := .slice (some ⟨H.length, 0, none⟩) 1 1) (new := [x]) (by simp; omega) rfl (by simp [elemsOf, liveAt, ns]) hb hb0
  refine ⟨s', H', M, h1, h2, h3, ?_, fun i hi => by rw [h5 i hi, List.getElem?_append_left (by omega)]⟩
  simp at h4
  omega

def oI (s : Value) (H : List Ob) (ex : Env) : St := ⟨[(1, s)] ++ ex, H, []⟩
theorem order23_ev (H : List Ob) : ∃ s l, evFun T 23 [] H = some (s, H ++ l, []) ∧ Grown .i64 H.length (H ++ l) s ordL := by
  have hf : fillL (List.replicate 16 (Value.int .i64 0)) [(0, 1, .int .i64 237), (1, 1, .int .i64 211), (2, 1, .int .i64 245), (3, 1, .int .i64 92), (4, 1, .int .i64 26), (5, 1, .int .i64 99), (6, 1, .int .i64 18), (7, 1, .int .i64 88), (8, 1, .int .i64 214), (9, 1, .int .i64 156), (10, 1, .int .i64 247), (11, 1, .int .i64 162), (12, 1, .int .i64 222), (13, 1, .int .i64 249), (14, 1, .int .i64 222), (15, 1, .int .i64 20)] = some (ns .i64 ord16) := rfl
  have f0 : fillL [Value.int .i64 0] [(0, 1, .int .i64 0)] = some [.int .i64 0] := rfl
  have f16 : fillL [Value.int .i64 0] [(0, 1, .int .i64 16)] = some [.int .i64 16] := rfl
  obtain ⟨st, hb, s, Hc, rfl, hg, hL, hK⟩ := block_inv (T := T) (base := H.length) (id := 0) (body := a23_l0)
    (fun j st => ∃ s Hc, st = oI s Hc [] ∧ Grown .i64 H.length Hc s (ord16 ++ List.replicate j 0) ∧ H.length ≤ Hc.length ∧ ∀ i, i < H.length → Hc[i]? = H[i]?)
    (Q := fun st => ∃ s Hc, st = oI s Hc [(5, .bool false)] ∧ Grown .i64 H.length Hc s (ord16 ++ List.replicate 15 0) ∧ H.length ≤ Hc.length ∧ ∀ i, i < H.length → Hc[i]? = H[i]?)
    15 (s := oI (.slice (some ⟨H.length, 0, none⟩) 16 16) (H ++ [⟨ns .i64 ord16, true, true, true, 1⟩]) []) ⟨_, _, rfl, Grown.new (id := H.length) (bs := ord16) (Nat.le_refl _) (by decide) (by simp [Ob.fresh]), by simp, fun i hi => List.getElem?_append_left hi⟩
    (fun j st hj hs => by
      obtain ⟨s, Hc, rfl, hg, hL, hK⟩ := hs
      have hl := hg.len
      have e16 : (ord16 ++ List.replicate j 0).length = 16 + j := by simp [ord16]; omega
      rw [e16] at hl
      have h31 : (((16 + j : Nat) : Int) < 31) := by omega
      obtain ⟨s', H', M, h1, h2, h3, h4, h5⟩ := grow_one (x := 0) (bytes := 8) hg hL (by simp [ord16]; omega) (by decide)
      have hm : inMerge H.length [] M = [] := inMerge_ge h3
      refine ⟨oI s' H' [], ?_, s', H', rfl, by rw [List.replicate_succ', ← List.append_assoc]; exact h2, h4, fun i hi => by rw [h5 i hi, hK i hi]⟩
      simp only [oI, a23_l0, envOf, evCode_skip, evCode_exit, evCode_seq, fs_blockS, fs_blockR, fs_blockC, fs_blockK, fs_blockB, evCode_ret, quiet, keep_nil, keep_cons, fs_cond, fs_region, fs_regionP, fs_nil, fs_guard, fs_move, fs_pick, fs_alloc, fs_box, fs_load, fs_store, fs_bin, fs_eqv, fs_isNil, fs_un, fs_conv, fs_convStr, fs_field, fs_index, fs_indexStr, fs_build, fs_buildSlice, fs_fieldAddr, fs_indexAddr, fs_indexSl, fs_sliceArr, fs_sliceSl, fs_sliceStr, fs_makeSlice, fs_extract, fs_mkIface, fs_mkFunc, fs_nilCheck, fs_s2ap, fs_len, fs_minmax, fs_s2b, fs_b2s, fs_append, fs_copy, fs_callV, fs_callR, fs_callv, opd_tmp, opd_const, opd_func, opds_nil, opds_cons, opdOpt_none, opdOpt_some, opdParts_nil, opdParts_cons, get_miss, vPick_t, vPick_f, vEq_agg, vEq_aggN, vEq_bool, vEq_boolN, vConv_int, vStr_s, vField_agg, vIndex_agg, vIndexStr_s, vFieldAddr_p, vIndexAddr_p, vIndexSl_s, vSliceArr_p, vSliceSl_s, vSliceSl_n, vSliceStr_s, vExtract_t, vNilCheck_p, vS2ap_s, vLen_s, vLen_str, vMin_i, vMax_i, vLoad_p, vStore_p, baseP_p, vB2s_s, vMake_i, vS2b_s, callee_f, liveAt_eq, storeAt_eq, partL_none, partL_some, natIn_none, natIn_int, bounds3_two, bin_add, bin_sub, bin_mul, bin_quo, bin_rem, bin_and, bin_or, bin_xor, bin_andNot, bin_eql, bin_neq, bin_lss, bin_leq, bin_gtr, bin_geq, bin_shl, bin_shr, bin_sadd, bin_seql, bin_sneq, un_not, un_neg, un_xor, after_some, put_some, put_none, res_nil, res_val, res_var, packed_one, packed_two, merge_nil, merge_ge, rf_tup2, rfIn_int, rfIn_bool, rfIn_u8s, rf_str, rfIn_str, ↓gate_true, ↓guardV_tt, ↓guardV_ff, ↓guardV_tf, ↓guardV_ft, ↓keepV_some, ↓qElse_some, ↓get_hit, ↓Option.bind_some, ↓if_true, ↓if_false, List.nil_append, List.cons_append, List.all_nil, List.all_cons, List.isEmpty_nil, reduceCtorEq, Bool.false_eq_true, Nat.reduceEqDiff, beq_self_eq_true, bne_self_eq_false, Bool.not_true, Bool.not_false, Int.natCast_nonneg, Nat.lt_irrefl, false_and, Int.reduceEq, rf_int, rf_bool, rf_tuple_ints, rf_u8s, arr_list, toList2, Bool.and_self, Nat.not_lt_zero, Nat.sub_zero, Nat.zero_le, Nat.le_add_right, cells_agg, cells_agg_size, cells_int, cells_int_size, okVar, eq_self, wrapI64_small, Int.natCast_zero, Int.natCast_one, Int.cast_ofNat_Int, List.length_nil, List.length_cons, List.getElem?_cons_zero, List.getElem?_cons_succ, List.set_cons_zero, List.set_cons_succ, Nat.zero_add, Nat.add_zero, Nat.mul_one, Nat.zero_mul, Int.toNat_natCast, Int.toNat_zero, Int.lt_irrefl, Int.le_refl, Nat.le_refl, and_self, true_and, and_true, decide_true, decide_false, Int.reduceLE, Int.reduceLT, Int.reduceAdd, Int.reduceMul, Int.reduceSub, Int.reduceTDiv, Int.reduceTMod, Int.reduceNeg, Int.reduceToNat, Int.reduceGT, Int.reduceGE, Int.reducePow, Nat.reduceAdd, Nat.reduceMul, Nat.reduceSub, Nat.reduceDiv, Nat.reduceMod, Nat.reducePow, Nat.reduceLT, Nat.reduceLeDiff, Nat.min_self, ge_iff_le, gt_iff_lt, Option.isNone_none, Option.isSome_none, Option.isNone_some, Option.isSome_some, Bool.and_true, Bool.true_and, Bool.and_false, Bool.false_and, not_true_eq_false, not_false_eq_true, or_true, true_or, false_or, or_false, hget0, hgetK, hset0, hsetK, splice_single, splice_whole, take_whole, List.getElem?_nil, List.length_append, List.append_assoc, Nat.add_assoc, hl, h31, f0]
      simp only [Int.natCast_zero] at h1
      simp only [h1, hm, envOf, evCode_skip, evCode_exit, evCode_seq, fs_blockS, fs_blockR, fs_blockC, fs_blockK, fs_blockB, evCode_ret, quiet, keep_nil, keep_cons, fs_cond, fs_region, fs_regionP, fs_nil, fs_guard, fs_move, fs_pick, fs_alloc, fs_box, fs_load, fs_store, fs_bin, fs_eqv, fs_isNil, fs_un, fs_conv, fs_convStr, fs_field, fs_index, fs_indexStr, fs_build, fs_buildSlice, fs_fieldAddr, fs_indexAddr, fs_indexSl, fs_sliceArr, fs_sliceSl, fs_sliceStr, fs_makeSlice, fs_extract, fs_mkIface, fs_mkFunc, fs_nilCheck, fs_s2ap, fs_len, fs_minmax, fs_s2b, fs_b2s, fs_append, fs_copy, fs_callV, fs_callR, fs_callv, opd_tmp, opd_const, opd_func, opds_nil, opds_cons, opdOpt_none, opdOpt_some, opdParts_nil, opdParts_cons, get_miss, vPick_t, vPick_f, vEq_agg, vEq_aggN, vEq_bool, vEq_boolN, vConv_int, vStr_s, vField_agg, vIndex_agg, vIndexStr_s, vFieldAddr_p, vIndexAddr_p, vIndexSl_s, vSliceArr_p, vSliceSl_s, vSliceSl_n, vSliceStr_s, vExtract_t, vNilCheck_p, vS2ap_s, vLen_s, vLen_str, vMin_i, vMax_i, vLoad_p, vStore_p, baseP_p, vB2s_s, vMake_i, vS2b_s, callee_f, liveAt_eq, storeAt_eq, partL_none, partL_some, natIn_none, natIn_int, bounds3_two, bin_add, bin_sub, bin_mul, bin_quo, bin_rem, bin_and, bin_or, bin_xor, bin_andNot, bin_eql, bin_neq, bin_lss, bin_leq, bin_gtr, bin_geq, bin_shl, bin_shr, bin_sadd, bin_seql, bin_sneq, un_not, un_neg, un_xor, after_some, put_some, put_none, res_nil, res_val, res_var, packed_one, packed_two, merge_nil, merge_ge, rf_tup2, rfIn_int, rfIn_bool, rfIn_u8s, rf_str, rfIn_str, ↓gate_true, ↓guardV_tt, ↓guardV_ff, ↓guardV_tf, ↓guardV_ft, ↓keepV_some, ↓qElse_some, ↓get_hit, ↓Option.bind_some, ↓if_true, ↓if_false, List.nil_append, List.cons_append, List.all_nil, List.all_cons, List.isEmpty_nil, reduceCtorEq, Bool.false_eq_true, Nat.reduceEqDiff, beq_self_eq_true, bne_self_eq_false, Bool.not_true, Bool.not_false, Int.natCast_nonneg, Nat.lt_irrefl, false_and, Int.reduceEq, rf_int, rf_bool, rf_tuple_ints, rf_u8s, arr_list, toList2, Bool.and_self, Nat.not_lt_zero, Nat.sub_zero, Nat.zero_le, Nat.le_add_right, cells_agg, cells_agg_size, cells_int, cells_int_size, okVar, eq_self, wrapI64_small, Int.natCast_zero, Int.natCast_one, Int.cast_ofNat_Int, List.length_nil, List.length_cons, List.getElem?_cons_zero, List.getElem?_cons_succ, List.set_cons_zero, List.set_cons_succ, Nat.zero_add, Nat.add_zero, Nat.mul_one, Nat.zero_mul, Int.toNat_natCast, Int.toNat_zero, Int.lt_irrefl, Int.le_refl, Nat.le_refl, and_self, true_and, and_true, decide_true, decide_false, Int.reduceLE, Int.reduceLT, Int.reduceAdd, Int.reduceMul, Int.reduceSub, Int.reduceTDiv, Int.reduceTMod, Int.reduceNeg, Int.reduceToNat, Int.reduceGT, Int.reduceGE, Int.reducePow, Nat.reduceAdd, Nat.reduceMul, Nat.reduceSub, Nat.reduceDiv, Nat.reduceMod, Nat.reducePow, Nat.reduceLT, Nat.reduceLeDiff, Nat.min_self, ge_iff_le, gt_iff_lt, Option.isNone_none, Option.isSome_none, Option.isNone_some, Option.isSome_some, Bool.and_true, Bool.true_and, Bool.and_false, Bool.false_and, not_true_eq_false, not_false_eq_true, or_true, true_or, false_or, or_false])
    (fun st hs => by
      obtain ⟨s, Hc, rfl, hg, hL, hK⟩ := hs
      have hl := hg.len
      refine ⟨_, ?_, s, Hc, rfl, hg, hL, hK⟩
      have e16 : (ord16 ++ List.replicate 15 0).length = 31 := rfl
      rw [e16] at hl
      simp only [oI, a23_l0, envOf, evCode_skip, evCode_exit, evCode_seq, fs_blockS, fs_blockR, fs_blockC, fs_blockK, fs_blockB, evCode_ret, quiet, keep_nil, keep_cons, fs_cond, fs_region, fs_regionP, fs_nil, fs_guard, fs_move, fs_pick, fs_alloc, fs_box, fs_load, fs_store, fs_bin, fs_eqv, fs_isNil, fs_un, fs_conv, fs_convStr, fs_field, fs_index, fs_indexStr, fs_build, fs_buildSlice, fs_fieldAddr, fs_indexAddr, fs_indexSl, fs_sliceArr, fs_sliceSl, fs_sliceStr, fs_makeSlice, fs_extract, fs_mkIface, fs_mkFunc, fs_nilCheck, fs_s2ap, fs_len, fs_minmax, fs_s2b, fs_b2s, fs_append, fs_copy, fs_callV, fs_callR, fs_callv, opd_tmp, opd_const, opd_func, opds_nil, opds_cons, opdOpt_none, opdOpt_some, opdParts_nil, opdParts_cons, get_miss, vPick_t, vPick_f, vEq_agg, vEq_aggN, vEq_bool, vEq_boolN, vConv_int, vStr_s, vField_agg, vIndex_agg, vIndexStr_s, vFieldAddr_p, vIndexAddr_p, vIndexSl_s, vSliceArr_p, vSliceSl_s, vSliceSl_n, vSliceStr_s, vExtract_t, vNilCheck_p, vS2ap_s, vLen_s, vLen_str, vMin_i, vMax_i, vLoad_p, vStore_p, baseP_p, vB2s_s, vMake_i, vS2b_s, callee_f, liveAt_eq, storeAt_eq, partL_none, partL_some, natIn_none, natIn_int, bounds3_two, bin_add, bin_sub, bin_mul, bin_quo, bin_rem, bin_and, bin_or, bin_xor, bin_andNot, bin_eql, bin_neq, bin_lss, bin_leq, bin_gtr, bin_geq, bin_shl, bin_shr, bin_sadd, bin_seql, bin_sneq, un_not, un_neg, un_xor, after_some, put_some, put_none, res_nil, res_val, res_var, packed_one, packed_two, merge_nil, merge_ge, rf_tup2, rfIn_int, rfIn_bool, rfIn_u8s, rf_str, rfIn_str, ↓gate_true, ↓guardV_tt, ↓guardV_ff, ↓guardV_tf, ↓guardV_ft, ↓keepV_some, ↓qElse_some, ↓get_hit, ↓Option.bind_some, ↓if_true, ↓if_false, List.nil_append, List.cons_append, List.all_nil, List.all_cons, List.isEmpty_nil, reduceCtorEq, Bool.false_eq_true, Nat.reduceEqDiff, beq_self_eq_true, bne_self_eq_false, Bool.not_true, Bool.not_false, Int.natCast_nonneg, Nat.lt_irrefl, false_and, Int.reduceEq, rf_int, rf_bool, rf_tuple_ints, rf_u8s, arr_list, toList2, Bool.and_self, Nat.not_lt_zero, Nat.sub_zero, Nat.zero_le, Nat.le_add_right, cells_agg, cells_agg_size, cells_int, cells_int_size, okVar, eq_self, wrapI64_small, Int.natCast_zero, Int.natCast_one, Int.cast_ofNat_Int, List.length_nil, List.length_cons, List.getElem?_cons_zero, List.getElem?_cons_succ, List.set_cons_zero, List.set_cons_succ, Nat.zero_add, Nat.add_zero, Nat.mul_one, Nat.zero_mul, Int.toNat_natCast, Int.toNat_zero, Int.lt_irrefl, Int.le_refl, Nat.le_refl, and_self, true_and, and_true, decide_true, decide_false, Int.reduceLE, Int.reduceLT, Int.reduceAdd, Int.reduceMul, Int.reduceSub, Int.reduceTDiv, Int.reduceTMod, Int.reduceNeg, Int.reduceToNat, Int.reduceGT, Int.reduceGE, Int.reducePow, Nat.reduceAdd, Nat.reduceMul, Nat.reduceSub, Nat.reduceDiv, Nat.reduceMod, Nat.reducePow, Nat.reduceLT, Nat.reduceLeDiff, Nat.min_self, ge_iff_le, gt_iff_lt, Option.isNone_none, Option.isSome_none, Option.isNone_some, Option.isSome_some, Bool.and_true, Bool.true_and, Bool.and_false, Bool.false_and, not_true_eq_false, not_false_eq_true, or_true, true_or, false_or, or_false, hget0, hgetK, hset0, hsetK, splice_single, splice_whole, take_whole, List.getElem?_nil, List.length_append, List.append_assoc, Nat.add_assoc, hl])
  obtain ⟨s', H', M, h1, h2, h3, h4, h5⟩ := grow_one (x := 16) (bytes := 8) hg hL (by decide) (by decide)
  have hm : inMerge H.length [] M = [] := inMerge_ge h3
  obtain ⟨l, rfl⟩ := ext_app h4 (fun i hi => by rw [h5 i hi, hK i hi])
  refine ⟨s', l, ?_, by rw [ordL_eq]; exact h2⟩
  rw [evFun_fn (fn := a23) rfl]
  simp only [oI, List.cons_append, List.nil_append] at hb
  simp only [Int.cast_ofNat_Int] at h1
  simp only [a23, envOf, evCode_skip, evCode_exit, evCode_seq, fs_blockS, fs_blockR, fs_blockC, fs_blockK, fs_blockB, evCode_ret, quiet, keep_nil, keep_cons, fs_cond, fs_region, fs_regionP, fs_nil, fs_guard, fs_move, fs_pick, fs_alloc, fs_box, fs_load, fs_store, fs_bin, fs_eqv, fs_isNil, fs_un, fs_conv, fs_convStr, fs_field, fs_index, fs_indexStr, fs_build, fs_buildSlice, fs_fieldAddr, fs_indexAddr, fs_indexSl, fs_sliceArr, fs_sliceSl, fs_sliceStr, fs_makeSlice, fs_extract, fs_mkIface, fs_mkFunc, fs_nilCheck, fs_s2ap, fs_len, fs_minmax, fs_s2b, fs_b2s, fs_append, fs_copy, fs_callV, fs_callR, fs_callv, opd_tmp, opd_const, opd_func, opds_nil, opds_cons, opdOpt_none, opdOpt_some, opdParts_nil, opdParts_cons, get_miss, vPick_t, vPick_f, vEq_agg, vEq_aggN, vEq_bool, vEq_boolN, vConv_int, vStr_s, vField_agg, vIndex_agg, vIndexStr_s, vFieldAddr_p, vIndexAddr_p, vIndexSl_s, vSliceArr_p, vSliceSl_s, vSliceSl_n, vSliceStr_s, vExtract_t, vNilCheck_p, vS2ap_s, vLen_s, vLen_str, vMin_i, vMax_i, vLoad_p, vStore_p, baseP_p, vB2s_s, vMake_i, vS2b_s, callee_f, liveAt_eq, storeAt_eq, partL_none, partL_some, natIn_none, natIn_int, bounds3_two, bin_add, bin_sub, bin_mul, bin_quo, bin_rem, bin_and, bin_or, bin_xor, bin_andNot, bin_eql, bin_neq, bin_lss, bin_leq, bin_gtr, bin_geq, bin_shl, bin_shr, bin_sadd, bin_seql, bin_sneq, un_not, un_neg, un_xor, after_some, put_some, put_none, res_nil, res_val, res_var, packed_one, packed_two, merge_nil, merge_ge, rf_tup2, rfIn_int, rfIn_bool, rfIn_u8s, rf_str, rfIn_str, ↓gate_true, ↓guardV_tt, ↓guardV_ff, ↓guardV_tf, ↓guardV_ft, ↓keepV_some, ↓qElse_some, ↓get_hit, ↓Option.bind_some, ↓if_true, ↓if_false, List.nil_append, List.cons_append, List.all_nil, List.all_cons, List.isEmpty_nil, reduceCtorEq, Bool.false_eq_true, Nat.reduceEqDiff, beq_self_eq_true, bne_self_eq_false, Bool.not_true, Bool.not_false, Int.natCast_nonneg, Nat.lt_irrefl, false_and, Int.reduceEq, rf_int, rf_bool, rf_tuple_ints, rf_u8s, arr_list, toList2, Bool.and_self, Nat.not_lt_zero, Nat.sub_zero, Nat.zero_le, Nat.le_add_right, cells_agg, cells_agg_size, cells_int, cells_int_size, okVar, eq_self, wrapI64_small, Int.natCast_zero, Int.natCast_one, Int.cast_ofNat_Int, List.length_nil, List.length_cons, List.getElem?_cons_zero, List.getElem?_cons_succ, List.set_cons_zero, List.set_cons_succ, Nat.zero_add, Nat.add_zero, Nat.mul_one, Nat.zero_mul, Int.toNat_natCast, Int.toNat_zero, Int.lt_irrefl, Int.le_refl, Nat.le_refl, and_self, true_and, and_true, decide_true, decide_false, Int.reduceLE, Int.reduceLT, Int.reduceAdd, Int.reduceMul, Int.reduceSub, Int.reduceTDiv, Int.reduceTMod, Int.reduceNeg, Int.reduceToNat, Int.reduceGT, Int.reduceGE, Int.reducePow, Nat.reduceAdd, Nat.reduceMul, Nat.reduceSub, Nat.reduceDiv, Nat.reduceMod, Nat.reducePow, Nat.reduceLT, Nat.reduceLeDiff, Nat.min_self, ge_iff_le, gt_iff_lt, Option.isNone_none, Option.isSome_none, Option.isNone_some, Option.isSome_some, Bool.and_true, Bool.true_and, Bool.and_false, Bool.false_and, not_true_eq_false, not_false_eq_true, or_true, true_or, false_or, or_false, hget0, hgetK, hset0, hsetK, splice_single, splice_whole, take_whole, List.getElem?_nil, List.length_append, List.append_assoc, Nat.add_assoc, hf, hb, oI, f16, h1, hm]
end Go.Ev.Ytaceeoghjgggjaa

/-
  ScalarRound, as the evaluator reads it, answers true.
-/
set_option linter.unusedSimpArgs false
set_option linter.unusedVariables false
namespace Go.Ev.Ytaceeoghjgggjaa
open Go Go.Ev
attribute [local congr] bind_congr2 ite_congr2 qElse_congr gate_congr guardV_congr
set_option maxRecDepth 100000

def rnI (mo s : Value) (k : List Nat) (p : List Nat) (l : List Ob) (i : Nat) (ex : Env) : St := ⟨[(1, mo), (2, .pointer (some ⟨0, 0, none⟩)), (5, .pointer (some ⟨1, 0, none⟩)), (14, s), (15, .int .i64 32), (16, .int .i64 i)] ++ ex, ⟨u8s k, true, true, true, 1⟩ :: ⟨u8s p, true, true, true, 1⟩ :: l, []⟩

def ordP (i : Nat) : List Nat := ordL.take i ++ List.replicate (32 - i) 0
theorem ordP_len {i : Nat} (h : i ≤ 32) : (ordP i).length = 32 := by simp [ordP, ordL_len]; omega
theorem ordP_step : ∀ i, i < 32 → (ordP i).set i (ordL.getD i 0) = ordP (i + 1) := by decide +kernel
theorem u8_small {x : Nat} (h : x < 256) : IntKind.u8.wrap (x : Int) = x := wrap_small rfl h

theorem rn_body {mo s : Value} {k : List Nat} {l H : List Ob} {b i x : Nat} (hg : Grown .i64 b H s ordL) (hH : H = ⟨u8s k, true, true, true, 1⟩ :: ⟨u8s (dig 256 32 0), true, true, true, 1⟩ :: l) (hb : 2 ≤ b) (hi : i < 32) (hx : ordL[i]? = some x) :
    evCode T 0 a7_l0 (rnI mo s k (ordP i) l i []) = some (.normal, rnI mo s k (ordP (i + 1)) l (i + 1) []) := by
  have hstep := ordP_step i hi
  have hgd : ordL.getD i 0 = x := by rw [List.getD_eq_getElem?_getD, hx]; rfl
  rw [hgd] at hstep
  have hx' : x < 256 := ordL_lt x (List.mem_of_getElem? hx)
  have h1 : ((i : Int) < 32) := by omega
  have h32 : ((i : Int) < ((32 : Nat) : Int)) := by omega
  have e1 : IntKind.i64.wrap ((i : Int) + 1) = ((i + 1 : Nat) : Int) := wrap_nat (n := i + 1) (by omega)
  have e2 := u8_small hx'
  have hlen : i + 1 ≤ (u8s (ordP i)).length := by rw [u8s_len, ordP_len (by omega)]; omega
  obtain ⟨id, off, c, hs, hrow⟩ := hg.sl.row (by rw [ordL_len]; decide)
  obtain ⟨o, ho, hc⟩ := hrow
  have hid : b ≤ id := by
    cases hg with
    | own h _ _ => cases hs; exact h
    | new h _ _ => cases hs; exact h
  subst hs
  rw [ordL_len]
  obtain ⟨j, rfl⟩ : ∃ j, id = j + 2 := ⟨id - 2, by omega⟩
  have ho' : (⟨u8s k, true, true, true, 1⟩ :: ⟨u8s (ordP i), true, true, true, 1⟩ :: l : List Ob)[j + 2]? = some o ∧ o.live = true := by
    rw [hH] at ho
    simp only [liveAt, Option.bind_eq_some_iff] at ho
    obtain ⟨o', g1, g2⟩ := ho
    split at g2
    · cases g2
      rename_i hlv
      exact ⟨by simpa using g1, hlv⟩
    · cases g2
  have hl2 := ho'.1
  simp only [List.getElem?_cons_succ] at hl2
  have hcx := hc i x hx
  simp only [rnI, a7_l0, envOf, evCode_skip, evCode_exit, evCode_seq, fs_blockS, fs_blockR, fs_blockC, fs_blockK, fs_blockB, evCode_ret, quiet, keep_nil, keep_cons, fs_cond, fs_region, fs_regionP, fs_nil, fs_guard, fs_move, fs_pick, fs_alloc, fs_box, fs_load, fs_store, fs_bin, fs_eqv, fs_isNil, fs_un, fs_conv, fs_convStr, fs_field, fs_index, fs_indexStr, fs_build, fs_buildSlice, fs_fieldAddr, fs_indexAddr, fs_indexSl, fs_sliceArr, fs_sliceSl, fs_sliceStr, fs_makeSlice, fs_extract, fs_mkIface, fs_mkFunc, fs_nilCheck, fs_s2ap, fs_len, fs_minmax, fs_s2b, fs_b2s, fs_append, fs_copy, fs_callV, fs_callR, fs_callv, opd_tmp, opd_const, opd_func, opds_nil, opds_cons, opdOpt_none, opdOpt_some, opdParts_nil, opdParts_cons, get_miss, vPick_t, vPick_f, vEq_agg, vEq_aggN, vEq_bool, vEq_boolN, vConv_int, vStr_s, vField_agg, vIndex_agg, vIndexStr_s, vFieldAddr_p, vIndexAddr_p, vIndexSl_s, vSliceArr_p, vSliceSl_s, vSliceSl_n, vSliceStr_s, vExtract_t, vNilCheck_p, vS2ap_s, vLen_s, vLen_str, vMin_i, vMax_i, vLoad_p, vStore_p, baseP_p, vB2s_s, vMake_i, vS2b_s, callee_f, liveAt_eq, storeAt_eq, partL_none, partL_some, natIn_none, natIn_int, bounds3_two, bin_add, bin_sub, bin_mul, bin_quo, bin_rem, bin_and, bin_or, bin_xor, bin_andNot, bin_eql, bin_neq, bin_lss, bin_leq, bin_gtr, bin_geq, bin_shl, bin_shr, bin_sadd, bin_seql, bin_sneq, un_not, un_neg, un_xor, after_some, put_some, put_none, res_nil, res_val, res_var, packed_one, packed_two, merge_nil, merge_ge, rf_tup2, rfIn_int, rfIn_bool, rfIn_u8s, rf_str, rfIn_str, ↓gate_true, ↓guardV_tt, ↓guardV_ff, ↓guardV_tf, ↓guardV_ft, ↓keepV_some, ↓qElse_some, ↓get_hit, ↓Option.bind_some, ↓if_true, ↓if_false, List.nil_append, List.cons_append, List.all_nil, List.all_cons, List.isEmpty_nil, reduceCtorEq, Bool.false_eq_true, Nat.reduceEqDiff, beq_self_eq_true, bne_self_eq_false, Bool.not_true, Bool.not_false, Int.natCast_nonneg, Nat.lt_irrefl, false_and, Int.reduceEq, rf_int, rf_bool, rf_tuple_ints, rf_u8s, arr_list, toList2, Bool.and_self, Nat.not_lt_zero, Nat.sub_zero, Nat.zero_le, Nat.le_add_right, cells_agg, cells_agg_size, cells_int, cells_int_size, okVar, eq_self, wrapI64_small, Int.natCast_zero, Int.natCast_one, Int.cast_ofNat_Int, List.length_nil, List.length_cons, List.getElem?_cons_zero, List.getElem?_cons_succ, List.set_cons_zero, List.set_cons_succ, Nat.zero_add, Nat.add_zero, Nat.mul_one, Nat.zero_mul, Int.toNat_natCast, Int.toNat_zero, Int.lt_irrefl, Int.le_refl, Nat.le_refl, and_self, true_and, and_true, decide_true, decide_false, Int.reduceLE, Int.reduceLT, Int.reduceAdd, Int.reduceMul, Int.reduceSub, Int.reduceTDiv, Int.reduceTMod, Int.reduceNeg, Int.reduceToNat, Int.reduceGT, Int.reduceGE, Int.reducePow, Nat.reduceAdd, Nat.reduceMul, Nat.reduceSub, Nat.reduceDiv, Nat.reduceMod, Nat.reducePow, Nat.reduceLT, Nat.reduceLeDiff, Nat.min_self, ge_iff_le, gt_iff_lt, Option.isNone_none, Option.isSome_none, Option.isNone_some, Option.isSome_some, Bool.and_true, Bool.true_and, Bool.and_false, Bool.false_and, not_true_eq_false, not_false_eq_true, or_true, true_or, false_or, or_false, hget0, hgetK, hset0, hsetK, splice_single, splice_whole, take_whole, List.getElem?_nil, List.length_append, List.append_assoc, Nat.add_assoc, h1, h32, hl2, ho'.2, hcx, e1, e2, hlen, u8s_set, hstep]

def lessL : List Nat := dig 256 32 (ell - 1)
theorem less_len : lessL.length = 32 := dig_len _ _ _
theorem less_lt : ∀ x ∈ lessL, x < 256 := fun _ h => dig_lt (by decide) h
theorem less_num : num 256 lessL = ell - 1 := by decide +kernel
theorem less_set : ordL.set 0 236 = lessL := by decide +kernel
theorem ord_zero : ordL[0]? = some 237 := by decide +kernel
def moreL (n : Nat) : List Nat := n % 256 :: n / 256 % 256 :: List.replicate 30 0
theorem more_len (n : Nat) : (moreL n).length = 32 := by simp [moreL]
theorem more_lt (n : Nat) : ∀ x ∈ moreL n, x < 256 := by
  intro x hx
  simp only [moreL, List.mem_cons, List.mem_replicate] at hx
  omega
theorem more_num {n : Nat} (h : n < 65536) : num 256 (moreL n) = n := by
  have : num 256 (List.replicate 30 0) = 0 := by decide
  simp only [moreL, num, this]
  omega
theorem more_fill (n : Nat) : fillL (u8s (dig 256 32 0)) [(0, 1, .int .u8 ((n % 256 : Nat) : Int)), (1, 1, .int .u8 ((n / 256 % 256 : Nat) : Int))] = some (u8s (moreL n)) := rfl

theorem round_ev {k : List Nat} {n : Nat} (lk : k.length = 32) (xk : ∀ x ∈ k, x < 256) (hn : n < 65536) : ∃ l, evFun T 7 [.agg (u8s k).toArray, .int .u16 (n : Nat)] [] = some (.bool true, l, []) := by
  have hz : List.replicate 32 (Value.int .u8 0) = u8s (dig 256 32 0) := rfl
  have f1 : fillL (u8s (dig 256 32 0)) [(0, 1, .int .u8 1)] = some (u8s (k1 1)) := rfl
  have f0 : fillL (u8s (dig 256 32 0)) [] = some (u8s (dig 256 32 0)) := rfl
  have fp : ∀ i : Nat, fillL [Value.slice none 0 0] [(0, 1, .slice (some ⟨i, 0, none⟩) 32 32)] = some [.slice (some ⟨i, 0, none⟩) 32 32] := fun _ => rfl
  have l0 : (dig 256 32 0).length = 32 := rfl
  have x0 : ∀ x ∈ dig 256 32 0, x < 256 := by decide
  have n0 : num 256 (dig 256 32 0) = 0 := by decide
  obtain ⟨s, l, ho, hg⟩ := order23_ev [⟨u8s k, true, true, true, 1⟩, ⟨u8s (dig 256 32 0), true, true, true, 1⟩]
  have hlen := hg.len
  rw [ordL_len] at hlen
  have hb := block_loop (T := T) (base := 0) (id := 0) (body := a7_l0) (fun i => rnI (.int .u16 (n : Nat)) s k (ordP i) l i []) (s' := rnI (.int .u16 (n : Nat)) s k ordL l 32 [(17, .bool false)]) 32
    (fun i hi => rn_body hg rfl (Nat.le_refl 2) hi (List.getElem?_eq_getElem (by rw [ordL_len]; exact hi))) (by
      have e : ordP 32 = ordL := by decide +kernel
      rw [e]
      simp only [rnI, a7_l0, envOf, evCode_skip, evCode_exit, evCode_seq, fs_blockS, fs_blockR, fs_blockC, fs_blockK, fs_blockB, evCode_ret, quiet, keep_nil, keep_cons, fs_cond, fs_region, fs_regionP, fs_nil, fs_guard, fs_move, fs_pick, fs_alloc, fs_box, fs_load, fs_store, fs_bin, fs_eqv, fs_isNil, fs_un, fs_conv, fs_convStr, fs_field, fs_index, fs_indexStr, fs_build, fs_buildSlice, fs_fieldAddr, fs_indexAddr, fs_indexSl, fs_sliceArr, fs_sliceSl, fs_sliceStr, fs_makeSlice, fs_extract, fs_mkIface, fs_mkFunc, fs_nilCheck, fs_s2ap, fs_len, fs_minmax, fs_s2b, fs_b2s, fs_append, fs_copy, fs_callV, fs_callR, fs_callv, opd_tmp, opd_const, opd_func, opds_nil, opds_cons, opdOpt_none, opdOpt_some, opdParts_nil, opdParts_cons, get_miss, vPick_t, vPick_f, vEq_agg, vEq_aggN, vEq_bool, vEq_boolN, vConv_int, vStr_s, vField_agg, vIndex_agg, vIndexStr_s, vFieldAddr_p, vIndexAddr_p, vIndexSl_s, vSliceArr_p, vSliceSl_s, vSliceSl_n, vSliceStr_s, vExtract_t, vNilCheck_p, vS2ap_s, vLen_s, vLen_str, vMin_i, vMax_i, vLoad_p, vStore_p, baseP_p, vB2s_s, vMake_i, vS2b_s, callee_f, liveAt_eq, storeAt_eq, partL_none, partL_some, natIn_none, natIn_int, bounds3_two, bin_add, bin_sub, bin_mul, bin_quo, bin_rem, bin_and, bin_or, bin_xor, bin_andNot, bin_eql, bin_neq, bin_lss, bin_leq, bin_gtr, bin_geq, bin_shl, bin_shr, bin_sadd, bin_seql, bin_sneq, un_not, un_neg, un_xor, after_some, put_some, put_none, res_nil, res_val, res_var, packed_one, packed_two, merge_nil, merge_ge, rf_tup2, rfIn_int, rfIn_bool, rfIn_u8s, rf_str, rfIn_str, ↓gate_true, ↓guardV_tt, ↓guardV_ff, ↓guardV_tf, ↓guardV_ft, ↓keepV_some, ↓qElse_some, ↓get_hit, ↓Option.bind_some, ↓if_true, ↓if_false, List.nil_append, List.cons_append, List.all_nil, List.all_cons, List.isEmpty_nil, reduceCtorEq, Bool.false_eq_true, Nat.reduceEqDiff, beq_self_eq_true, bne_self_eq_false, Bool.not_true, Bool.not_false, Int.natCast_nonneg, Nat.lt_irrefl, false_and, Int.reduceEq, rf_int, rf_bool, rf_tuple_ints, rf_u8s, arr_list, toList2, Bool.and_self, Nat.not_lt_zero, Nat.sub_zero, Nat.zero_le, Nat.le_add_right, cells_agg, cells_agg_size, cells_int, cells_int_size, okVar, eq_self, wrapI64_small, Int.natCast_zero, Int.natCast_one, Int.cast_ofNat_Int, List.length_nil, List.length_cons, List.getElem?_cons_zero, List.getElem?_cons_succ, List.set_cons_zero, List.set_cons_succ, Nat.zero_add, Nat.add_zero, Nat.mul_one, Nat.zero_mul, Int.toNat_natCast, Int.toNat_zero, Int.lt_irrefl, Int.le_refl, Nat.le_refl, and_self, true_and, and_true, decide_true, decide_false, Int.reduceLE, Int.reduceLT, Int.reduceAdd, Int.reduceMul, Int.reduceSub, Int.reduceTDiv, Int.reduceTMod, Int.reduceNeg, Int.reduceToNat, Int.reduceGT, Int.reduceGE, Int.reducePow, Nat.reduceAdd, Nat.reduceMul, Nat.reduceSub, Nat.reduceDiv, Nat.reduceMod, Nat.reducePow, Nat.reduceLT, Nat.reduceLeDiff, Nat.min_self, ge_iff_le, gt_iff_lt, Option.isNone_none, Option.isSome_none, Option.isNone_some, Option.isSome_some, Bool.and_true, Bool.true_and, Bool.and_false, Bool.false_and, not_true_eq_false, not_false_eq_true, or_true, true_or, false_or, or_false])
  have e0 : ordP 0 = dig 256 32 0 := by decide +kernel
  simp only [rnI, List.cons_append, List.nil_append, e0, Int.natCast_zero] at hb ho
  have g0 := u8s_get ord_zero
  have s0 : (u8s ordL).set 0 (.int .u8 236) = u8s lessL := by
    have h := u8s_set ordL 0 236
    rw [less_set] at h
    exact h
  have w0 : IntKind.u8.wrap 236 = 236 := rfl
  have hm1 : IntKind.u8.wrap (n : Int) = ((n % 256 : Nat) : Int) := by rw [wrap_u8]; omega
  have hm2 : IntKind.u8.wrap (Int.fdiv (n : Int) (2 ^ min 8 IntKind.u16.bits)) = ((n / 256 % 256 : Nat) : Int) := by
    rw [wrap_u8, show (2 : Int) ^ min 8 IntKind.u16.bits = 256 from rfl, Int.fdiv_eq_ediv_of_nonneg _ (by decide)]; omega
  have hell : 65536 < ell := by decide
  obtain ⟨q1, hA1⟩ := mulAdd_mA ordL_len lk (more_len n) ordL_lt xk (more_lt n)
  rw [show mA ordL k (moreL n) = moreL n from key_ext mA_len (more_len n) mA_lt (more_lt n) (by
    rw [num_mA, ordL_num, more_num hn, Nat.mul_add_mod, Nat.mod_eq_of_lt (by omega)])] at hA1
  obtain ⟨q2, hc1⟩ := canonical_ev ordL_len ordL_lt
  rw [ordL_num, decide_eq_false (Nat.lt_irrefl _)] at hc1
  obtain ⟨q3, hc2⟩ := canonical_ev less_len less_lt
  rw [less_num, decide_eq_true (by decide)] at hc2
  have hr := reduce_ev (H := ⟨u8s k, true, true, true, 1⟩ :: ⟨u8s ordL, true, true, true, 1⟩ :: (l ++ [⟨u8s lessL, true, true, true, 1⟩, ⟨u8s (moreL n), true, true, true, 1⟩, ⟨[.slice (some ⟨0, 0, none⟩) 32 32], true, true, true, 1⟩])) (id := l.length + 4) (off := 0) (c := 1) (n := 1)
    (parts_one (a := k) (o := ⟨u8s k, true, true, true, 1⟩) lk (id := 0) rfl rfl (by simp [liveAt])) rfl (by decide) (by simp [lk]) (by simpa using xk)
  obtain ⟨g, hr⟩ := hr
  simp only [List.flatten_cons, List.flatten_nil, List.append_nil, rd_def, List.cons_append, List.nil_append, List.append_assoc] at hr
  have hG : ∀ r, (l ++ ⟨u8s lessL, true, true, true, 1⟩ :: ⟨u8s (moreL n), true, true, true, 1⟩ :: ⟨[.slice (some ⟨0, 0, none⟩) 32 32], true, true, true, 1⟩ :: g ++ r)[l.length]? = some ⟨u8s lessL, true, true, true, 1⟩ := fun r => by simp
  have hG0 := hG []
  rw [List.append_nil] at hG0
  generalize l ++ ⟨u8s lessL, true, true, true, 1⟩ :: ⟨u8s (moreL n), true, true, true, 1⟩ :: ⟨[.slice (some ⟨0, 0, none⟩) 32 32], true, true, true, 1⟩ :: g = G at hr hG hG0
  obtain ⟨q4, hA2⟩ := mulAdd_mA less_len (rd_len (x := k)) (rd_len (x := k)) less_lt rd_lt rd_lt
  rw [show mA lessL (rd k) (rd k) = dig 256 32 0 from key_ext mA_len l0 mA_lt x0 (by
    rw [num_mA, less_num, n0, ← Nat.succ_mul, show (ell - 1).succ = ell from by decide, Nat.mul_mod_right])] at hA2
  obtain ⟨q5, hA3⟩ := mulAdd_mA less_len less_len l0 less_lt less_lt x0
  rw [show mA lessL lessL (dig 256 32 0) = k1 1 from by decide +kernel] at hA3
  have l1 : (k1 1).length = 32 := rfl
  have hc := counts_ev
  apply Exists.intro
  rw [evFun_fn (fn := a7) rfl]
  simp only [a7, envOf, evCode_skip, evCode_exit, evCode_seq, fs_blockS, fs_blockR, fs_blockC, fs_blockK, fs_blockB, evCode_ret, quiet, keep_nil, keep_cons, fs_cond, fs_region, fs_regionP, fs_nil, fs_guard, fs_move, fs_pick, fs_alloc, fs_box, fs_load, fs_store, fs_bin, fs_eqv, fs_isNil, fs_un, fs_conv, fs_convStr, fs_field, fs_index, fs_indexStr, fs_build, fs_buildSlice, fs_fieldAddr, fs_indexAddr, fs_indexSl, fs_sliceArr, fs_sliceSl, fs_sliceStr, fs_makeSlice, fs_extract, fs_mkIface, fs_mkFunc, fs_nilCheck, fs_s2ap, fs_len, fs_minmax, fs_s2b, fs_b2s, fs_append, fs_copy, fs_callV, fs_callR, fs_callv, opd_tmp, opd_const, opd_func, opds_nil, opds_cons, opdOpt_none, opdOpt_some, opdParts_nil, opdParts_cons, get_miss, vPick_t, vPick_f, vEq_agg, vEq_aggN, vEq_bool, vEq_boolN, vConv_int, vStr_s, vField_agg, vIndex_agg, vIndexStr_s, vFieldAddr_p, vIndexAddr_p, vIndexSl_s, vSliceArr_p, vSliceSl_s, vSliceSl_n, vSliceStr_s, vExtract_t, vNilCheck_p, vS2ap_s, vLen_s, vLen_str, vMin_i, vMax_i, vLoad_p, vStore_p, baseP_p, vB2s_s, vMake_i, vS2b_s, callee_f, liveAt_eq, storeAt_eq, partL_none, partL_some, natIn_none, natIn_int, bounds3_two, bin_add, bin_sub, bin_mul, bin_quo, bin_rem, bin_and, bin_or, bin_xor, bin_andNot, bin_eql, bin_neq, bin_lss, bin_leq, bin_gtr, bin_geq, bin_shl, bin_shr, bin_sadd, bin_seql, bin_sneq, un_not, un_neg, un_xor, after_some, put_some, put_none, res_nil, res_val, res_var, packed_one, packed_two, merge_nil, merge_ge, rf_tup2, rfIn_int, rfIn_bool, rfIn_u8s, rf_str, rfIn_str, ↓gate_true, ↓guardV_tt, ↓guardV_ff, ↓guardV_tf, ↓guardV_ft, ↓keepV_some, ↓qElse_some, ↓get_hit, ↓Option.bind_some, ↓if_true, ↓if_false, List.nil_append, List.cons_append, List.all_nil, List.all_cons, List.isEmpty_nil, reduceCtorEq, Bool.false_eq_true, Nat.reduceEqDiff, beq_self_eq_true, bne_self_eq_false, Bool.not_true, Bool.not_false, Int.natCast_nonneg, Nat.lt_irrefl, false_and, Int.reduceEq, rf_int, rf_bool, rf_tuple_ints, rf_u8s, arr_list, toList2, Bool.and_self, Nat.not_lt_zero, Nat.sub_zero, Nat.zero_le, Nat.le_add_right, cells_agg, cells_agg_size, cells_int, cells_int_size, okVar, eq_self, wrapI64_small, Int.natCast_zero, Int.natCast_one, Int.cast_ofNat_Int, List.length_nil, List.length_cons, List.getElem?_cons_zero, List.getElem?_cons_succ, List.set_cons_zero, List.set_cons_succ, Nat.zero_add, Nat.add_zero, Nat.mul_one, Nat.zero_mul, Int.toNat_natCast, Int.toNat_zero, Int.lt_irrefl, Int.le_refl, Nat.le_refl, and_self, true_and, and_true, decide_true, decide_false, Int.reduceLE, Int.reduceLT, Int.reduceAdd, Int.reduceMul, Int.reduceSub, Int.reduceTDiv, Int.reduceTMod, Int.reduceNeg, Int.reduceToNat, Int.reduceGT, Int.reduceGE, Int.reducePow, Nat.reduceAdd, Nat.reduceMul, Nat.reduceSub, Nat.reduceDiv, Nat.reduceMod, Nat.reducePow, Nat.reduceLT, Nat.reduceLeDiff, Nat.min_self, ge_iff_le, gt_iff_lt, Option.isNone_none, Option.isSome_none, Option.isNone_some, Option.isSome_some, Bool.and_true, Bool.true_and, Bool.and_false, Bool.false_and, not_true_eq_false, not_false_eq_true, or_true, true_or, false_or, or_false, hget0, hgetK, hset0, hsetK, splice_single, splice_whole, take_whole, List.getElem?_nil, List.length_append, List.append_assoc, Nat.add_assoc, hz, f1, f0, fp, l0, l1, lk, rd_len, ordL_len, less_len, more_len, more_fill, u8s_len, hc, ho, hlen, hb, rnI, g0, s0, w0, hm1, hm2, hA1, hc1, hc2, hr, hG, hG0, hA2, hA3, bnd32, cellsEq_u8]
  rfl
end Go.Ev.Ytaceeoghjgggjaa

/-
  intaglioref04: less and Mod.
-/
set_option linter.unusedSimpArgs false
set_option linter.unusedVariables false
namespace Go.Ev.Ytaceeoghjgggjaa
open Go Go.Ev
attribute [local congr] bind_congr2 ite_congr2 qElse_congr gate_congr guardV_congr
set_option maxRecDepth 100000

theorem num_split {a : List Nat} {m x : Nat} (h : a[m]? = some x) : num 256 a = num 256 (a.take m) + x * 256 ^ m + 256 ^ (m + 1) * num 256 (a.drop (m + 1)) := by
  have hm : m < a.length := (List.getElem?_eq_some_iff.1 h).1
  conv => lhs; rw [← List.take_append_drop (m + 1) a, num_append, num_take h]
  rw [List.length_take, Nat.min_eq_left (by omega)]
theorem num_take_lt {a : List Nat} {m : Nat} (ha : ∀ x ∈ a, x < 256) (hm : m ≤ a.length) : num 256 (a.take m) < 256 ^ m := by
  have := num_lt (B := 256) (l := a.take m) fun x hx => ha x (List.mem_of_mem_take hx)
  rwa [List.length_take, Nat.min_eq_left hm] at this
theorem less_at {a b : List Nat} {m x y : Nat} (hl : a.length = b.length) (ha : ∀ x ∈ a, x < 256) (hb : ∀ x ∈ b, x < 256) (hx : a[m]? = some x) (hy : b[m]? = some y) (hne : x ≠ y) (hd : a.drop (m + 1) = b.drop (m + 1)) : (num 256 a < num 256 b) ↔ x < y := by
  have hm : m < a.length := (List.getElem?_eq_some_iff.1 hx).1
  rw [num_split hx, num_split hy, hd]
  have h1 := num_take_lt (m := m) ha (by omega)
  have h2 := num_take_lt (m := m) hb (by omega)
  rcases Nat.lt_or_ge x y with h | h
  · have : (x + 1) * 256 ^ m ≤ y * 256 ^ m := Nat.mul_le_mul_right _ h
    rw [Nat.add_mul, Nat.one_mul] at this
    constructor <;> intro <;> omega
  · have : (y + 1) * 256 ^ m ≤ x * 256 ^ m := Nat.mul_le_mul_right _ (by omega)
    rw [Nat.add_mul, Nat.one_mul] at this
    constructor <;> intro <;> omega

def rlI (sa sb : Value) (H : List Ob) (i : Int) (ex : Env) : St := ⟨[(0, sa), (1, sb), (5, .int .i64 i)] ++ ex, H, []⟩
theorem refless_loop {H : List Ob} {base : Nat} {ia oa ca ib ob cb n : Nat} {a b : List Nat} (hra : Row .i64 H ia oa a) (hrb : Row .i64 H ib ob b) (la : a.length = n) (lb : b.length = n) (hN : n < 2 ^ 40) (ha : ∀ x ∈ a, x < 256) (hb : ∀ x ∈ b, x < 256) :
    ∀ m, m ≤ n → a.drop m = b.drop m → evCode T base (.loop a48_l0) (rlI (.slice (some ⟨ia, oa, none⟩) n ca) (.slice (some ⟨ib, ob, none⟩) n cb) H ((m : Int) - 1) []) =
      if a = b then some (.exit 0, rlI (.slice (some ⟨ia, oa, none⟩) n ca) (.slice (some ⟨ib, ob, none⟩) n cb) H (-1) [(10, .bool false)]) else some (.ret, ⟨[(4, .bool (decide (num 256 a < num 256 b)))], H, []⟩)
  | 0, _, hd => by
    rw [List.drop_zero, List.drop_zero] at hd
    rw [if_pos hd, evCode_loop]
    have e : ((0 : Int) ≤ -1) = False := by decide
    simp only [rlI, a48_l0, envOf, evCode_skip, evCode_exit, evCode_seq, fs_blockS, fs_blockR, fs_blockC, fs_blockK, fs_blockB, evCode_ret, quiet, keep_nil, keep_cons, fs_cond, fs_region, fs_regionP, fs_nil, fs_guard, fs_move, fs_pick, fs_alloc, fs_box, fs_load, fs_store, fs_bin, fs_eqv, fs_isNil, fs_un, fs_conv, fs_convStr, fs_field, fs_index, fs_indexStr, fs_build, fs_buildSlice, fs_fieldAddr, fs_indexAddr, fs_indexSl, fs_sliceArr, fs_sliceSl, fs_sliceStr, fs_makeSlice, fs_extract, fs_mkIface, fs_mkFunc, fs_nilCheck, fs_s2ap, fs_len, fs_minmax, fs_s2b, fs_b2s, fs_append, fs_copy, fs_callV, fs_callR, fs_callv, opd_tmp, opd_const, opd_func, opds_nil, opds_cons, opdOpt_none, opdOpt_some, opdParts_nil, opdParts_cons, get_miss, vPick_t, vPick_f, vEq_agg, vEq_aggN, vEq_bool, vEq_boolN, vConv_int, vStr_s, vField_agg, vIndex_agg, vIndexStr_s, vFieldAddr_p, vIndexAddr_p, vIndexSl_s, vSliceArr_p, vSliceSl_s, vSliceSl_n, vSliceStr_s, vExtract_t, vNilCheck_p, vS2ap_s, vLen_s, vLen_str, vMin_i, vMax_i, vLoad_p, vStore_p, baseP_p, vB2s_s, vMake_i, vS2b_s, callee_f, liveAt_eq, storeAt_eq, partL_none, partL_some, natIn_none, natIn_int, bounds3_two, bin_add, bin_sub, bin_mul, bin_quo, bin_rem, bin_and, bin_or, bin_xor, bin_andNot, bin_eql, bin_neq, bin_lss, bin_leq, bin_gtr, bin_geq, bin_shl, bin_shr, bin_sadd, bin_seql, bin_sneq, un_not, un_neg, un_xor, after_some, put_some, put_none, res_nil, res_val, res_var, packed_one, packed_two, merge_nil, merge_ge, rf_tup2, rfIn_int, rfIn_bool, rfIn_u8s, rf_str, rfIn_str, ↓gate_true, ↓guardV_tt, ↓guardV_ff, ↓guardV_tf, ↓guardV_ft, ↓keepV_some, ↓qElse_some, ↓get_hit, ↓Option.bind_some, ↓if_true, ↓if_false, List.nil_append, List.cons_append, List.all_nil, List.all_cons, List.isEmpty_nil, reduceCtorEq, Bool.false_eq_true, Nat.reduceEqDiff, beq_self_eq_true, bne_self_eq_false, Bool.not_true, Bool.not_false, Int.natCast_nonneg, Nat.lt_irrefl, false_and, Int.reduceEq, rf_int, rf_bool, rf_tuple_ints, rf_u8s, arr_list, toList2, Bool.and_self, Nat.not_lt_zero, Nat.sub_zero, Nat.zero_le, Nat.le_add_right, cells_agg, cells_agg_size, cells_int, cells_int_size, okVar, eq_self, wrapI64_small, Int.natCast_zero, Int.natCast_one, Int.cast_ofNat_Int, List.length_nil, List.length_cons, List.getElem?_cons_zero, List.getElem?_cons_succ, List.set_cons_zero, List.set_cons_succ, Nat.zero_add, Nat.add_zero, Nat.mul_one, Nat.zero_mul, Int.toNat_natCast, Int.toNat_zero, Int.lt_irrefl, Int.le_refl, Nat.le_refl, and_self, true_and, and_true, decide_true, decide_false, Int.reduceLE, Int.reduceLT, Int.reduceAdd, Int.reduceMul, Int.reduceSub, Int.reduceTDiv, Int.reduceTMod, Int.reduceNeg, Int.reduceToNat, Int.reduceGT, Int.reduceGE, Int.reducePow, Nat.reduceAdd, Nat.reduceMul, Nat.reduceSub, Nat.reduceDiv, Nat.reduceMod, Nat.reducePow, Nat.reduceLT, Nat.reduceLeDiff, Nat.min_self, ge_iff_le, gt_iff_lt, Option.isNone_none, Option.isSome_none, Option.isNone_some, Option.isSome_some, Bool.and_true, Bool.true_and, Bool.and_false, Bool.false_and, not_true_eq_false, not_false_eq_true, or_true, true_or, false_or, or_false, Int.zero_sub, e]
  | m + 1, hm, hd => by
    obtain ⟨x, hx⟩ : ∃ x, a[m]? = some x := ⟨_, List.getElem?_eq_getElem (by omega)⟩
    obtain ⟨y, hy⟩ : ∃ y, b[m]? = some y := ⟨_, List.getElem?_eq_getElem (by omega)⟩
    obtain ⟨o1, ho1, hc1⟩ := hra
    obtain ⟨o2, ho2, hc2⟩ := hrb
    have c1 := hc1 m x hx
    have c2 := hc2 m y hy
    have e0 : (((m + 1 : Nat) : Int) - 1) = (m : Int) := by omega
    have e1 : ((0 : Int) ≤ (m : Int)) = True := eq_true (by omega)
    have e2 : ((m : Int) < (n : Int)) = True := eq_true (by omega)
    have e3 : IntKind.i64.wrap ((m : Int) - 1) = (m : Int) - 1 := wrapI64_small (by omega) (by omega)
    rw [e0, evCode_loop]
    obtain ⟨g1, v1⟩ : (H[ia]? = some o1) ∧ o1.live = true := by
      simp only [liveAt, Option.bind_eq_some_iff] at ho1
      obtain ⟨o', g1, g2⟩ := ho1
      split at g2
      · cases g2; exact ⟨g1, by assumption⟩
      · cases g2
    obtain ⟨g2, v2⟩ : (H[ib]? = some o2) ∧ o2.live = true := by
      simp only [liveAt, Option.bind_eq_some_iff] at ho2
      obtain ⟨o', g1, g2⟩ := ho2
      split at g2
      · cases g2; exact ⟨g1, by assumption⟩
      · cases g2
    by_cases hxy : x = y
    · subst hxy
      have hd' : a.drop m = b.drop m := by
        rw [List.drop_eq_getElem?_toList_append, hx, hd, ← hy, ← List.drop_eq_getElem?_toList_append]
      have ih := refless_loop (base := base) (ca := ca) (cb := cb) ⟨o1, ho1, hc1⟩ ⟨o2, ho2, hc2⟩ la lb hN ha hb m (by omega) hd'
      rw [← ih]
      simp only [rlI, a48_l0, envOf, evCode_skip, evCode_exit, evCode_seq, fs_blockS, fs_blockR, fs_blockC, fs_blockK, fs_blockB, evCode_ret, quiet, keep_nil, keep_cons, fs_cond, fs_region, fs_regionP, fs_nil, fs_guard, fs_move, fs_pick, fs_alloc, fs_box, fs_load, fs_store, fs_bin, fs_eqv, fs_isNil, fs_un, fs_conv, fs_convStr, fs_field, fs_index, fs_indexStr, fs_build, fs_buildSlice, fs_fieldAddr, fs_indexAddr, fs_indexSl, fs_sliceArr, fs_sliceSl, fs_sliceStr, fs_makeSlice, fs_extract, fs_mkIface, fs_mkFunc, fs_nilCheck, fs_s2ap, fs_len, fs_minmax, fs_s2b, fs_b2s, fs_append, fs_copy, fs_callV, fs_callR, fs_callv, opd_tmp, opd_const, opd_func, opds_nil, opds_cons, opdOpt_none, opdOpt_some, opdParts_nil, opdParts_cons, get_miss, vPick_t, vPick_f, vEq_agg, vEq_aggN, vEq_bool, vEq_boolN, vConv_int, vStr_s, vField_agg, vIndex_agg, vIndexStr_s, vFieldAddr_p, vIndexAddr_p, vIndexSl_s, vSliceArr_p, vSliceSl_s, vSliceSl_n, vSliceStr_s, vExtract_t, vNilCheck_p, vS2ap_s, vLen_s, vLen_str, vMin_i, vMax_i, vLoad_p, vStore_p, baseP_p, vB2s_s, vMake_i, vS2b_s, callee_f, liveAt_eq, storeAt_eq, partL_none, partL_some, natIn_none, natIn_int, bounds3_two, bin_add, bin_sub, bin_mul, bin_quo, bin_rem, bin_and, bin_or, bin_xor, bin_andNot, bin_eql, bin_neq, bin_lss, bin_leq, bin_gtr, bin_geq, bin_shl, bin_shr, bin_sadd, bin_seql, bin_sneq, un_not, un_neg, un_xor, after_some, put_some, put_none, res_nil, res_val, res_var, packed_one, packed_two, merge_nil, merge_ge, rf_tup2, rfIn_int, rfIn_bool, rfIn_u8s, rf_str, rfIn_str, ↓gate_true, ↓guardV_tt, ↓guardV_ff, ↓guardV_tf, ↓guardV_ft, ↓keepV_some, ↓qElse_some, ↓get_hit, ↓Option.bind_some, ↓if_true, ↓if_false, List.nil_append, List.cons_append, List.all_nil, List.all_cons, List.isEmpty_nil, reduceCtorEq, Bool.false_eq_true, Nat.reduceEqDiff, beq_self_eq_true, bne_self_eq_false, Bool.not_true, Bool.not_false, Int.natCast_nonneg, Nat.lt_irrefl, false_and, Int.reduceEq, rf_int, rf_bool, rf_tuple_ints, rf_u8s, arr_list, toList2, Bool.and_self, Nat.not_lt_zero, Nat.sub_zero, Nat.zero_le, Nat.le_add_right, cells_agg, cells_agg_size, cells_int, cells_int_size, okVar, eq_self, wrapI64_small, Int.natCast_zero, Int.natCast_one, Int.cast_ofNat_Int, List.length_nil, List.length_cons, List.getElem?_cons_zero, List.getElem?_cons_succ, List.set_cons_zero, List.set_cons_succ, Nat.zero_add, Nat.add_zero, Nat.mul_one, Nat.zero_mul, Int.toNat_natCast, Int.toNat_zero, Int.lt_irrefl, Int.le_refl, Nat.le_refl, and_self, true_and, and_true, decide_true, decide_false, Int.reduceLE, Int.reduceLT, Int.reduceAdd, Int.reduceMul, Int.reduceSub, Int.reduceTDiv, Int.reduceTMod, Int.reduceNeg, Int.reduceToNat, Int.reduceGT, Int.reduceGE, Int.reducePow, Nat.reduceAdd, Nat.reduceMul, Nat.reduceSub, Nat.reduceDiv, Nat.reduceMod, Nat.reducePow, Nat.reduceLT, Nat.reduceLeDiff, Nat.min_self, ge_iff_le, gt_iff_lt, Option.isNone_none, Option.isSome_none, Option.isNone_some, Option.isSome_some, Bool.and_true, Bool.true_and, Bool.and_false, Bool.false_and, not_true_eq_false, not_false_eq_true, or_true, true_or, false_or, or_false, e1, e2, e3, g1, g2, v1, v2, c1, c2]
    · have hab : ¬ a = b := fun h => by subst h; rw [hx] at hy; cases hy; exact hxy rfl
      rw [if_neg hab]
      have hne : ((x : Int) != (y : Int)) = true := by simp; omega
      have hlt := less_at (by omega) ha hb hx hy hxy hd
      have hdec : decide ((x : Int) < (y : Int)) = decide (num 256 a < num 256 b) := by
        by_cases h : x < y
        · rw [decide_eq_true (hlt.2 h), decide_eq_true (by omega)]
        · rw [decide_eq_false (fun k => h (hlt.1 k)), decide_eq_false (by omega)]
      simp only [rlI, a48_l0, envOf, evCode_skip, evCode_exit, evCode_seq, fs_blockS, fs_blockR, fs_blockC, fs_blockK, fs_blockB, evCode_ret, quiet, keep_nil, keep_cons, fs_cond, fs_region, fs_regionP, fs_nil, fs_guard, fs_move, fs_pick, fs_alloc, fs_box, fs_load, fs_store, fs_bin, fs_eqv, fs_isNil, fs_un, fs_conv, fs_convStr, fs_field, fs_index, fs_indexStr, fs_build, fs_buildSlice, fs_fieldAddr, fs_indexAddr, fs_indexSl, fs_sliceArr, fs_sliceSl, fs_sliceStr, fs_makeSlice, fs_extract, fs_mkIface, fs_mkFunc, fs_nilCheck, fs_s2ap, fs_len, fs_minmax, fs_s2b, fs_b2s, fs_append, fs_copy, fs_callV, fs_callR, fs_callv, opd_tmp, opd_const, opd_func, opds_nil, opds_cons, opdOpt_none, opdOpt_some, opdParts_nil, opdParts_cons, get_miss, vPick_t, vPick_f, vEq_agg, vEq_aggN, vEq_bool, vEq_boolN, vConv_int, vStr_s, vField_agg, vIndex_agg, vIndexStr_s, vFieldAddr_p, vIndexAddr_p, vIndexSl_s, vSliceArr_p, vSliceSl_s, vSliceSl_n, vSliceStr_s, vExtract_t, vNilCheck_p, vS2ap_s, vLen_s, vLen_str, vMin_i, vMax_i, vLoad_p, vStore_p, baseP_p, vB2s_s, vMake_i, vS2b_s, callee_f, liveAt_eq, storeAt_eq, partL_none, partL_some, natIn_none, natIn_int, bounds3_two, bin_add, bin_sub, bin_mul, bin_quo, bin_rem, bin_and, bin_or, bin_xor, bin_andNot, bin_eql, bin_neq, bin_lss, bin_leq, bin_gtr, bin_geq, bin_shl, bin_shr, bin_sadd, bin_seql, bin_sneq, un_not, un_neg, un_xor, after_some, put_some, put_none, res_nil, res_val, res_var, packed_one, packed_two, merge_nil, merge_ge, rf_tup2, rfIn_int, rfIn_bool, rfIn_u8s, rf_str, rfIn_str, ↓gate_true, ↓guardV_tt, ↓guardV_ff, ↓guardV_tf, ↓guardV_ft, ↓keepV_some, ↓qElse_some, ↓get_hit, ↓Option.bind_some, ↓if_true, ↓if_false, List.nil_append, List.cons_append, List.all_nil, List.all_cons, List.isEmpty_nil, reduceCtorEq, Bool.false_eq_true, Nat.reduceEqDiff, beq_self_eq_true, bne_self_eq_false, Bool.not_true, Bool.not_false, Int.natCast_nonneg, Nat.lt_irrefl, false_and, Int.reduceEq, rf_int, rf_bool, rf_tuple_ints, rf_u8s, arr_list, toList2, Bool.and_self, Nat.not_lt_zero, Nat.sub_zero, Nat.zero_le, Nat.le_add_right, cells_agg, cells_agg_size, cells_int, cells_int_size, okVar, eq_self, wrapI64_small, Int.natCast_zero, Int.natCast_one, Int.cast_ofNat_Int, List.length_nil, List.length_cons, List.getElem?_cons_zero, List.getElem?_cons_succ, List.set_cons_zero, List.set_cons_succ, Nat.zero_add, Nat.add_zero, Nat.mul_one, Nat.zero_mul, Int.toNat_natCast, Int.toNat_zero, Int.lt_irrefl, Int.le_refl, Nat.le_refl, and_self, true_and, and_true, decide_true, decide_false, Int.reduceLE, Int.reduceLT, Int.reduceAdd, Int.reduceMul, Int.reduceSub, Int.reduceTDiv, Int.reduceTMod, Int.reduceNeg, Int.reduceToNat, Int.reduceGT, Int.reduceGE, Int.reducePow, Nat.reduceAdd, Nat.reduceMul, Nat.reduceSub, Nat.reduceDiv, Nat.reduceMod, Nat.reducePow, Nat.reduceLT, Nat.reduceLeDiff, Nat.min_self, ge_iff_le, gt_iff_lt, Option.isNone_none, Option.isSome_none, Option.isNone_some, Option.isSome_some, Bool.and_true, Bool.true_and, Bool.and_false, Bool.false_and, not_true_eq_false, not_false_eq_true, or_true, true_or, false_or, or_false, e1, e2, e3, g1, g2, v1, v2, c1, c2, hne, hdec]

theorem refless_ev {H : List Ob} {sa sb : Value} {n : Nat} {a b : List Nat} (hra : Sl .i64 H sa a) (hrb : Sl .i64 H sb b) (la : a.length = n) (lb : b.length = n) (hn : 0 < n) (hN : n < 2 ^ 40) (ha : ∀ x ∈ a, x < 256) (hb : ∀ x ∈ b, x < 256) :
    evFun T 48 [sa, sb] H = some (.bool (decide (num 256 a < num 256 b)), H, []) := by
  obtain ⟨ia, oa, ca, rfl, ra⟩ := hra.row (by omega)
  obtain ⟨ib, ob, cb, rfl, rb⟩ := hrb.row (by omega)
  rw [la, lb]
  have hl := refless_loop (base := H.length) (ca := ca) (cb := cb) ra rb la lb hN ha hb n (Nat.le_refl n) (by rw [List.drop_of_length_le (by omega), List.drop_of_length_le (by omega)])
  have e3 : IntKind.i64.wrap ((n : Int) - 1) = (n : Int) - 1 := wrapI64_small (by omega) (by omega)
  rw [evFun_fn (fn := a48) rfl]
  simp only [rlI, List.cons_append, List.nil_append] at hl
  by_cases hab : a = b
  · rw [if_pos hab] at hl
    subst hab
    have : decide (num 256 a < num 256 a) = false := by simp
    simp only [a48, envOf, evCode_skip, evCode_exit, evCode_seq, fs_blockS, fs_blockR, fs_blockC, fs_blockK, fs_blockB, evCode_ret, quiet, keep_nil, keep_cons, fs_cond, fs_region, fs_regionP, fs_nil, fs_guard, fs_move, fs_pick, fs_alloc, fs_box, fs_load, fs_store, fs_bin, fs_eqv, fs_isNil, fs_un, fs_conv, fs_convStr, fs_field, fs_index, fs_indexStr, fs_build, fs_buildSlice, fs_fieldAddr, fs_indexAddr, fs_indexSl, fs_sliceArr, fs_sliceSl, fs_sliceStr, fs_makeSlice, fs_extract, fs_mkIface, fs_mkFunc, fs_nilCheck, fs_s2ap, fs_len, fs_minmax, fs_s2b, fs_b2s, fs_append, fs_copy, fs_callV, fs_callR, fs_callv, opd_tmp, opd_const, opd_func, opds_nil, opds_cons, opdOpt_none, opdOpt_some, opdParts_nil, opdParts_cons, get_miss, vPick_t, vPick_f, vEq_agg, vEq_aggN, vEq_bool, vEq_boolN, vConv_int, vStr_s, vField_agg, vIndex_agg, vIndexStr_s, vFieldAddr_p, vIndexAddr_p, vIndexSl_s, vSliceArr_p, vSliceSl_s, vSliceSl_n, vSliceStr_s, vExtract_t, vNilCheck_p, vS2ap_s, vLen_s, vLen_str, vMin_i, vMax_i, vLoad_p, vStore_p, baseP_p, vB2s_s, vMake_i, vS2b_s, callee_f, liveAt_eq, storeAt_eq, partL_none, partL_some, natIn_none, natIn_int, bounds3_two, bin_add, bin_sub, bin_mul, bin_quo, bin_rem, bin_and, bin_or, bin_xor, bin_andNot, bin_eql, bin_neq, bin_lss, bin_leq, bin_gtr, bin_geq, bin_shl, bin_shr, bin_sadd, bin_seql, bin_sneq, un_not, un_neg, un_xor, after_some, put_some, put_none, res_nil, res_val, res_var, packed_one, packed_two, merge_nil, merge_ge, rf_tup2, rfIn_int, rfIn_bool, rfIn_u8s, rf_str, rfIn_str, ↓gate_true, ↓guardV_tt, ↓guardV_ff, ↓guardV_tf, ↓guardV_ft, ↓keepV_some, ↓qElse_some, ↓get_hit, ↓Option.bind_some, ↓if_true, ↓if_false, List.nil_append, List.cons_append, List.all_nil, List.all_cons, List.isEmpty_nil, reduceCtorEq, Bool.false_eq_true, Nat.reduceEqDiff, beq_self_eq_true, bne_self_eq_false, Bool.not_true, Bool.not_false, Int.natCast_nonneg, Nat.lt_irrefl, false_and, Int.reduceEq, rf_int, rf_bool, rf_tuple_ints, rf_u8s, arr_list, toList2, Bool.and_self, Nat.not_lt_zero, Nat.sub_zero, Nat.zero_le, Nat.le_add_right, cells_agg, cells_agg_size, cells_int, cells_int_size, okVar, eq_self, wrapI64_small, Int.natCast_zero, Int.natCast_one, Int.cast_ofNat_Int, List.length_nil, List.length_cons, List.getElem?_cons_zero, List.getElem?_cons_succ, List.set_cons_zero, List.set_cons_succ, Nat.zero_add, Nat.add_zero, Nat.mul_one, Nat.zero_mul, Int.toNat_natCast, Int.toNat_zero, Int.lt_irrefl, Int.le_refl, Nat.le_refl, and_self, true_and, and_true, decide_true, decide_false, Int.reduceLE, Int.reduceLT, Int.reduceAdd, Int.reduceMul, Int.reduceSub, Int.reduceTDiv, Int.reduceTMod, Int.reduceNeg, Int.reduceToNat, Int.reduceGT, Int.reduceGE, Int.reducePow, Nat.reduceAdd, Nat.reduceMul, Nat.reduceSub, Nat.reduceDiv, Nat.reduceMod, Nat.reducePow, Nat.reduceLT, Nat.reduceLeDiff, Nat.min_self, ge_iff_le, gt_iff_lt, Option.isNone_none, Option.isSome_none, Option.isNone_some, Option.isSome_some, Bool.and_true, Bool.true_and, Bool.and_false, Bool.false_and, not_true_eq_false, not_false_eq_true, or_true, true_or, false_or, or_false, e3, evCode_block, hl, this]
  · rw [if_neg hab] at hl
    simp only [a48, envOf, evCode_skip, evCode_exit, evCode_seq, fs_blockS, fs_blockR, fs_blockC, fs_blockK, fs_blockB, evCode_ret, quiet, keep_nil, keep_cons, fs_cond, fs_region, fs_regionP, fs_nil, fs_guard, fs_move, fs_pick, fs_alloc, fs_box, fs_load, fs_store, fs_bin, fs_eqv, fs_isNil, fs_un, fs_conv, fs_convStr, fs_field, fs_index, fs_indexStr, fs_build, fs_buildSlice, fs_fieldAddr, fs_indexAddr, fs_indexSl, fs_sliceArr, fs_sliceSl, fs_sliceStr, fs_makeSlice, fs_extract, fs_mkIface, fs_mkFunc, fs_nilCheck, fs_s2ap, fs_len, fs_minmax, fs_s2b, fs_b2s, fs_append, fs_copy, fs_callV, fs_callR, fs_callv, opd_tmp, opd_const, opd_func, opds_nil, opds_cons, opdOpt_none, opdOpt_some, opdParts_nil, opdParts_cons, get_miss, vPick_t, vPick_f, vEq_agg, vEq_aggN, vEq_bool, vEq_boolN, vConv_int, vStr_s, vField_agg, vIndex_agg, vIndexStr_s, vFieldAddr_p, vIndexAddr_p, vIndexSl_s, vSliceArr_p, vSliceSl_s, vSliceSl_n, vSliceStr_s, vExtract_t, vNilCheck_p, vS2ap_s, vLen_s, vLen_str, vMin_i, vMax_i, vLoad_p, vStore_p, baseP_p, vB2s_s, vMake_i, vS2b_s, callee_f, liveAt_eq, storeAt_eq, partL_none, partL_some, natIn_none, natIn_int, bounds3_two, bin_add, bin_sub, bin_mul, bin_quo, bin_rem, bin_and, bin_or, bin_xor, bin_andNot, bin_eql, bin_neq, bin_lss, bin_leq, bin_gtr, bin_geq, bin_shl, bin_shr, bin_sadd, bin_seql, bin_sneq, un_not, un_neg, un_xor, after_some, put_some, put_none, res_nil, res_val, res_var, packed_one, packed_two, merge_nil, merge_ge, rf_tup2, rfIn_int, rfIn_bool, rfIn_u8s, rf_str, rfIn_str, ↓gate_true, ↓guardV_tt, ↓guardV_ff, ↓guardV_tf, ↓guardV_ft, ↓keepV_some, ↓qElse_some, ↓get_hit, ↓Option.bind_some, ↓if_true, ↓if_false, List.nil_append, List.cons_append, List.all_nil, List.all_cons, List.isEmpty_nil, reduceCtorEq, Bool.false_eq_true, Nat.reduceEqDiff, beq_self_eq_true, bne_self_eq_false, Bool.not_true, Bool.not_false, Int.natCast_nonneg, Nat.lt_irrefl, false_and, Int.reduceEq, rf_int, rf_bool, rf_tuple_ints, rf_u8s, arr_list, toList2, Bool.and_self, Nat.not_lt_zero, Nat.sub_zero, Nat.zero_le, Nat.le_add_right, cells_agg, cells_agg_size, cells_int, cells_int_size, okVar, eq_self, wrapI64_small, Int.natCast_zero, Int.natCast_one, Int.cast_ofNat_Int, List.length_nil, List.length_cons, List.getElem?_cons_zero, List.getElem?_cons_succ, List.set_cons_zero, List.set_cons_succ, Nat.zero_add, Nat.add_zero, Nat.mul_one, Nat.zero_mul, Int.toNat_natCast, Int.toNat_zero, Int.lt_irrefl, Int.le_refl, Nat.le_refl, and_self, true_and, and_true, decide_true, decide_false, Int.reduceLE, Int.reduceLT, Int.reduceAdd, Int.reduceMul, Int.reduceSub, Int.reduceTDiv, Int.reduceTMod, Int.reduceNeg, Int.reduceToNat, Int.reduceGT, Int.reduceGE, Int.reducePow, Nat.reduceAdd, Nat.reduceMul, Nat.reduceSub, Nat.reduceDiv, Nat.reduceMod, Nat.reducePow, Nat.reduceLT, Nat.reduceLeDiff, Nat.min_self, ge_iff_le, gt_iff_lt, Option.isNone_none, Option.isSome_none, Option.isNone_some, Option.isSome_some, Bool.and_true, Bool.true_and, Bool.and_false, Bool.false_and, not_true_eq_false, not_false_eq_true, or_true, true_or, false_or, or_false, e3, evCode_block, hl]

/-! Mod. -/
/-- The heap: the row of 33 digits is the one that changes. -/
def mH (H : List Ob) (z r : List Nat) (l : List Ob) : List Ob := H ++ ⟨u8s z, true, true, true, 1⟩ :: ⟨ns .i64 r, true, true, true, 1⟩ :: l
theorem mH_other {H : List Ob} {z r r' : List Nat} {l : List Ob} {v : Value} {k : IntKind} {xs : List Nat} {id off n c : Nat} (hv : v = .slice (some ⟨id, off, none⟩) n c) (hid : id ≠ H.length + 1) (h : Sl k (mH H z r l) v xs) : Sl k (mH H z r' l) v xs := by
  subst hv
  cases h with
  | mk h1 h2 h3 =>
    refine .mk ?_ h2 h3
    rw [← h1]
    apply liveAt_congr
    unfold mH
    by_cases hlt : id < H.length
    · rw [List.getElem?_append_left hlt, List.getElem?_append_left hlt]
    · rw [List.getElem?_append_right (by omega), List.getElem?_append_right (by omega)]
      rcases hk : id - H.length with _ | _ | k
      · rfl
      · omega
      · rfl

def mrs (H : List Ob) : Value := .slice (some ⟨H.length + 1, 0, none⟩) 33 33
/-- A digit that is below nought borrows. -/
def l1I (R v0 sl : Value) (rs : Value) (i q b k x : Int) (h : List Ob) (ex : Env) : St := ⟨[(0, v0), (2, R), (3, rs), (4, sl), (5, .int .i64 i), (7, .int .i64 q), (8, .int .i64 b), (9, .int .i64 k), (10, .int .i64 x)] ++ ex, h, []⟩
theorem l1_loop {base : Nat} {R v0 sl rs : Value} {i q k : Int} {h : List Ob} : ∀ (t : Nat) (b x : Int), t < 2 ^ 40 → 0 ≤ b → b + t < 2 ^ 41 → x + 256 * t < 256 → 0 ≤ x + 256 * t → (0 < t → x < 0) →
    evCode T base (.loop a43_l1) (l1I R v0 sl rs i q b k x h []) = some (.exit 8, l1I R v0 sl rs i q (b + t) k (x + 256 * t) h [(75, .bool false)])
  | 0, b, x, _, _, _, h1, h2, _ => by
    have e : (x < 0) = False := eq_false (by omega)
    rw [evCode_loop]
    simp only [l1I, a43_l1, envOf, evCode_skip, evCode_exit, evCode_seq, fs_blockS, fs_blockR, fs_blockC, fs_blockK, fs_blockB, evCode_ret, quiet, keep_nil, keep_cons, fs_cond, fs_region, fs_regionP, fs_nil, fs_guard, fs_move, fs_pick, fs_alloc, fs_box, fs_load, fs_store, fs_bin, fs_eqv, fs_isNil, fs_un, fs_conv, fs_convStr, fs_field, fs_index, fs_indexStr, fs_build, fs_buildSlice, fs_fieldAddr, fs_indexAddr, fs_indexSl, fs_sliceArr, fs_sliceSl, fs_sliceStr, fs_makeSlice, fs_extract, fs_mkIface, fs_mkFunc, fs_nilCheck, fs_s2ap, fs_len, fs_minmax, fs_s2b, fs_b2s, fs_append, fs_copy, fs_callV, fs_callR, fs_callv, opd_tmp, opd_const, opd_func, opds_nil, opds_cons, opdOpt_none, opdOpt_some, opdParts_nil, opdParts_cons, get_miss, vPick_t, vPick_f, vEq_agg, vEq_aggN, vEq_bool, vEq_boolN, vConv_int, vStr_s, vField_agg, vIndex_agg, vIndexStr_s, vFieldAddr_p, vIndexAddr_p, vIndexSl_s, vSliceArr_p, vSliceSl_s, vSliceSl_n, vSliceStr_s, vExtract_t, vNilCheck_p, vS2ap_s, vLen_s, vLen_str, vMin_i, vMax_i, vLoad_p, vStore_p, baseP_p, vB2s_s, vMake_i, vS2b_s, callee_f, liveAt_eq, storeAt_eq, partL_none, partL_some, natIn_none, natIn_int, bounds3_two, bin_add, bin_sub, bin_mul, bin_quo, bin_rem, bin_and, bin_or, bin_xor, bin_andNot, bin_eql, bin_neq, bin_lss, bin_leq, bin_gtr, bin_geq, bin_shl, bin_shr, bin_sadd, bin_seql, bin_sneq, un_not, un_neg, un_xor, after_some, put_some, put_none, res_nil, res_val, res_var, packed_one, packed_two, merge_nil, merge_ge, rf_tup2, rfIn_int, rfIn_bool, rfIn_u8s, rf_str, rfIn_str, ↓gate_true, ↓guardV_tt, ↓guardV_ff, ↓guardV_tf, ↓guardV_ft, ↓keepV_some, ↓qElse_some, ↓get_hit, ↓Option.bind_some, ↓if_true, ↓if_false, List.nil_append, List.cons_append, List.all_nil, List.all_cons, List.isEmpty_nil, reduceCtorEq, Bool.false_eq_true, Nat.reduceEqDiff, beq_self_eq_true, bne_self_eq_false, Bool.not_true, Bool.not_false, Int.natCast_nonneg, Nat.lt_irrefl, false_and, Int.reduceEq, rf_int, rf_bool, rf_tuple_ints, rf_u8s, arr_list, toList2, Bool.and_self, Nat.not_lt_zero, Nat.sub_zero, Nat.zero_le, Nat.le_add_right, cells_agg, cells_agg_size, cells_int, cells_int_size, okVar, eq_self, wrapI64_small, Int.natCast_zero, Int.natCast_one, Int.cast_ofNat_Int, List.length_nil, List.length_cons, List.getElem?_cons_zero, List.getElem?_cons_succ, List.set_cons_zero, List.set_cons_succ, Nat.zero_add, Nat.add_zero, Nat.mul_one, Nat.zero_mul, Int.toNat_natCast, Int.toNat_zero, Int.lt_irrefl, Int.le_refl, Nat.le_refl, and_self, true_and, and_true, decide_true, decide_false, Int.reduceLE, Int.reduceLT, Int.reduceAdd, Int.reduceMul, Int.reduceSub, Int.reduceTDiv, Int.reduceTMod, Int.reduceNeg, Int.reduceToNat, Int.reduceGT, Int.reduceGE, Int.reducePow, Nat.reduceAdd, Nat.reduceMul, Nat.reduceSub, Nat.reduceDiv, Nat.reduceMod, Nat.reducePow, Nat.reduceLT, Nat.reduceLeDiff, Nat.min_self, ge_iff_le, gt_iff_lt, Option.isNone_none, Option.isSome_none, Option.isNone_some, Option.isSome_some, Bool.and_true, Bool.true_and, Bool.and_false, Bool.false_and, not_true_eq_false, not_false_eq_true, or_true, true_or, false_or, or_false, e, Int.mul_zero, Int.add_zero]
  | t + 1, b, x, ht, hb0, hb, h1, h2, h3 => by
    have e : (x < 0) = True := eq_true (h3 (by omega))
    have ih := l1_loop (base := base) (R := R) (v0 := v0) (sl := sl) (rs := rs) (i := i) (q := q) (k := k) (h := h) t (b + 1) (x + 256) (by omega) (by omega) (by omega) (by omega) (by omega) (fun h => by omega)
    have w1 : IntKind.i64.wrap (x + 256) = x + 256 := wrapI64_small (by omega) (by omega)
    have w2 : IntKind.i64.wrap (b + 1) = b + 1 := wrapI64_small (by omega) (by omega)
    rw [evCode_loop]
    rw [show b + ((t + 1 : Nat) : Int) = b + 1 + (t : Int) by omega, show x + 256 * ((t + 1 : Nat) : Int) = x + 256 + 256 * (t : Int) by omega, ← ih]
    simp only [l1I, a43_l1, envOf, evCode_skip, evCode_exit, evCode_seq, fs_blockS, fs_blockR, fs_blockC, fs_blockK, fs_blockB, evCode_ret, quiet, keep_nil, keep_cons, fs_cond, fs_region, fs_regionP, fs_nil, fs_guard, fs_move, fs_pick, fs_alloc, fs_box, fs_load, fs_store, fs_bin, fs_eqv, fs_isNil, fs_un, fs_conv, fs_convStr, fs_field, fs_index, fs_indexStr, fs_build, fs_buildSlice, fs_fieldAddr, fs_indexAddr, fs_indexSl, fs_sliceArr, fs_sliceSl, fs_sliceStr, fs_makeSlice, fs_extract, fs_mkIface, fs_mkFunc, fs_nilCheck, fs_s2ap, fs_len, fs_minmax, fs_s2b, fs_b2s, fs_append, fs_copy, fs_callV, fs_callR, fs_callv, opd_tmp, opd_const, opd_func, opds_nil, opds_cons, opdOpt_none, opdOpt_some, opdParts_nil, opdParts_cons, get_miss, vPick_t, vPick_f, vEq_agg, vEq_aggN, vEq_bool, vEq_boolN, vConv_int, vStr_s, vField_agg, vIndex_agg, vIndexStr_s, vFieldAddr_p, vIndexAddr_p, vIndexSl_s, vSliceArr_p, vSliceSl_s, vSliceSl_n, vSliceStr_s, vExtract_t, vNilCheck_p, vS2ap_s, vLen_s, vLen_str, vMin_i, vMax_i, vLoad_p, vStore_p, baseP_p, vB2s_s, vMake_i, vS2b_s, callee_f, liveAt_eq, storeAt_eq, partL_none, partL_some, natIn_none, natIn_int, bounds3_two, bin_add, bin_sub, bin_mul, bin_quo, bin_rem, bin_and, bin_or, bin_xor, bin_andNot, bin_eql, bin_neq, bin_lss, bin_leq, bin_gtr, bin_geq, bin_shl, bin_shr, bin_sadd, bin_seql, bin_sneq, un_not, un_neg, un_xor, after_some, put_some, put_none, res_nil, res_val, res_var, packed_one, packed_two, merge_nil, merge_ge, rf_tup2, rfIn_int, rfIn_bool, rfIn_u8s, rf_str, rfIn_str, ↓gate_true, ↓guardV_tt, ↓guardV_ff, ↓guardV_tf, ↓guardV_ft, ↓keepV_some, ↓qElse_some, ↓get_hit, ↓Option.bind_some, ↓if_true, ↓if_false, List.nil_append, List.cons_append, List.all_nil, List.all_cons, List.isEmpty_nil, reduceCtorEq, Bool.false_eq_true, Nat.reduceEqDiff, beq_self_eq_true, bne_self_eq_false, Bool.not_true, Bool.not_false, Int.natCast_nonneg, Nat.lt_irrefl, false_and, Int.reduceEq, rf_int, rf_bool, rf_tuple_ints, rf_u8s, arr_list, toList2, Bool.and_self, Nat.not_lt_zero, Nat.sub_zero, Nat.zero_le, Nat.le_add_right, cells_agg, cells_agg_size, cells_int, cells_int_size, okVar, eq_self, wrapI64_small, Int.natCast_zero, Int.natCast_one, Int.cast_ofNat_Int, List.length_nil, List.length_cons, List.getElem?_cons_zero, List.getElem?_cons_succ, List.set_cons_zero, List.set_cons_succ, Nat.zero_add, Nat.add_zero, Nat.mul_one, Nat.zero_mul, Int.toNat_natCast, Int.toNat_zero, Int.lt_irrefl, Int.le_refl, Nat.le_refl, and_self, true_and, and_true, decide_true, decide_false, Int.reduceLE, Int.reduceLT, Int.reduceAdd, Int.reduceMul, Int.reduceSub, Int.reduceTDiv, Int.reduceTMod, Int.reduceNeg, Int.reduceToNat, Int.reduceGT, Int.reduceGE, Int.reducePow, Nat.reduceAdd, Nat.reduceMul, Nat.reduceSub, Nat.reduceDiv, Nat.reduceMod, Nat.reducePow, Nat.reduceLT, Nat.reduceLeDiff, Nat.min_self, ge_iff_le, gt_iff_lt, Option.isNone_none, Option.isSome_none, Option.isNone_some, Option.isSome_some, Bool.and_true, Bool.true_and, Bool.and_false, Bool.false_and, not_true_eq_false, not_false_eq_true, or_true, true_or, false_or, or_false, e, w1, w2]
end Go.Ev.Ytaceeoghjgggjaa

/-
  intaglioref04.Mod: what is left of digits by the order.
-/
set_option linter.unusedSimpArgs false
set_option linter.unusedVariables false
namespace Go.Ev.Ytaceeoghjgggjaa
open Go Go.Ev
attribute [local congr] bind_congr2 ite_congr2 qElse_congr gate_congr guardV_congr
set_option maxRecDepth 100000

def ord33 : List Nat := ordL ++ [0]
theorem ord33_len : ord33.length = 33 := by simp [ord33, ordL_len]
theorem ord33_lt : ∀ x ∈ ord33, x < 256 := by
  intro x hx
  simp only [ord33, List.mem_append, List.mem_singleton] at hx
  rcases hx with h | h
  · exact ordL_lt x h
  · omega
theorem ord33_num : num 256 ord33 = ell := by
  simp only [ord33, num_append, ordL_num, num]; omega

/-- So often the order is taken off: k digits are done. -/
structure SubInv (k q : Nat) (r0 r : List Nat) (b : Nat) : Prop where
  len : r.length = 33
  lt : ∀ x ∈ r, x < 256
  ble : b ≤ q + 1
  eq : num 256 (r0.take k) + b * 256 ^ k = num 256 (r.take k) + q * num 256 (ord33.take k)
  rest : r.drop k = r0.drop k

def nx (y q l b : Nat) : Nat := ((y : Int) - q * l - b).toNat
def nb (y q l b : Nat) : Nat := (q * l + b - y + 255) / 256

theorem SubInv.step {k q b y l : Nat} {r0 r : List Nat} (h : SubInv k q r0 r b) (hk : k < 33) (hy : r[k]? = some y) (hl : ord33[k]? = some l) : SubInv (k + 1) q r0 (r.set k (y + 256 * nb y q l b - (q * l + b))) (nb y q l b) ∧ y + 256 * nb y q l b - (q * l + b) < 256 ∧ q * l + b ≤ y + 256 * nb y q l b := by
  have hy' := h.lt y (List.mem_of_getElem? hy)
  have hl' := ord33_lt l (List.mem_of_getElem? hl)
  have hb := h.ble
  have hlen := h.len
  have hnb : y + 256 * nb y q l b - (q * l + b) < 256 ∧ q * l + b ≤ y + 256 * nb y q l b := by unfold nb; omega
  have hql : q * l ≤ q * 255 := Nat.mul_le_mul_left q (by omega)
  have hnb2 : nb y q l b ≤ q + 1 := by unfold nb; omega
  have hy0 : r0[k]? = some y := by
    have h1 : (r.drop k)[0]? = (r0.drop k)[0]? := by rw [h.rest]
    rwa [List.getElem?_drop, List.getElem?_drop, Nat.add_zero, hy, eq_comm] at h1
  refine ⟨⟨by rw [List.length_set]; exact hlen, set_lt h.lt hnb.1, hnb2, ?_, ?_⟩, hnb⟩
  · generalize nb y q l b = c at *
    obtain ⟨d, hd⟩ : ∃ d, y + 256 * c = q * l + b + d := ⟨y + 256 * c - (q * l + b), by omega⟩
    have hset : (r.set k d).take (k + 1) = r.take k ++ [d] := by
      rw [List.take_add_one, List.getElem?_set_self (by omega), List.take_set_of_le (Nat.le_refl k)]; rfl
    rw [show y + 256 * c - (q * l + b) = d by omega, hset, num_take hy0, num_take hl, num_append]
    have hln : (r.take k).length = k := by rw [List.length_take]; omega
    rw [hln]
    have he := h.eq
    simp only [num, Nat.mul_zero, Nat.add_zero]
    have e1 : c * 256 ^ (k + 1) = (256 * c) * 256 ^ k := by rw [Nat.pow_succ]; simp only [Nat.mul_assoc, Nat.mul_left_comm, Nat.mul_comm]
    have e2 : (y + 256 * c) * 256 ^ k = (q * l + b + d) * 256 ^ k := by rw [hd]
    rw [Nat.add_mul, Nat.add_mul, Nat.add_mul] at e2
    rw [e1, Nat.mul_add, ← Nat.mul_assoc, Nat.mul_comm (256 ^ k) d]
    omega
  · rw [List.drop_set_of_lt (by omega)]
    have h1 : (r.drop k).drop 1 = (r0.drop k).drop 1 := by rw [h.rest]
    rwa [List.drop_drop, List.drop_drop] at h1

def l2I (R v0 sl rs : Value) (i q b k : Int) (h : List Ob) (ex : Env) : St := ⟨[(0, v0), (2, R), (3, rs), (4, sl), (5, .int .i64 i), (7, .int .i64 q), (8, .int .i64 b), (9, .int .i64 k)] ++ ex, h, []⟩

theorem live_row {k : IntKind} {H : List Ob} {id off n c : Nat} {xs : List Nat} (h : Sl k H (.slice (some ⟨id, off, none⟩) n c) xs) : ∃ o, H[id]? = some o ∧ o.live = true ∧ n = xs.length ∧ ∀ (i x : Nat), xs[i]? = some x → o.cells[off + i]? = some (.int k (x : Nat)) := by
  cases h with
  | mk h1 h2 h3 =>
    simp only [liveAt, Option.bind_eq_some_iff] at h1
    obtain ⟨o', g1, g2⟩ := h1
    split at g2
    · cases g2; exact ⟨_, g1, by assumption, rfl, h3⟩
    · cases g2

theorem l2_body {H : List Ob} {R v0 : Value} {z r0 r : List Nat} {l : List Ob} {il ol cl : Nat} {i : Int} {q b k y lk : Nat} (hsl : ∀ r, Sl .i64 (mH H z r l) (.slice (some ⟨il, ol, none⟩) 33 cl) ord33) (hI : SubInv k q r0 r b) (hk : k < 33) (hq : q < 2 ^ 20) (hy : r[k]? = some y) (hl : ord33[k]? = some lk) :
    evCode T H.length a43_l2 (l2I R v0 (.slice (some ⟨il, ol, none⟩) 33 cl) (mrs H) i q b k (mH H z r l) []) =
      some (.normal, l2I R v0 (.slice (some ⟨il, ol, none⟩) 33 cl) (mrs H) i q (nb y q lk b : Nat) ((k + 1 : Nat) : Int) (mH H z (r.set k (y + 256 * nb y q lk b - (q * lk + b))) l) []) := by
  obtain ⟨hS, hlt, hle⟩ := hI.step hk hy hl
  have hy' := hI.lt y (List.mem_of_getElem? hy)
  have hl' := ord33_lt lk (List.mem_of_getElem? hl)
  have hb := hI.ble
  have hlen := hI.len
  have hql : q * lk ≤ q * 255 := Nat.mul_le_mul_left q (by omega)
  have hnb2 := hS.ble
  obtain ⟨o, ho, hv, -, hc⟩ := live_row (hsl r)
  have hcl := hc k lk hl
  have hyc := ns_get (k := .i64) hy
  have k1 : ((k : Int) < 33) = True := eq_true (by omega)
  have k2 : ((k : Int) < ((33 : Nat) : Int)) = True := eq_true (by omega)
  have w1 : IntKind.i64.wrap ((q : Int) * (lk : Int)) = ((q * lk : Nat) : Int) := by rw [← Int.natCast_mul]; exact wrap_nat (by omega)
  have w2 : IntKind.i64.wrap ((y : Int) - ((q * lk : Nat) : Int)) = (y : Int) - ((q * lk : Nat) : Int) := wrapI64_small (by omega) (by omega)
  have w3 : IntKind.i64.wrap ((y : Int) - ((q * lk : Nat) : Int) - (b : Int)) = (y : Int) - ((q * lk : Nat) : Int) - (b : Int) := wrapI64_small (by omega) (by omega)
  have w4 : IntKind.i64.wrap ((k : Int) + 1) = ((k + 1 : Nat) : Int) := wrap_nat (n := k + 1) (by omega)
  have hloop := l1_loop (base := H.length) (R := R) (v0 := v0) (sl := .slice (some ⟨il, ol, none⟩) 33 cl) (rs := mrs H) (i := i) (q := q) (k := k) (h := mH H z r l) (nb y q lk b) 0 ((y : Int) - ((q * lk : Nat) : Int) - (b : Int)) (by omega) (by omega) (by omega) (by omega) (by omega) (fun h => by unfold nb at h; omega)
  rw [show (0 : Int) + (nb y q lk b : Nat) = (nb y q lk b : Nat) by omega, show (y : Int) - ((q * lk : Nat) : Int) - (b : Int) + 256 * (nb y q lk b : Nat) = ((y + 256 * nb y q lk b - (q * lk + b) : Nat) : Int) by omega] at hloop
  have hset := ns_set .i64 r k (y + 256 * nb y q lk b - (q * lk + b))
  have hst : k + 1 ≤ 33 := by omega
  generalize nb y q lk b = c at *
  generalize y + 256 * c - (q * lk + b) = d at *
  simp only [l1I, l2I, mH, mrs, List.cons_append, List.nil_append] at hloop ho ⊢
  simp only [a43_l2, envOf, evCode_skip, evCode_exit, evCode_seq, fs_blockS, fs_blockR, fs_blockC, fs_blockK, fs_blockB, evCode_ret, quiet, keep_nil, keep_cons, fs_cond, fs_region, fs_regionP, fs_nil, fs_guard, fs_move, fs_pick, fs_alloc, fs_box, fs_load, fs_store, fs_bin, fs_eqv, fs_isNil, fs_un, fs_conv, fs_convStr, fs_field, fs_index, fs_indexStr, fs_build, fs_buildSlice, fs_fieldAddr, fs_indexAddr, fs_indexSl, fs_sliceArr, fs_sliceSl, fs_sliceStr, fs_makeSlice, fs_extract, fs_mkIface, fs_mkFunc, fs_nilCheck, fs_s2ap, fs_len, fs_minmax, fs_s2b, fs_b2s, fs_append, fs_copy, fs_callV, fs_callR, fs_callv, opd_tmp, opd_const, opd_func, opds_nil, opds_cons, opdOpt_none, opdOpt_some, opdParts_nil, opdParts_cons, get_miss, vPick_t, vPick_f, vEq_agg, vEq_aggN, vEq_bool, vEq_boolN, vConv_int, vStr_s, vField_agg, vIndex_agg, vIndexStr_s, vFieldAddr_p, vIndexAddr_p, vIndexSl_s, vSliceArr_p, vSliceSl_s, vSliceSl_n, vSliceStr_s, vExtract_t, vNilCheck_p, vS2ap_s, vLen_s, vLen_str, vMin_i, vMax_i, vLoad_p, vStore_p, baseP_p, vB2s_s, vMake_i, vS2b_s, callee_f, liveAt_eq, storeAt_eq, partL_none, partL_some, natIn_none, natIn_int, bounds3_two, bin_add, bin_sub, bin_mul, bin_quo, bin_rem, bin_and, bin_or, bin_xor, bin_andNot, bin_eql, bin_neq, bin_lss, bin_leq, bin_gtr, bin_geq, bin_shl, bin_shr, bin_sadd, bin_seql, bin_sneq, un_not, un_neg, un_xor, after_some, put_some, put_none, res_nil, res_val, res_var, packed_one, packed_two, merge_nil, merge_ge, rf_tup2, rfIn_int, rfIn_bool, rfIn_u8s, rf_str, rfIn_str, ↓gate_true, ↓guardV_tt, ↓guardV_ff, ↓guardV_tf, ↓guardV_ft, ↓keepV_some, ↓qElse_some, ↓get_hit, ↓Option.bind_some, ↓if_true, ↓if_false, List.nil_append, List.cons_append, List.all_nil, List.all_cons, List.isEmpty_nil, reduceCtorEq, Bool.false_eq_true, Nat.reduceEqDiff, beq_self_eq_true, bne_self_eq_false, Bool.not_true, Bool.not_false, Int.natCast_nonneg, Nat.lt_irrefl, false_and, Int.reduceEq, rf_int, rf_bool, rf_tuple_ints, rf_u8s, arr_list, toList2, Bool.and_self, Nat.not_lt_zero, Nat.sub_zero, Nat.zero_le, Nat.le_add_right, cells_agg, cells_agg_size, cells_int, cells_int_size, okVar, eq_self, wrapI64_small, Int.natCast_zero, Int.natCast_one, Int.cast_ofNat_Int, List.length_nil, List.length_cons, List.getElem?_cons_zero, List.getElem?_cons_succ, List.set_cons_zero, List.set_cons_succ, Nat.zero_add, Nat.add_zero, Nat.mul_one, Nat.zero_mul, Int.toNat_natCast, Int.toNat_zero, Int.lt_irrefl, Int.le_refl, Nat.le_refl, and_self, true_and, and_true, decide_true, decide_false, Int.reduceLE, Int.reduceLT, Int.reduceAdd, Int.reduceMul, Int.reduceSub, Int.reduceTDiv, Int.reduceTMod, Int.reduceNeg, Int.reduceToNat, Int.reduceGT, Int.reduceGE, Int.reducePow, Nat.reduceAdd, Nat.reduceMul, Nat.reduceSub, Nat.reduceDiv, Nat.reduceMod, Nat.reducePow, Nat.reduceLT, Nat.reduceLeDiff, Nat.min_self, ge_iff_le, gt_iff_lt, Option.isNone_none, Option.isSome_none, Option.isNone_some, Option.isSome_some, Bool.and_true, Bool.true_and, Bool.and_false, Bool.false_and, not_true_eq_false, not_false_eq_true, or_true, true_or, false_or, or_false, hget0, hgetK, hset0, hsetK, splice_single, splice_whole, take_whole, List.getElem?_nil, List.length_append, List.append_assoc, Nat.add_assoc, k1, k2, hyc, ho, hv, hcl, w1, w2, w3, w4, evCode_block, hloop, ns_len, hlen, hst, hset]
end Go.Ev.Ytaceeoghjgggjaa

/-
  intaglioref04.Mod, its loops.
-/
set_option linter.unusedSimpArgs false
set_option linter.unusedVariables false
namespace Go.Ev.Ytaceeoghjgggjaa
open Go Go.Ev
attribute [local congr] bind_congr2 ite_congr2 qElse_congr gate_congr guardV_congr
set_option maxRecDepth 100000

theorem l2_block {H : List Ob} {R v0 : Value} {z r : List Nat} {l : List Ob} {il ol cl : Nat} {i : Int} {q : Nat} (hsl : ∀ r, Sl .i64 (mH H z r l) (.slice (some ⟨il, ol, none⟩) 33 cl) ord33) (hq : q < 2 ^ 20) (hlen : r.length = 33) (hlt : ∀ x ∈ r, x < 256) (hle : q * ell ≤ num 256 r) :
    ∃ b r', evCode T H.length (.block 6 (.loop a43_l2)) (l2I R v0 (.slice (some ⟨il, ol, none⟩) 33 cl) (mrs H) i q 0 0 (mH H z r l) []) = some (.normal, l2I R v0 (.slice (some ⟨il, ol, none⟩) 33 cl) (mrs H) i q b 33 (mH H z r' l) [(58, .bool false)]) ∧
      r'.length = 33 ∧ (∀ x ∈ r', x < 256) ∧ num 256 r' = num 256 r - q * ell := by
  obtain ⟨st, h1, b, r', rfl, hI⟩ := block_inv (T := T) (base := H.length) (id := 6) (body := a43_l2)
    (fun k st => ∃ (b : Nat) (r' : List Nat), st = l2I R v0 (.slice (some ⟨il, ol, none⟩) 33 cl) (mrs H) i q b k (mH H z r' l) [] ∧ SubInv k q r r' b)
    (Q := fun st => ∃ (b : Nat) (r' : List Nat), st = l2I R v0 (.slice (some ⟨il, ol, none⟩) 33 cl) (mrs H) i q b 33 (mH H z r' l) [(58, .bool false)] ∧ SubInv 33 q r r' b)
    33 (s := l2I R v0 (.slice (some ⟨il, ol, none⟩) 33 cl) (mrs H) i q 0 0 (mH H z r l) []) ⟨0, r, rfl, ⟨hlen, hlt, by omega, by simp [num], rfl⟩⟩
    (fun k st hk hs => by
      obtain ⟨b, r', rfl, hI⟩ := hs
      obtain ⟨y, hy⟩ : ∃ y, r'[k]? = some y := ⟨_, List.getElem?_eq_getElem (by rw [hI.len]; omega)⟩
      obtain ⟨lk, hl⟩ : ∃ y, ord33[k]? = some y := ⟨_, List.getElem?_eq_getElem (by rw [ord33_len]; omega)⟩
      exact ⟨_, l2_body hsl hI hk hq hy hl, _, _, rfl, (hI.step hk hy hl).1⟩)
    (fun st hs => by
      obtain ⟨b, r', rfl, hI⟩ := hs
      refine ⟨_, ?_, b, r', rfl, hI⟩
      simp only [l2I, a43_l2, envOf, evCode_skip, evCode_exit, evCode_seq, fs_blockS, fs_blockR, fs_blockC, fs_blockK, fs_blockB, evCode_ret, quiet, keep_nil, keep_cons, fs_cond, fs_region, fs_regionP, fs_nil, fs_guard, fs_move, fs_pick, fs_alloc, fs_box, fs_load, fs_store, fs_bin, fs_eqv, fs_isNil, fs_un, fs_conv, fs_convStr, fs_field, fs_index, fs_indexStr, fs_build, fs_buildSlice, fs_fieldAddr, fs_indexAddr, fs_indexSl, fs_sliceArr, fs_sliceSl, fs_sliceStr, fs_makeSlice, fs_extract, fs_mkIface, fs_mkFunc, fs_nilCheck, fs_s2ap, fs_len, fs_minmax, fs_s2b, fs_b2s, fs_append, fs_copy, fs_callV, fs_callR, fs_callv, opd_tmp, opd_const, opd_func, opds_nil, opds_cons, opdOpt_none, opdOpt_some, opdParts_nil, opdParts_cons, get_miss, vPick_t, vPick_f, vEq_agg, vEq_aggN, vEq_bool, vEq_boolN, vConv_int, vStr_s, vField_agg, vIndex_agg, vIndexStr_s, vFieldAddr_p, vIndexAddr_p, vIndexSl_s, vSliceArr_p, vSliceSl_s, vSliceSl_n, vSliceStr_s, vExtract_t, vNilCheck_p, vS2ap_s, vLen_s, vLen_str, vMin_i, vMax_i, vLoad_p, vStore_p, baseP_p, vB2s_s, vMake_i, vS2b_s, callee_f, liveAt_eq, storeAt_eq, partL_none, partL_some, natIn_none, natIn_int, bounds3_two, bin_add, bin_sub, bin_mul, bin_quo, bin_rem, bin_and, bin_or, bin_xor, bin_andNot, bin_eql, bin_neq, bin_lss, bin_leq, bin_gtr, bin_geq, bin_shl, bin_shr, bin_sadd, bin_seql, bin_sneq, un_not, un_neg, un_xor, after_some, put_some, put_none, res_nil, res_val, res_var, packed_one, packed_two, merge_nil, merge_ge, rf_tup2, rfIn_int, rfIn_bool, rfIn_u8s, rf_str, rfIn_str, ↓gate_true, ↓guardV_tt, ↓guardV_ff, ↓guardV_tf, ↓guardV_ft, ↓keepV_some, ↓qElse_some, ↓get_hit, ↓Option.bind_some, ↓if_true, ↓if_false, List.nil_append, List.cons_append, List.all_nil, List.all_cons, List.isEmpty_nil, reduceCtorEq, Bool.false_eq_true, Nat.reduceEqDiff, beq_self_eq_true, bne_self_eq_false, Bool.not_true, Bool.not_false, Int.natCast_nonneg, Nat.lt_irrefl, false_and, Int.reduceEq, rf_int, rf_bool, rf_tuple_ints, rf_u8s, arr_list, toList2, Bool.and_self, Nat.not_lt_zero, Nat.sub_zero, Nat.zero_le, Nat.le_add_right, cells_agg, cells_agg_size, cells_int, cells_int_size, okVar, eq_self, wrapI64_small, Int.natCast_zero, Int.natCast_one, Int.cast_ofNat_Int, List.length_nil, List.length_cons, List.getElem?_cons_zero, List.getElem?_cons_succ, List.set_cons_zero, List.set_cons_succ, Nat.zero_add, Nat.add_zero, Nat.mul_one, Nat.zero_mul, Int.toNat_natCast, Int.toNat_zero, Int.lt_irrefl, Int.le_refl, Nat.le_refl, and_self, true_and, and_true, decide_true, decide_false, Int.reduceLE, Int.reduceLT, Int.reduceAdd, Int.reduceMul, Int.reduceSub, Int.reduceTDiv, Int.reduceTMod, Int.reduceNeg, Int.reduceToNat, Int.reduceGT, Int.reduceGE, Int.reducePow, Nat.reduceAdd, Nat.reduceMul, Nat.reduceSub, Nat.reduceDiv, Nat.reduceMod, Nat.reducePow, Nat.reduceLT, Nat.reduceLeDiff, Nat.min_self, ge_iff_le, gt_iff_lt, Option.isNone_none, Option.isSome_none, Option.isNone_some, Option.isSome_some, Bool.and_true, Bool.true_and, Bool.and_false, Bool.false_and, not_true_eq_false, not_false_eq_true, or_true, true_or, false_or, or_false])
  refine ⟨b, r', h1, hI.len, hI.lt, ?_⟩
  have he := hI.eq
  rw [List.take_of_length_le (by omega), List.take_of_length_le (by rw [hI.len]; omega), List.take_of_length_le (by rw [ord33_len]; omega), ord33_num] at he
  have h2 := num_lt hI.lt
  rw [hI.len] at h2
  rcases Nat.eq_zero_or_pos b with hb | hb
  · subst hb; omega
  · have : 1 * 256 ^ 33 ≤ b * 256 ^ 33 := Nat.mul_le_mul_right _ hb
    omega

/-- What is taken off at once goes. -/
theorem q_fits {r : List Nat} {x y : Nat} (hlen : r.length = 33) (hx : r[32]? = some x) (hy : r[31]? = some y) : (x * 256 + y) / 17 * ell ≤ num 256 r := by
  have h1 : ell ≤ 17 * 256 ^ 31 := by decide
  have h2 : (x * 256 + y) / 17 * ell ≤ (x * 256 + y) / 17 * (17 * 256 ^ 31) := Nat.mul_le_mul_left _ h1
  rw [← Nat.mul_assoc] at h2
  have h3 : (x * 256 + y) / 17 * 17 * 256 ^ 31 ≤ (x * 256 + y) * 256 ^ 31 := Nat.mul_le_mul_right _ (Nat.div_mul_le_self _ _)
  have h4 : num 256 r = num 256 (r.take 31) + y * 256 ^ 31 + x * 256 ^ 32 := by
    have h5 := num_take (B := 256) hx
    rw [List.take_of_length_le (by omega), num_take hy] at h5
    exact h5
  rw [h4]
  have h6 : (x * 256 + y) * 256 ^ 31 = x * 256 ^ 32 + y * 256 ^ 31 := by rw [Nat.add_mul, Nat.mul_assoc, ← Nat.pow_succ']
  omega

def l3I (R v0 sl rs : Value) (i : Int) (h : List Ob) (ex : Env) : St := ⟨[(0, v0), (2, R), (3, rs), (4, sl), (5, .int .i64 i)] ++ ex, h, []⟩
theorem rs_sl {H : List Ob} {z r : List Nat} {l : List Ob} (hlen : r.length = 33) : Sl .i64 (mH H z r l) (mrs H) r := by
  have := Sl.mk (k := .i64) (H := mH H z r l) (id := H.length + 1) (off := 0) (c := 33) (o := ⟨ns .i64 r, true, true, true, 1⟩) (l := r) (by simp [mH, liveAt]) (by simp [ns_len]) (fun i x hx => by rw [Nat.zero_add]; exact ns_get hx)
  rwa [hlen] at this

theorem l3_loop {H : List Ob} {R v0 : Value} {z : List Nat} {l : List Ob} {il ol cl : Nat} {i : Int} (hsl : ∀ r, Sl .i64 (mH H z r l) (.slice (some ⟨il, ol, none⟩) 33 cl) ord33) :
    ∀ (N : Nat) (r : List Nat) (ex : Env), num 256 r = N → r.length = 33 → (∀ x ∈ r, x < 256) → ∃ r' ex', evCode T H.length (.loop a43_l3) (l3I R v0 (.slice (some ⟨il, ol, none⟩) 33 cl) (mrs H) i (mH H z r l) ex) = some (.exit 4, l3I R v0 (.slice (some ⟨il, ol, none⟩) 33 cl) (mrs H) i (mH H z r' l) ex') ∧
      r'.length = 33 ∧ (∀ x ∈ r', x < 256) ∧ num 256 r' = num 256 r % ell := by
  intro N
  induction N using Nat.strongRecOn with
  | _ N ih =>
    intro r ex hN hlen hlt
    have hless := refless_ev (rs_sl (H := H) (z := z) (l := l) hlen) (hsl r) hlen ord33_len (by decide) (by decide) hlt ord33_lt
    rw [ord33_num] at hless
    by_cases hc : num 256 r < ell
    · rw [decide_eq_true hc] at hless
      refine ⟨r, [(45, .bool false)], ?_, hlen, hlt, (Nat.mod_eq_of_lt hc).symm⟩
      rw [evCode_loop]
      simp only [l3I, a43_l3, envOf, evCode_skip, evCode_exit, evCode_seq, fs_blockS, fs_blockR, fs_blockC, fs_blockK, fs_blockB, evCode_ret, quiet, keep_nil, keep_cons, fs_cond, fs_region, fs_regionP, fs_nil, fs_guard, fs_move, fs_pick, fs_alloc, fs_box, fs_load, fs_store, fs_bin, fs_eqv, fs_isNil, fs_un, fs_conv, fs_convStr, fs_field, fs_index, fs_indexStr, fs_build, fs_buildSlice, fs_fieldAddr, fs_indexAddr, fs_indexSl, fs_sliceArr, fs_sliceSl, fs_sliceStr, fs_makeSlice, fs_extract, fs_mkIface, fs_mkFunc, fs_nilCheck, fs_s2ap, fs_len, fs_minmax, fs_s2b, fs_b2s, fs_append, fs_copy, fs_callV, fs_callR, fs_callv, opd_tmp, opd_const, opd_func, opds_nil, opds_cons, opdOpt_none, opdOpt_some, opdParts_nil, opdParts_cons, get_miss, vPick_t, vPick_f, vEq_agg, vEq_aggN, vEq_bool, vEq_boolN, vConv_int, vStr_s, vField_agg, vIndex_agg, vIndexStr_s, vFieldAddr_p, vIndexAddr_p, vIndexSl_s, vSliceArr_p, vSliceSl_s, vSliceSl_n, vSliceStr_s, vExtract_t, vNilCheck_p, vS2ap_s, vLen_s, vLen_str, vMin_i, vMax_i, vLoad_p, vStore_p, baseP_p, vB2s_s, vMake_i, vS2b_s, callee_f, liveAt_eq, storeAt_eq, partL_none, partL_some, natIn_none, natIn_int, bounds3_two, bin_add, bin_sub, bin_mul, bin_quo, bin_rem, bin_and, bin_or, bin_xor, bin_andNot, bin_eql, bin_neq, bin_lss, bin_leq, bin_gtr, bin_geq, bin_shl, bin_shr, bin_sadd, bin_seql, bin_sneq, un_not, un_neg, un_xor, after_some, put_some, put_none, res_nil, res_val, res_var, packed_one, packed_two, merge_nil, merge_ge, rf_tup2, rfIn_int, rfIn_bool, rfIn_u8s, rf_str, rfIn_str, ↓gate_true, ↓guardV_tt, ↓guardV_ff, ↓guardV_tf, ↓guardV_ft, ↓keepV_some, ↓qElse_some, ↓get_hit, ↓Option.bind_some, ↓if_true, ↓if_false, List.nil_append, List.cons_append, List.all_nil, List.all_cons, List.isEmpty_nil, reduceCtorEq, Bool.false_eq_true, Nat.reduceEqDiff, beq_self_eq_true, bne_self_eq_false, Bool.not_true, Bool.not_false, Int.natCast_nonneg, Nat.lt_irrefl, false_and, Int.reduceEq, rf_int, rf_bool, rf_tuple_ints, rf_u8s, arr_list, toList2, Bool.and_self, Nat.not_lt_zero, Nat.sub_zero, Nat.zero_le, Nat.le_add_right, cells_agg, cells_agg_size, cells_int, cells_int_size, okVar, eq_self, wrapI64_small, Int.natCast_zero, Int.natCast_one, Int.cast_ofNat_Int, List.length_nil, List.length_cons, List.getElem?_cons_zero, List.getElem?_cons_succ, List.set_cons_zero, List.set_cons_succ, Nat.zero_add, Nat.add_zero, Nat.mul_one, Nat.zero_mul, Int.toNat_natCast, Int.toNat_zero, Int.lt_irrefl, Int.le_refl, Nat.le_refl, and_self, true_and, and_true, decide_true, decide_false, Int.reduceLE, Int.reduceLT, Int.reduceAdd, Int.reduceMul, Int.reduceSub, Int.reduceTDiv, Int.reduceTMod, Int.reduceNeg, Int.reduceToNat, Int.reduceGT, Int.reduceGE, Int.reducePow, Nat.reduceAdd, Nat.reduceMul, Nat.reduceSub, Nat.reduceDiv, Nat.reduceMod, Nat.reducePow, Nat.reduceLT, Nat.reduceLeDiff, Nat.min_self, ge_iff_le, gt_iff_lt, Option.isNone_none, Option.isSome_none, Option.isNone_some, Option.isSome_some, Bool.and_true, Bool.true_and, Bool.and_false, Bool.false_and, not_true_eq_false, not_false_eq_true, or_true, true_or, false_or, or_false, hless]
    · rw [decide_eq_false hc] at hless
      obtain ⟨x, hx⟩ : ∃ y, r[32]? = some y := ⟨_, List.getElem?_eq_getElem (by omega)⟩
      obtain ⟨y, hy⟩ : ∃ y, r[31]? = some y := ⟨_, List.getElem?_eq_getElem (by omega)⟩
      have hx' := hlt x (List.mem_of_getElem? hx)
      have hy' := hlt y (List.mem_of_getElem? hy)
      have hxc := ns_get (k := .i64) hx
      have hyc := ns_get (k := .i64) hy
      have w1 : IntKind.i64.wrap ((x : Int) * 256) = ((x * 256 : Nat) : Int) := by rw [show ((x : Int) * 256) = ((x * 256 : Nat) : Int) by omega]; exact wrap_nat (by omega)
      have w2 : IntKind.i64.wrap (((x * 256 : Nat) : Int) + (y : Int)) = ((x * 256 + y : Nat) : Int) := by rw [← Int.natCast_add]; exact wrap_nat (by omega)
      have w3 : IntKind.i64.wrap (((x * 256 + y : Nat) : Int).tdiv 17) = (((x * 256 + y) / 17 : Nat) : Int) := by
        rw [show ((x * 256 + y : Nat) : Int).tdiv 17 = (((x * 256 + y) / 17 : Nat) : Int) from rfl]; exact wrap_nat (by omega)
      have hq := q_fits hlen hx hy
      -- the factor that is used
      have key : ∀ q : Nat, 0 < q → q < 2 ^ 20 → q * ell ≤ num 256 r →
          (∀ st, evCode T H.length (.block 6 (.loop a43_l2)) (l2I R v0 (.slice (some ⟨il, ol, none⟩) 33 cl) (mrs H) i q 0 0 (mH H z r l) []) = some (.normal, st) → evCode T H.length a43_l3 (l3I R v0 (.slice (some ⟨il, ol, none⟩) 33 cl) (mrs H) i (mH H z r l) ex) = some (.normal, st)) →
          ∃ r' ex', evCode T H.length (.loop a43_l3) (l3I R v0 (.slice (some ⟨il, ol, none⟩) 33 cl) (mrs H) i (mH H z r l) ex) = some (.exit 4, l3I R v0 (.slice (some ⟨il, ol, none⟩) 33 cl) (mrs H) i (mH H z r' l) ex') ∧ r'.length = 33 ∧ (∀ x ∈ r', x < 256) ∧ num 256 r' = num 256 r % ell := by
        intro q hq0 hq1 hq2 hbody
        obtain ⟨b, r1, h1, h2, h3, h4⟩ := l2_block (R := R) (v0 := v0) (i := i) hsl hq1 hlen hlt hq2
        have hpos : ell ≤ q * ell := Nat.le_mul_of_pos_left ell hq0
        have hell := ell_pos
        obtain ⟨r', ex', g1, g2, g3, g4⟩ := ih (num 256 r1) (by omega) r1 [(7, .int .i64 q), (8, .int .i64 b), (9, .int .i64 33), (58, .bool false)] rfl h2 h3
        refine ⟨r', ex', ?_, g2, g3, ?_⟩
        · rw [evCode_loop, hbody _ h1]
          exact g1
        · rw [g4, h4]
          conv => rhs; rw [show num 256 r = (num 256 r - q * ell) + q * ell by omega]
          rw [Nat.add_mul_mod_self_right]
      have hl33 : r.length = 33 := hlen
      by_cases hq0 : (x * 256 + y) / 17 < 1
      · have e1 : ((((x * 256 + y) / 17 : Nat) : Int) < 1) = True := eq_true (by omega)
        refine key 1 (by decide) (by decide) (by omega) fun st hst => ?_
        simp only [l2I, mrs, mH, List.cons_append, List.nil_append, Int.natCast_one] at hst
        simp only [mrs, mH] at hless
        simp only [l3I, mrs, mH, a43_l3, envOf, evCode_skip, evCode_exit, evCode_seq, fs_blockS, fs_blockR, fs_blockC, fs_blockK, fs_blockB, evCode_ret, quiet, keep_nil, keep_cons, fs_cond, fs_region, fs_regionP, fs_nil, fs_guard, fs_move, fs_pick, fs_alloc, fs_box, fs_load, fs_store, fs_bin, fs_eqv, fs_isNil, fs_un, fs_conv, fs_convStr, fs_field, fs_index, fs_indexStr, fs_build, fs_buildSlice, fs_fieldAddr, fs_indexAddr, fs_indexSl, fs_sliceArr, fs_sliceSl, fs_sliceStr, fs_makeSlice, fs_extract, fs_mkIface, fs_mkFunc, fs_nilCheck, fs_s2ap, fs_len, fs_minmax, fs_s2b, fs_b2s, fs_append, fs_copy, fs_callV, fs_callR, fs_callv, opd_tmp, opd_const, opd_func, opds_nil, opds_cons, opdOpt_none, opdOpt_some, opdParts_nil, opdParts_cons, get_miss, vPick_t, vPick_f, vEq_agg, vEq_aggN, vEq_bool, vEq_boolN, vConv_int, vStr_s, vField_agg, vIndex_agg, vIndexStr_s, vFieldAddr_p, vIndexAddr_p, vIndexSl_s, vSliceArr_p, vSliceSl_s, vSliceSl_n, vSliceStr_s, vExtract_t, vNilCheck_p, vS2ap_s, vLen_s, vLen_str, vMin_i, vMax_i, vLoad_p, vStore_p, baseP_p, vB2s_s, vMake_i, vS2b_s, callee_f, liveAt_eq, storeAt_eq, partL_none, partL_some, natIn_none, natIn_int, bounds3_two, bin_add, bin_sub, bin_mul, bin_quo, bin_rem, bin_and, bin_or, bin_xor, bin_andNot, bin_eql, bin_neq, bin_lss, bin_leq, bin_gtr, bin_geq, bin_shl, bin_shr, bin_sadd, bin_seql, bin_sneq, un_not, un_neg, un_xor, after_some, put_some, put_none, res_nil, res_val, res_var, packed_one, packed_two, merge_nil, merge_ge, rf_tup2, rfIn_int, rfIn_bool, rfIn_u8s, rf_str, rfIn_str, ↓gate_true, ↓guardV_tt, ↓guardV_ff, ↓guardV_tf, ↓guardV_ft, ↓keepV_some, ↓qElse_some, ↓get_hit, ↓Option.bind_some, ↓if_true, ↓if_false, List.nil_append, List.cons_append, List.all_nil, List.all_cons, List.isEmpty_nil, reduceCtorEq, Bool.false_eq_true, Nat.reduceEqDiff, beq_self_eq_true, bne_self_eq_false, Bool.not_true, Bool.not_false, Int.natCast_nonneg, Nat.lt_irrefl, false_and, Int.reduceEq, rf_int, rf_bool, rf_tuple_ints, rf_u8s, arr_list, toList2, Bool.and_self, Nat.not_lt_zero, Nat.sub_zero, Nat.zero_le, Nat.le_add_right, cells_agg, cells_agg_size, cells_int, cells_int_size, okVar, eq_self, wrapI64_small, Int.natCast_zero, Int.natCast_one, Int.cast_ofNat_Int, List.length_nil, List.length_cons, List.getElem?_cons_zero, List.getElem?_cons_succ, List.set_cons_zero, List.set_cons_succ, Nat.zero_add, Nat.add_zero, Nat.mul_one, Nat.zero_mul, Int.toNat_natCast, Int.toNat_zero, Int.lt_irrefl, Int.le_refl, Nat.le_refl, and_self, true_and, and_true, decide_true, decide_false, Int.reduceLE, Int.reduceLT, Int.reduceAdd, Int.reduceMul, Int.reduceSub, Int.reduceTDiv, Int.reduceTMod, Int.reduceNeg, Int.reduceToNat, Int.reduceGT, Int.reduceGE, Int.reducePow, Nat.reduceAdd, Nat.reduceMul, Nat.reduceSub, Nat.reduceDiv, Nat.reduceMod, Nat.reducePow, Nat.reduceLT, Nat.reduceLeDiff, Nat.min_self, ge_iff_le, gt_iff_lt, Option.isNone_none, Option.isSome_none, Option.isNone_some, Option.isSome_some, Bool.and_true, Bool.true_and, Bool.and_false, Bool.false_and, not_true_eq_false, not_false_eq_true, or_true, true_or, false_or, or_false, hget0, hgetK, hset0, hsetK, splice_single, splice_whole, take_whole, List.getElem?_nil, List.length_append, List.append_assoc, Nat.add_assoc, hless, hxc, hyc, w1, w2, w3, e1, hst]
      · have e1 : ((((x * 256 + y) / 17 : Nat) : Int) < 1) = False := eq_false (by omega)
        refine key ((x * 256 + y) / 17) (by omega) (by omega) hq fun st hst => ?_
        simp only [l2I, mrs, mH, List.cons_append, List.nil_append] at hst
        simp only [mrs, mH] at hless
        generalize (x * 256 + y) / 17 = qq at *
        simp only [l3I, mrs, mH, a43_l3, envOf, evCode_skip, evCode_exit, evCode_seq, fs_blockS, fs_blockR, fs_blockC, fs_blockK, fs_blockB, evCode_ret, quiet, keep_nil, keep_cons, fs_cond, fs_region, fs_regionP, fs_nil, fs_guard, fs_move, fs_pick, fs_alloc, fs_box, fs_load, fs_store, fs_bin, fs_eqv, fs_isNil, fs_un, fs_conv, fs_convStr, fs_field, fs_index, fs_indexStr, fs_build, fs_buildSlice, fs_fieldAddr, fs_indexAddr, fs_indexSl, fs_sliceArr, fs_sliceSl, fs_sliceStr, fs_makeSlice, fs_extract, fs_mkIface, fs_mkFunc, fs_nilCheck, fs_s2ap, fs_len, fs_minmax, fs_s2b, fs_b2s, fs_append, fs_copy, fs_callV, fs_callR, fs_callv, opd_tmp, opd_const, opd_func, opds_nil, opds_cons, opdOpt_none, opdOpt_some, opdParts_nil, opdParts_cons, get_miss, vPick_t, vPick_f, vEq_agg, vEq_aggN, vEq_bool, vEq_boolN, vConv_int, vStr_s, vField_agg, vIndex_agg, vIndexStr_s, vFieldAddr_p, vIndexAddr_p, vIndexSl_s, vSliceArr_p, vSliceSl_s, vSliceSl_n, vSliceStr_s, vExtract_t, vNilCheck_p, vS2ap_s, vLen_s, vLen_str, vMin_i, vMax_i, vLoad_p, vStore_p, baseP_p, vB2s_s, vMake_i, vS2b_s, callee_f, liveAt_eq, storeAt_eq, partL_none, partL_some, natIn_none, natIn_int, bounds3_two, bin_add, bin_sub, bin_mul, bin_quo, bin_rem, bin_and, bin_or, bin_xor, bin_andNot, bin_eql, bin_neq, bin_lss, bin_leq, bin_gtr, bin_geq, bin_shl, bin_shr, bin_sadd, bin_seql, bin_sneq, un_not, un_neg, un_xor, after_some, put_some, put_none, res_nil, res_val, res_var, packed_one, packed_two, merge_nil, merge_ge, rf_tup2, rfIn_int, rfIn_bool, rfIn_u8s, rf_str, rfIn_str, ↓gate_true, ↓guardV_tt, ↓guardV_ff, ↓guardV_tf, ↓guardV_ft, ↓keepV_some, ↓qElse_some, ↓get_hit, ↓Option.bind_some, ↓if_true, ↓if_false, List.nil_append, List.cons_append, List.all_nil, List.all_cons, List.isEmpty_nil, reduceCtorEq, Bool.false_eq_true, Nat.reduceEqDiff, beq_self_eq_true, bne_self_eq_false, Bool.not_true, Bool.not_false, Int.natCast_nonneg, Nat.lt_irrefl, false_and, Int.reduceEq, rf_int, rf_bool, rf_tuple_ints, rf_u8s, arr_list, toList2, Bool.and_self, Nat.not_lt_zero, Nat.sub_zero, Nat.zero_le, Nat.le_add_right, cells_agg, cells_agg_size, cells_int, cells_int_size, okVar, eq_self, wrapI64_small, Int.natCast_zero, Int.natCast_one, Int.cast_ofNat_Int, List.length_nil, List.length_cons, List.getElem?_cons_zero, List.getElem?_cons_succ, List.set_cons_zero, List.set_cons_succ, Nat.zero_add, Nat.add_zero, Nat.mul_one, Nat.zero_mul, Int.toNat_natCast, Int.toNat_zero, Int.lt_irrefl, Int.le_refl, Nat.le_refl, and_self, true_and, and_true, decide_true, decide_false, Int.reduceLE, Int.reduceLT, Int.reduceAdd, Int.reduceMul, Int.reduceSub, Int.reduceTDiv, Int.reduceTMod, Int.reduceNeg, Int.reduceToNat, Int.reduceGT, Int.reduceGE, Int.reducePow, Nat.reduceAdd, Nat.reduceMul, Nat.reduceSub, Nat.reduceDiv, Nat.reduceMod, Nat.reducePow, Nat.reduceLT, Nat.reduceLeDiff, Nat.min_self, ge_iff_le, gt_iff_lt, Option.isNone_none, Option.isSome_none, Option.isNone_some, Option.isSome_some, Bool.and_true, Bool.true_and, Bool.and_false, Bool.false_and, not_true_eq_false, not_false_eq_true, or_true, true_or, false_or, or_false, hget0, hgetK, hset0, hsetK, splice_single, splice_whole, take_whole, List.getElem?_nil, List.length_append, List.append_assoc, Nat.add_assoc, hless, hxc, hyc, w1, w2, w3, e1, hst]

/-- All digits move up by one. -/
def l4I (R v0 sl rs : Value) (i k : Int) (h : List Ob) (ex : Env) : St := ⟨[(0, v0), (2, R), (3, rs), (4, sl), (5, .int .i64 i), (6, .int .i64 k)] ++ ex, h, []⟩
theorem l4_block {H : List Ob} {R v0 sl : Value} {z r : List Nat} {l : List Ob} {i : Int} (hlen : r.length = 33) :
    ∃ r', evCode T H.length (.block 2 (.loop a43_l4)) (l4I R v0 sl (mrs H) i 32 (mH H z r l) []) = some (.normal, l4I R v0 sl (mrs H) i 0 (mH H z r' l) [(25, .bool false)]) ∧ r'.length = 33 ∧ ∀ t, t < 32 → r'[t + 1]? = r[t]? := by
  obtain ⟨st, h1, r', rfl, h2, h3⟩ := block_inv (T := T) (base := H.length) (id := 2) (body := a43_l4)
    (fun j st => ∃ r' : List Nat, st = l4I R v0 sl (mrs H) i ((32 - j : Nat) : Int) (mH H z r' l) [] ∧ r'.length = 33 ∧ (∀ t, t ≤ 32 - j → r'[t]? = r[t]?) ∧ ∀ t, 32 - j ≤ t → t < 32 → r'[t + 1]? = r[t]?)
    (Q := fun st => ∃ r' : List Nat, st = l4I R v0 sl (mrs H) i 0 (mH H z r' l) [(25, .bool false)] ∧ r'.length = 33 ∧ ∀ t, t < 32 → r'[t + 1]? = r[t]?)
    32 (s := l4I R v0 sl (mrs H) i 32 (mH H z r l) []) ⟨r, rfl, hlen, fun _ _ => rfl, fun t h1 h2 => by omega⟩
    (fun j st hj hs => by
      obtain ⟨r', rfl, h2, h3, h4⟩ := hs
      obtain ⟨m, hm⟩ : ∃ m, 32 - j = m + 1 := ⟨31 - j, by omega⟩
      have hm' : 32 - (j + 1) = m := by omega
      rw [hm] at h3 h4
      rw [hm, hm']
      obtain ⟨y, hy⟩ : ∃ y, r[m]? = some y := ⟨_, List.getElem?_eq_getElem (by omega)⟩
      have hy' : r'[m]? = some y := by rw [h3 m (by omega)]; exact hy
      have hyc := ns_get (k := .i64) hy'
      refine ⟨_, ?_, r'.set (m + 1) y, rfl, by rw [List.length_set]; exact h2, fun t ht => by rw [List.getElem?_set_ne (by omega)]; exact h3 t (by omega), fun t h5 h6 => ?_⟩
      · have e1 : ((0 : Int) < ((m + 1 : Nat) : Int)) = True := eq_true (by omega)
        have e2 : ((m : Int) < (33 : Int)) = True := eq_true (by omega)
        have e3 : (((m + 1 : Nat) : Int) < (33 : Int)) = True := eq_true (by omega)
        have w1 : IntKind.i64.wrap (((m + 1 : Nat) : Int) - 1) = (m : Int) := by rw [show ((m + 1 : Nat) : Int) - 1 = (m : Int) by omega]; exact wrap_nat (by omega)
        have e5 : m + 1 + 1 ≤ 33 := by omega
        have hset := ns_set .i64 r' (m + 1) y
        generalize hk : ((m + 1 : Nat) : Int) = k1 at *
        have hkn : k1.toNat = m + 1 := by omega
        have e4 : ((0 : Int) ≤ k1) = True := eq_true (by omega)
        simp only [l4I, mH, mrs, a43_l4, envOf, evCode_skip, evCode_exit, evCode_seq, fs_blockS, fs_blockR, fs_blockC, fs_blockK, fs_blockB, evCode_ret, quiet, keep_nil, keep_cons, fs_cond, fs_region, fs_regionP, fs_nil, fs_guard, fs_move, fs_pick, fs_alloc, fs_box, fs_load, fs_store, fs_bin, fs_eqv, fs_isNil, fs_un, fs_conv, fs_convStr, fs_field, fs_index, fs_indexStr, fs_build, fs_buildSlice, fs_fieldAddr, fs_indexAddr, fs_indexSl, fs_sliceArr, fs_sliceSl, fs_sliceStr, fs_makeSlice, fs_extract, fs_mkIface, fs_mkFunc, fs_nilCheck, fs_s2ap, fs_len, fs_minmax, fs_s2b, fs_b2s, fs_append, fs_copy, fs_callV, fs_callR, fs_callv, opd_tmp, opd_const, opd_func, opds_nil, opds_cons, opdOpt_none, opdOpt_some, opdParts_nil, opdParts_cons, get_miss, vPick_t, vPick_f, vEq_agg, vEq_aggN, vEq_bool, vEq_boolN, vConv_int, vStr_s, vField_agg, vIndex_agg, vIndexStr_s, vFieldAddr_p, vIndexAddr_p, vIndexSl_s, vSliceArr_p, vSliceSl_s, vSliceSl_n, vSliceStr_s, vExtract_t, vNilCheck_p, vS2ap_s, vLen_s, vLen_str, vMin_i, vMax_i, vLoad_p, vStore_p, baseP_p, vB2s_s, vMake_i, vS2b_s, callee_f, liveAt_eq, storeAt_eq, partL_none, partL_some, natIn_none, natIn_int, bounds3_two, bin_add, bin_sub, bin_mul, bin_quo, bin_rem, bin_and, bin_or, bin_xor, bin_andNot, bin_eql, bin_neq, bin_lss, bin_leq, bin_gtr, bin_geq, bin_shl, bin_shr, bin_sadd, bin_seql, bin_sneq, un_not, un_neg, un_xor, after_some, put_some, put_none, res_nil, res_val, res_var, packed_one, packed_two, merge_nil, merge_ge, rf_tup2, rfIn_int, rfIn_bool, rfIn_u8s, rf_str, rfIn_str, ↓gate_true, ↓guardV_tt, ↓guardV_ff, ↓guardV_tf, ↓guardV_ft, ↓keepV_some, ↓qElse_some, ↓get_hit, ↓Option.bind_some, ↓if_true, ↓if_false, List.nil_append, List.cons_append, List.all_nil, List.all_cons, List.isEmpty_nil, reduceCtorEq, Bool.false_eq_true, Nat.reduceEqDiff, beq_self_eq_true, bne_self_eq_false, Bool.not_true, Bool.not_false, Int.natCast_nonneg, Nat.lt_irrefl, false_and, Int.reduceEq, rf_int, rf_bool, rf_tuple_ints, rf_u8s, arr_list, toList2, Bool.and_self, Nat.not_lt_zero, Nat.sub_zero, Nat.zero_le, Nat.le_add_right, cells_agg, cells_agg_size, cells_int, cells_int_size, okVar, eq_self, wrapI64_small, Int.natCast_zero, Int.natCast_one, Int.cast_ofNat_Int, List.length_nil, List.length_cons, List.getElem?_cons_zero, List.getElem?_cons_succ, List.set_cons_zero, List.set_cons_succ, Nat.zero_add, Nat.add_zero, Nat.mul_one, Nat.zero_mul, Int.toNat_natCast, Int.toNat_zero, Int.lt_irrefl, Int.le_refl, Nat.le_refl, and_self, true_and, and_true, decide_true, decide_false, Int.reduceLE, Int.reduceLT, Int.reduceAdd, Int.reduceMul, Int.reduceSub, Int.reduceTDiv, Int.reduceTMod, Int.reduceNeg, Int.reduceToNat, Int.reduceGT, Int.reduceGE, Int.reducePow, Nat.reduceAdd, Nat.reduceMul, Nat.reduceSub, Nat.reduceDiv, Nat.reduceMod, Nat.reducePow, Nat.reduceLT, Nat.reduceLeDiff, Nat.min_self, ge_iff_le, gt_iff_lt, Option.isNone_none, Option.isSome_none, Option.isNone_some, Option.isSome_some, Bool.and_true, Bool.true_and, Bool.and_false, Bool.false_and, not_true_eq_false, not_false_eq_true, or_true, true_or, false_or, or_false, hget0, hgetK, hset0, hsetK, splice_single, splice_whole, take_whole, List.getElem?_nil, List.length_append, List.append_assoc, Nat.add_assoc, e1, e2, e3, e4, w1, hyc, hkn, ns_len, h2, e5, hset]
      · by_cases ht : t = m
        · subst ht
          rw [List.getElem?_set_self (by omega), hy]
        · rw [List.getElem?_set_ne (by omega)]
          exact h4 t (by omega) h6)
    (fun st hs => by
      obtain ⟨r', rfl, h2, h3, h4⟩ := hs
      refine ⟨_, ?_, r', rfl, h2, fun t ht => h4 t (by omega) ht⟩
      simp only [l4I, a43_l4, envOf, evCode_skip, evCode_exit, evCode_seq, fs_blockS, fs_blockR, fs_blockC, fs_blockK, fs_blockB, evCode_ret, quiet, keep_nil, keep_cons, fs_cond, fs_region, fs_regionP, fs_nil, fs_guard, fs_move, fs_pick, fs_alloc, fs_box, fs_load, fs_store, fs_bin, fs_eqv, fs_isNil, fs_un, fs_conv, fs_convStr, fs_field, fs_index, fs_indexStr, fs_build, fs_buildSlice, fs_fieldAddr, fs_indexAddr, fs_indexSl, fs_sliceArr, fs_sliceSl, fs_sliceStr, fs_makeSlice, fs_extract, fs_mkIface, fs_mkFunc, fs_nilCheck, fs_s2ap, fs_len, fs_minmax, fs_s2b, fs_b2s, fs_append, fs_copy, fs_callV, fs_callR, fs_callv, opd_tmp, opd_const, opd_func, opds_nil, opds_cons, opdOpt_none, opdOpt_some, opdParts_nil, opdParts_cons, get_miss, vPick_t, vPick_f, vEq_agg, vEq_aggN, vEq_bool, vEq_boolN, vConv_int, vStr_s, vField_agg, vIndex_agg, vIndexStr_s, vFieldAddr_p, vIndexAddr_p, vIndexSl_s, vSliceArr_p, vSliceSl_s, vSliceSl_n, vSliceStr_s, vExtract_t, vNilCheck_p, vS2ap_s, vLen_s, vLen_str, vMin_i, vMax_i, vLoad_p, vStore_p, baseP_p, vB2s_s, vMake_i, vS2b_s, callee_f, liveAt_eq, storeAt_eq, partL_none, partL_some, natIn_none, natIn_int, bounds3_two, bin_add, bin_sub, bin_mul, bin_quo, bin_rem, bin_and, bin_or, bin_xor, bin_andNot, bin_eql, bin_neq, bin_lss, bin_leq, bin_gtr, bin_geq, bin_shl, bin_shr, bin_sadd, bin_seql, bin_sneq, un_not, un_neg, un_xor, after_some, put_some, put_none, res_nil, res_val, res_var, packed_one, packed_two, merge_nil, merge_ge, rf_tup2, rfIn_int, rfIn_bool, rfIn_u8s, rf_str, rfIn_str, ↓gate_true, ↓guardV_tt, ↓guardV_ff, ↓guardV_tf, ↓guardV_ft, ↓keepV_some, ↓qElse_some, ↓get_hit, ↓Option.bind_some, ↓if_true, ↓if_false, List.nil_append, List.cons_append, List.all_nil, List.all_cons, List.isEmpty_nil, reduceCtorEq, Bool.false_eq_true, Nat.reduceEqDiff, beq_self_eq_true, bne_self_eq_false, Bool.not_true, Bool.not_false, Int.natCast_nonneg, Nat.lt_irrefl, false_and, Int.reduceEq, rf_int, rf_bool, rf_tuple_ints, rf_u8s, arr_list, toList2, Bool.and_self, Nat.not_lt_zero, Nat.sub_zero, Nat.zero_le, Nat.le_add_right, cells_agg, cells_agg_size, cells_int, cells_int_size, okVar, eq_self, wrapI64_small, Int.natCast_zero, Int.natCast_one, Int.cast_ofNat_Int, List.length_nil, List.length_cons, List.getElem?_cons_zero, List.getElem?_cons_succ, List.set_cons_zero, List.set_cons_succ, Nat.zero_add, Nat.add_zero, Nat.mul_one, Nat.zero_mul, Int.toNat_natCast, Int.toNat_zero, Int.lt_irrefl, Int.le_refl, Nat.le_refl, and_self, true_and, and_true, decide_true, decide_false, Int.reduceLE, Int.reduceLT, Int.reduceAdd, Int.reduceMul, Int.reduceSub, Int.reduceTDiv, Int.reduceTMod, Int.reduceNeg, Int.reduceToNat, Int.reduceGT, Int.reduceGE, Int.reducePow, Nat.reduceAdd, Nat.reduceMul, Nat.reduceSub, Nat.reduceDiv, Nat.reduceMod, Nat.reducePow, Nat.reduceLT, Nat.reduceLeDiff, Nat.min_self, ge_iff_le, gt_iff_lt, Option.isNone_none, Option.isSome_none, Option.isNone_some, Option.isSome_some, Bool.and_true, Bool.true_and, Bool.and_false, Bool.false_and, not_true_eq_false, not_false_eq_true, or_true, true_or, false_or, or_false, Nat.sub_self])
  exact ⟨r', h1, h2, h3⟩
theorem shifted {r r' : List Nat} {x : Nat} (h : r.length = 33) (h2 : r'.length = 33) (h3 : ∀ t, t < 32 → r'[t + 1]? = r[t]?) : r'.set 0 x = x :: r.take 32 := by
  apply List.ext_getElem?
  intro t
  rcases t with _ | t
  · rw [List.getElem?_set_self (by omega)]; rfl
  · rw [List.getElem?_set_ne (by omega), List.getElem?_cons_succ, List.getElem?_take]
    by_cases ht : t < 32
    · rw [if_pos ht, h3 t ht]
    · rw [if_neg ht, List.getElem?_eq_none (by omega)]
end Go.Ev.Ytaceeoghjgggjaa

/-
  intaglioref04.Mod, whole.
-/
set_option linter.unusedSimpArgs false
set_option linter.unusedVariables false
namespace Go.Ev.Ytaceeoghjgggjaa
open Go Go.Ev
attribute [local congr] bind_congr2 ite_congr2 qElse_congr gate_congr guardV_congr
set_option maxRecDepth 100000

theorem get32 {r : List Nat} {V : Nat} (hlen : r.length = 33) (hlt : ∀ x ∈ r, x < 256) (hn : num 256 r = V % ell) : r[32]? = some 0 ∧ r.take 32 = dig 256 32 (V % ell) := by
  have h1 : V % ell < 256 ^ 32 := Nat.lt_of_lt_of_le (Nat.mod_lt _ ell_pos) ell_le
  obtain ⟨x, hx⟩ : ∃ y, r[32]? = some y := ⟨_, List.getElem?_eq_getElem (by omega)⟩
  have h5 := num_take (B := 256) hx
  rw [List.take_of_length_le (by omega), hn] at h5
  have hx0 : x = 0 := by
    rcases Nat.eq_zero_or_pos x with h | h
    · exact h
    · have : 1 * 256 ^ 32 ≤ x * 256 ^ 32 := Nat.mul_le_mul_right _ h
      omega
  subst hx0
  refine ⟨hx, ?_⟩
  rw [Nat.zero_mul, Nat.add_zero] at h5
  have h6 : (r.take 32).length = 32 := by rw [List.length_take]; omega
  have h7 := dig_num (B := 256) (by decide) (l := r.take 32) fun y hy => hlt y (List.mem_of_mem_take hy)
  rw [h6] at h7
  rw [h5]
  exact h7.symm

/-- A digit more. -/
theorem l5_body {H : List Ob} {R : Value} {z r ds : List Nat} {l : List Ob} {il ol cl id off c n i x : Nat} (hsl : ∀ r, Sl .i64 (mH H z r l) (.slice (some ⟨il, ol, none⟩) 33 cl) ord33) (hsd : ∀ r, Sl .i64 (mH H z r l) (.slice (some ⟨id, off, none⟩) n c) ds)
    (hN : n < 2 ^ 40) (hi : ds[i]? = some x) (hx : x < 256) (hlen : r.length = 33) (hlt : ∀ x ∈ r, x < 256) (hn : num 256 r = num 256 (ds.drop (i + 1)) % ell) :
    ∃ r', evCode T H.length a43_l5 (l3I R (.slice (some ⟨id, off, none⟩) n c) (.slice (some ⟨il, ol, none⟩) 33 cl) (mrs H) i (mH H z r l) []) = some (.normal, l3I R (.slice (some ⟨id, off, none⟩) n c) (.slice (some ⟨il, ol, none⟩) 33 cl) (mrs H) ((i : Int) - 1) (mH H z r' l) []) ∧
      r'.length = 33 ∧ (∀ x ∈ r', x < 256) ∧ num 256 r' = num 256 (ds.drop i) % ell := by
  obtain ⟨r1, h1, g1, g2⟩ := l4_block (H := H) (R := R) (v0 := .slice (some ⟨id, off, none⟩) n c) (sl := .slice (some ⟨il, ol, none⟩) 33 cl) (z := z) (l := l) (i := i) hlen
  have hsh := shifted (x := x) hlen g1 g2
  have hr2len : (x :: r.take 32).length = 33 := by rw [List.length_cons, List.length_take]; omega
  have hr2lt : ∀ y ∈ x :: r.take 32, y < 256 := by
    intro y hy
    rcases List.mem_cons.1 hy with h | h
    · omega
    · exact hlt y (List.mem_of_mem_take h)
  obtain ⟨r', ex', h3, k1, k2, k3⟩ := l3_loop (H := H) (R := R) (v0 := .slice (some ⟨id, off, none⟩) n c) (i := i) hsl _ (x :: r.take 32) [] rfl hr2len hr2lt
  refine ⟨r', ?_, k1, k2, ?_⟩
  · obtain ⟨o, ho, hv, hnl, hc⟩ := live_row (hsd r1)
    have hin : i < n := by rw [hnl]; exact (List.getElem?_eq_some_iff.1 hi).1
    have hcx := hc i x hi
    have e1 : ((0 : Int) ≤ (i : Int)) = True := eq_true (by omega)
    have e2 : ((i : Int) < (n : Int)) = True := eq_true (by omega)
    have w1 : IntKind.i64.wrap ((i : Int) - 1) = (i : Int) - 1 := wrapI64_small (by omega) (by omega)
    have hset := ns_set .i64 r1 0 x
    rw [hsh] at hset
    simp only [l4I, l3I, mH, mrs, List.cons_append, List.nil_append] at h1 h3 ho ⊢
    simp only [a43_l5, envOf, evCode_skip, evCode_exit, evCode_seq, fs_blockS, fs_blockR, fs_blockC, fs_blockK, fs_blockB, evCode_ret, quiet, keep_nil, keep_cons, fs_cond, fs_region, fs_regionP, fs_nil, fs_guard, fs_move, fs_pick, fs_alloc, fs_box, fs_load, fs_store, fs_bin, fs_eqv, fs_isNil, fs_un, fs_conv, fs_convStr, fs_field, fs_index, fs_indexStr, fs_build, fs_buildSlice, fs_fieldAddr, fs_indexAddr, fs_indexSl, fs_sliceArr, fs_sliceSl, fs_sliceStr, fs_makeSlice, fs_extract, fs_mkIface, fs_mkFunc, fs_nilCheck, fs_s2ap, fs_len, fs_minmax, fs_s2b, fs_b2s, fs_append, fs_copy, fs_callV, fs_callR, fs_callv, opd_tmp, opd_const, opd_func, opds_nil, opds_cons, opdOpt_none, opdOpt_some, opdParts_nil, opdParts_cons, get_miss, vPick_t, vPick_f, vEq_agg, vEq_aggN, vEq_bool, vEq_boolN, vConv_int, vStr_s, vField_agg, vIndex_agg, vIndexStr_s, vFieldAddr_p, vIndexAddr_p, vIndexSl_s, vSliceArr_p, vSliceSl_s, vSliceSl_n, vSliceStr_s, vExtract_t, vNilCheck_p, vS2ap_s, vLen_s, vLen_str, vMin_i, vMax_i, vLoad_p, vStore_p, baseP_p, vB2s_s, vMake_i, vS2b_s, callee_f, liveAt_eq, storeAt_eq, partL_none, partL_some, natIn_none, natIn_int, bounds3_two, bin_add, bin_sub, bin_mul, bin_quo, bin_rem, bin_and, bin_or, bin_xor, bin_andNot, bin_eql, bin_neq, bin_lss, bin_leq, bin_gtr, bin_geq, bin_shl, bin_shr, bin_sadd, bin_seql, bin_sneq, un_not, un_neg, un_xor, after_some, put_some, put_none, res_nil, res_val, res_var, packed_one, packed_two, merge_nil, merge_ge, rf_tup2, rfIn_int, rfIn_bool, rfIn_u8s, rf_str, rfIn_str, ↓gate_true, ↓guardV_tt, ↓guardV_ff, ↓guardV_tf, ↓guardV_ft, ↓keepV_some, ↓qElse_some, ↓get_hit, ↓Option.bind_some, ↓if_true, ↓if_false, List.nil_append, List.cons_append, List.all_nil, List.all_cons, List.isEmpty_nil, reduceCtorEq, Bool.false_eq_true, Nat.reduceEqDiff, beq_self_eq_true, bne_self_eq_false, Bool.not_true, Bool.not_false, Int.natCast_nonneg, Nat.lt_irrefl, false_and, Int.reduceEq, rf_int, rf_bool, rf_tuple_ints, rf_u8s, arr_list, toList2, Bool.and_self, Nat.not_lt_zero, Nat.sub_zero, Nat.zero_le, Nat.le_add_right, cells_agg, cells_agg_size, cells_int, cells_int_size, okVar, eq_self, wrapI64_small, Int.natCast_zero, Int.natCast_one, Int.cast_ofNat_Int, List.length_nil, List.length_cons, List.getElem?_cons_zero, List.getElem?_cons_succ, List.set_cons_zero, List.set_cons_succ, Nat.zero_add, Nat.add_zero, Nat.mul_one, Nat.zero_mul, Int.toNat_natCast, Int.toNat_zero, Int.lt_irrefl, Int.le_refl, Nat.le_refl, and_self, true_and, and_true, decide_true, decide_false, Int.reduceLE, Int.reduceLT, Int.reduceAdd, Int.reduceMul, Int.reduceSub, Int.reduceTDiv, Int.reduceTMod, Int.reduceNeg, Int.reduceToNat, Int.reduceGT, Int.reduceGE, Int.reducePow, Nat.reduceAdd, Nat.reduceMul, Nat.reduceSub, Nat.reduceDiv, Nat.reduceMod, Nat.reducePow, Nat.reduceLT, Nat.reduceLeDiff, Nat.min_self, ge_iff_le, gt_iff_lt, Option.isNone_none, Option.isSome_none, Option.isNone_some, Option.isSome_some, Bool.and_true, Bool.true_and, Bool.and_false, Bool.false_and, not_true_eq_false, not_false_eq_true, or_true, true_or, false_or, or_false, hget0, hgetK, hset0, hsetK, splice_single, splice_whole, take_whole, List.getElem?_nil, List.length_append, List.append_assoc, Nat.add_assoc, e1, e2, w1, h1, ho, hv, hcx, hset, ns_len, g1, evCode_block, h3]
  · obtain ⟨h32, ht⟩ := get32 hlen hlt hn
    have hd : ds.drop i = x :: ds.drop (i + 1) := by
      have := (List.getElem?_eq_some_iff.1 hi)
      rw [List.drop_eq_getElem_cons this.1, this.2]
    rw [k3, hd, num, num, ht, num_dig_ell]
    rw [Nat.add_mod, Nat.mul_mod, Nat.mod_mod, ← Nat.mul_mod, ← Nat.add_mod]

def l0I (R : Value) (rs out : Value) (i : Int) (h : List Ob) (ex : Env) : St := ⟨[(2, R), (3, rs), (11, out), (12, .int .i64 i)] ++ ex, h, []⟩
theorem l0_block {H : List Ob} {R : Value} {z r : List Nat} {l : List Ob} (hlen : r.length = 33) (hlt : ∀ x ∈ r, x < 256) :
    evCode T H.length (.block 10 (.loop a43_l0)) (l0I R (mrs H) (.pointer (some ⟨H.length + (l.length + 2), 0, none⟩)) 0 (mH H z r (l ++ [⟨u8s (dig 256 32 0), true, true, true, 1⟩])) []) =
      some (.normal, l0I R (mrs H) (.pointer (some ⟨H.length + (l.length + 2), 0, none⟩)) 32 (mH H z r (l ++ [⟨u8s (r.take 32), true, true, true, 1⟩])) [(86, .bool false)]) := by
  obtain ⟨st, h1, k, rfl, h2, h3⟩ := block_inv (T := T) (base := H.length) (id := 10) (body := a43_l0)
    (fun i st => ∃ k : List Nat, st = l0I R (mrs H) (.pointer (some ⟨H.length + (l.length + 2), 0, none⟩)) i (mH H z r (l ++ [⟨u8s k, true, true, true, 1⟩])) [] ∧ k.length = 32 ∧ ∀ t, t < i → k[t]? = r[t]?)
    (Q := fun st => ∃ k : List Nat, st = l0I R (mrs H) (.pointer (some ⟨H.length + (l.length + 2), 0, none⟩)) 32 (mH H z r (l ++ [⟨u8s k, true, true, true, 1⟩])) [(86, .bool false)] ∧ k.length = 32 ∧ ∀ t, t < 32 → k[t]? = r[t]?)
    32 (s := l0I R (mrs H) (.pointer (some ⟨H.length + (l.length + 2), 0, none⟩)) 0 (mH H z r (l ++ [⟨u8s (dig 256 32 0), true, true, true, 1⟩])) []) ⟨_, rfl, dig_len _ _ _, fun t ht => by omega⟩
    (fun i st hi hs => by
      obtain ⟨k, rfl, h2, h3⟩ := hs
      obtain ⟨x, hx⟩ : ∃ y, r[i]? = some y := ⟨_, List.getElem?_eq_getElem (by omega)⟩
      have hx' := hlt x (List.mem_of_getElem? hx)
      have hxc := ns_get (k := .i64) hx
      have e1 : ((i : Int) < 32) = True := eq_true (by omega)
      have e2 : ((i : Int) < (33 : Int)) = True := eq_true (by omega)
      have e3 : ((i : Int) < (32 : Int)) = True := eq_true (by omega)
      have w1 : IntKind.i64.wrap ((i : Int) + 1) = ((i + 1 : Nat) : Int) := wrap_nat (n := i + 1) (by omega)
      have w2 := u8_small hx'
      have e5 : i + 1 ≤ 32 := by omega
      have hset := u8s_set k i x
      refine ⟨_, ?_, k.set i x, rfl, by rw [List.length_set]; exact h2, fun t ht => ?_⟩
      · simp only [l0I, mH, mrs, a43_l0, envOf, evCode_skip, evCode_exit, evCode_seq, fs_blockS, fs_blockR, fs_blockC, fs_blockK, fs_blockB, evCode_ret, quiet, keep_nil, keep_cons, fs_cond, fs_region, fs_regionP, fs_nil, fs_guard, fs_move, fs_pick, fs_alloc, fs_box, fs_load, fs_store, fs_bin, fs_eqv, fs_isNil, fs_un, fs_conv, fs_convStr, fs_field, fs_index, fs_indexStr, fs_build, fs_buildSlice, fs_fieldAddr, fs_indexAddr, fs_indexSl, fs_sliceArr, fs_sliceSl, fs_sliceStr, fs_makeSlice, fs_extract, fs_mkIface, fs_mkFunc, fs_nilCheck, fs_s2ap, fs_len, fs_minmax, fs_s2b, fs_b2s, fs_append, fs_copy, fs_callV, fs_callR, fs_callv, opd_tmp, opd_const, opd_func, opds_nil, opds_cons, opdOpt_none, opdOpt_some, opdParts_nil, opdParts_cons, get_miss, vPick_t, vPick_f, vEq_agg, vEq_aggN, vEq_bool, vEq_boolN, vConv_int, vStr_s, vField_agg, vIndex_agg, vIndexStr_s, vFieldAddr_p, vIndexAddr_p, vIndexSl_s, vSliceArr_p, vSliceSl_s, vSliceSl_n, vSliceStr_s, vExtract_t, vNilCheck_p, vS2ap_s, vLen_s, vLen_str, vMin_i, vMax_i, vLoad_p, vStore_p, baseP_p, vB2s_s, vMake_i, vS2b_s, callee_f, liveAt_eq, storeAt_eq, partL_none, partL_some, natIn_none, natIn_int, bounds3_two, bin_add, bin_sub, bin_mul, bin_quo, bin_rem, bin_and, bin_or, bin_xor, bin_andNot, bin_eql, bin_neq, bin_lss, bin_leq, bin_gtr, bin_geq, bin_shl, bin_shr, bin_sadd, bin_seql, bin_sneq, un_not, un_neg, un_xor, after_some, put_some, put_none, res_nil, res_val, res_var, packed_one, packed_two, merge_nil, merge_ge, rf_tup2, rfIn_int, rfIn_bool, rfIn_u8s, rf_str, rfIn_str, ↓gate_true, ↓guardV_tt, ↓guardV_ff, ↓guardV_tf, ↓guardV_ft, ↓keepV_some, ↓qElse_some, ↓get_hit, ↓Option.bind_some, ↓if_true, ↓if_false, List.nil_append, List.cons_append, List.all_nil, List.all_cons, List.isEmpty_nil, reduceCtorEq, Bool.false_eq_true, Nat.reduceEqDiff, beq_self_eq_true, bne_self_eq_false, Bool.not_true, Bool.not_false, Int.natCast_nonneg, Nat.lt_irrefl, false_and, Int.reduceEq, rf_int, rf_bool, rf_tuple_ints, rf_u8s, arr_list, toList2, Bool.and_self, Nat.not_lt_zero, Nat.sub_zero, Nat.zero_le, Nat.le_add_right, cells_agg, cells_agg_size, cells_int, cells_int_size, okVar, eq_self, wrapI64_small, Int.natCast_zero, Int.natCast_one, Int.cast_ofNat_Int, List.length_nil, List.length_cons, List.getElem?_cons_zero, List.getElem?_cons_succ, List.set_cons_zero, List.set_cons_succ, Nat.zero_add, Nat.add_zero, Nat.mul_one, Nat.zero_mul, Int.toNat_natCast, Int.toNat_zero, Int.lt_irrefl, Int.le_refl, Nat.le_refl, and_self, true_and, and_true, decide_true, decide_false, Int.reduceLE, Int.reduceLT, Int.reduceAdd, Int.reduceMul, Int.reduceSub, Int.reduceTDiv, Int.reduceTMod, Int.reduceNeg, Int.reduceToNat, Int.reduceGT, Int.reduceGE, Int.reducePow, Nat.reduceAdd, Nat.reduceMul, Nat.reduceSub, Nat.reduceDiv, Nat.reduceMod, Nat.reducePow, Nat.reduceLT, Nat.reduceLeDiff, Nat.min_self, ge_iff_le, gt_iff_lt, Option.isNone_none, Option.isSome_none, Option.isNone_some, Option.isSome_some, Bool.and_true, Bool.true_and, Bool.and_false, Bool.false_and, not_true_eq_false, not_false_eq_true, or_true, true_or, false_or, or_false, hget0, hgetK, hset0, hsetK, splice_single, splice_whole, take_whole, List.getElem?_nil, List.length_append, List.append_assoc, Nat.add_assoc, e1, e2, e3, w1, w2, hxc, u8s_len, h2, e5, hset]
      · by_cases hti : t = i
        · subst hti
          rw [List.getElem?_set_self (by omega), hx]
        · rw [List.getElem?_set_ne (by omega)]
          exact h3 t (by omega))
    (fun st hs => by
      obtain ⟨k, rfl, h2, h3⟩ := hs
      refine ⟨_, ?_, k, rfl, h2, h3⟩
      simp only [l0I, a43_l0, envOf, evCode_skip, evCode_exit, evCode_seq, fs_blockS, fs_blockR, fs_blockC, fs_blockK, fs_blockB, evCode_ret, quiet, keep_nil, keep_cons, fs_cond, fs_region, fs_regionP, fs_nil, fs_guard, fs_move, fs_pick, fs_alloc, fs_box, fs_load, fs_store, fs_bin, fs_eqv, fs_isNil, fs_un, fs_conv, fs_convStr, fs_field, fs_index, fs_indexStr, fs_build, fs_buildSlice, fs_fieldAddr, fs_indexAddr, fs_indexSl, fs_sliceArr, fs_sliceSl, fs_sliceStr, fs_makeSlice, fs_extract, fs_mkIface, fs_mkFunc, fs_nilCheck, fs_s2ap, fs_len, fs_minmax, fs_s2b, fs_b2s, fs_append, fs_copy, fs_callV, fs_callR, fs_callv, opd_tmp, opd_const, opd_func, opds_nil, opds_cons, opdOpt_none, opdOpt_some, opdParts_nil, opdParts_cons, get_miss, vPick_t, vPick_f, vEq_agg, vEq_aggN, vEq_bool, vEq_boolN, vConv_int, vStr_s, vField_agg, vIndex_agg, vIndexStr_s, vFieldAddr_p, vIndexAddr_p, vIndexSl_s, vSliceArr_p, vSliceSl_s, vSliceSl_n, vSliceStr_s, vExtract_t, vNilCheck_p, vS2ap_s, vLen_s, vLen_str, vMin_i, vMax_i, vLoad_p, vStore_p, baseP_p, vB2s_s, vMake_i, vS2b_s, callee_f, liveAt_eq, storeAt_eq, partL_none, partL_some, natIn_none, natIn_int, bounds3_two, bin_add, bin_sub, bin_mul, bin_quo, bin_rem, bin_and, bin_or, bin_xor, bin_andNot, bin_eql, bin_neq, bin_lss, bin_leq, bin_gtr, bin_geq, bin_shl, bin_shr, bin_sadd, bin_seql, bin_sneq, un_not, un_neg, un_xor, after_some, put_some, put_none, res_nil, res_val, res_var, packed_one, packed_two, merge_nil, merge_ge, rf_tup2, rfIn_int, rfIn_bool, rfIn_u8s, rf_str, rfIn_str, ↓gate_true, ↓guardV_tt, ↓guardV_ff, ↓guardV_tf, ↓guardV_ft, ↓keepV_some, ↓qElse_some, ↓get_hit, ↓Option.bind_some, ↓if_true, ↓if_false, List.nil_append, List.cons_append, List.all_nil, List.all_cons, List.isEmpty_nil, reduceCtorEq, Bool.false_eq_true, Nat.reduceEqDiff, beq_self_eq_true, bne_self_eq_false, Bool.not_true, Bool.not_false, Int.natCast_nonneg, Nat.lt_irrefl, false_and, Int.reduceEq, rf_int, rf_bool, rf_tuple_ints, rf_u8s, arr_list, toList2, Bool.and_self, Nat.not_lt_zero, Nat.sub_zero, Nat.zero_le, Nat.le_add_right, cells_agg, cells_agg_size, cells_int, cells_int_size, okVar, eq_self, wrapI64_small, Int.natCast_zero, Int.natCast_one, Int.cast_ofNat_Int, List.length_nil, List.length_cons, List.getElem?_cons_zero, List.getElem?_cons_succ, List.set_cons_zero, List.set_cons_succ, Nat.zero_add, Nat.add_zero, Nat.mul_one, Nat.zero_mul, Int.toNat_natCast, Int.toNat_zero, Int.lt_irrefl, Int.le_refl, Nat.le_refl, and_self, true_and, and_true, decide_true, decide_false, Int.reduceLE, Int.reduceLT, Int.reduceAdd, Int.reduceMul, Int.reduceSub, Int.reduceTDiv, Int.reduceTMod, Int.reduceNeg, Int.reduceToNat, Int.reduceGT, Int.reduceGE, Int.reducePow, Nat.reduceAdd, Nat.reduceMul, Nat.reduceSub, Nat.reduceDiv, Nat.reduceMod, Nat.reducePow, Nat.reduceLT, Nat.reduceLeDiff, Nat.min_self, ge_iff_le, gt_iff_lt, Option.isNone_none, Option.isSome_none, Option.isNone_some, Option.isSome_some, Bool.and_true, Bool.true_and, Bool.and_false, Bool.false_and, not_true_eq_false, not_false_eq_true, or_true, true_or, false_or, or_false])
  have hk : k = r.take 32 := by
    apply List.ext_getElem?
    intro t
    rw [List.getElem?_take]
    by_cases ht : t < 32
    · rw [if_pos ht, h3 t ht]
    · rw [if_neg ht, List.getElem?_eq_none (by omega)]
  rw [← hk]
  exact h1

theorem sl_away {H : List Ob} {k : IntKind} {v : Value} {xs : List Nat} {l : List Ob} {z r : List Nat} (h : Sl k H v xs) : Sl k (mH H z r l) v xs := h.app

theorem refMod_ev {H : List Ob} {id off c n : Nat} {ds : List Nat} (hsd : Sl .i64 H (.slice (some ⟨id, off, none⟩) n c) ds) (hN : n < 2 ^ 40) (hlt : ∀ x ∈ ds, x < 256) :
    ∃ l, evFun T 43 [.slice (some ⟨id, off, none⟩) n c] H = some (.agg (u8s (dig 256 32 (num 256 ds % ell))).toArray, H ++ l, []) := by
  have hz : List.replicate 32 (Value.int .u8 0) = u8s (dig 256 32 0) := rfl
  have hz33 : (List.replicate 33 [Value.int .i64 0]).flatten = ns .i64 (List.replicate 33 0) := rfl
  have f0 : fillL [Value.int .i64 0] [(0, 1, .int .i64 0)] = some [.int .i64 0] := rfl
  have f32 : fillL (u8s (dig 256 32 0)) [] = some (u8s (dig 256 32 0)) := rfl
  have hnl : n = ds.length := (live_row hsd).choose_spec.2.2.1
  obtain ⟨s, l0, ho, hg⟩ := order23_ev (H ++ [⟨u8s (dig 256 32 0), true, true, true, 1⟩, ⟨ns .i64 (List.replicate 33 0), true, true, true, 1⟩])
  obtain ⟨s', H', M, ha, hg', hM, hL, hK⟩ := grow_one (x := 0) (bytes := 8) hg (by simp) (by rw [ordL_len]; decide) (by decide)
  obtain ⟨l, rfl⟩ := ext_app (H := H ++ [⟨u8s (dig 256 32 0), true, true, true, 1⟩, ⟨ns .i64 (List.replicate 33 0), true, true, true, 1⟩]) hL (fun i hi => by rw [hK i hi, List.getElem?_append_left hi])
  have hm : inMerge H.length [] M = [] := inMerge_ge fun i hi => by have := hM i hi; simp at this; omega
  obtain ⟨il, ol, cl, hs', hrow⟩ := hg'.sl.row (by simp [ordL_len])
  have hil : H.length + 2 ≤ il := by
    cases hg' with
    | own h _ _ => cases hs'; simpa using h
    | new h _ _ => cases hs'; simpa using h
  have hs33 : (ordL ++ [0]).length = 33 := ord33_len
  rw [hs33] at hs'
  have hsl0 : Sl .i64 (mH H (dig 256 32 0) (List.replicate 33 0) l) (.slice (some ⟨il, ol, none⟩) 33 cl) ord33 := by
    have := hg'.sl
    rw [hs'] at this
    have e : H ++ [⟨u8s (dig 256 32 0), true, true, true, 1⟩, ⟨ns .i64 (List.replicate 33 0), true, true, true, 1⟩] ++ l = mH H (dig 256 32 0) (List.replicate 33 0) l := by
      rw [List.append_assoc]; rfl
    rw [e] at this
    exact this
  have hsl : ∀ r, Sl .i64 (mH H (dig 256 32 0) r l) (.slice (some ⟨il, ol, none⟩) 33 cl) ord33 := fun r => mH_other rfl (by omega) hsl0
  have hsd' : ∀ r, Sl .i64 (mH H (dig 256 32 0) r l) (.slice (some ⟨id, off, none⟩) n c) ds := fun r => hsd.app
  have hslA : ∀ r, Sl .i64 (mH H (dig 256 32 0) r (l ++ [])) (.slice (some ⟨il, ol, none⟩) 33 cl) ord33 := fun r => by rw [List.append_nil]; exact hsl r
  have w0 : IntKind.i64.wrap ((n : Int) - 1) = (n : Int) - 1 := wrapI64_small (by omega) (by omega)
  obtain ⟨st, hb, r, rfl, k1, k2, k3⟩ := block_inv (T := T) (base := H.length) (id := 0) (body := a43_l5)
    (fun j st => ∃ r : List Nat, st = l3I (.pointer (some ⟨H.length, 0, none⟩)) (.slice (some ⟨id, off, none⟩) n c) (.slice (some ⟨il, ol, none⟩) 33 cl) (mrs H) ((n : Int) - 1 - j) (mH H (dig 256 32 0) r l) [] ∧ r.length = 33 ∧ (∀ x ∈ r, x < 256) ∧ num 256 r = num 256 (ds.drop (n - j)) % ell)
    (Q := fun st => ∃ r : List Nat, st = l3I (.pointer (some ⟨H.length, 0, none⟩)) (.slice (some ⟨id, off, none⟩) n c) (.slice (some ⟨il, ol, none⟩) 33 cl) (mrs H) (-1) (mH H (dig 256 32 0) r l) [(21, .bool false)] ∧ r.length = 33 ∧ (∀ x ∈ r, x < 256) ∧ num 256 r = num 256 ds % ell)
    n (s := l3I (.pointer (some ⟨H.length, 0, none⟩)) (.slice (some ⟨id, off, none⟩) n c) (.slice (some ⟨il, ol, none⟩) 33 cl) (mrs H) ((n : Int) - 1) (mH H (dig 256 32 0) (List.replicate 33 0) l) []) ⟨List.replicate 33 0, by rw [show ((n : Int) - 1 - ((0 : Nat) : Int)) = (n : Int) - 1 by omega], by simp, by decide, by rw [List.drop_of_length_le (by omega)]; decide⟩
    (fun j st hj hs => by
      obtain ⟨r, rfl, k1, k2, k3⟩ := hs
      obtain ⟨i, hi⟩ : ∃ i, n - j = i + 1 := ⟨n - j - 1, by omega⟩
      obtain ⟨x, hx⟩ : ∃ y, ds[i]? = some y := ⟨_, List.getElem?_eq_getElem (by omega)⟩
      rw [hi] at k3
      obtain ⟨r', g1, g2, g3, g4⟩ := l5_body (R := .pointer (some ⟨H.length, 0, none⟩)) hsl hsd' hN hx (hlt x (List.mem_of_getElem? hx)) k1 k2 k3
      rw [show (n : Int) - 1 - j = (i : Int) by omega]
      refine ⟨_, g1, r', ?_, g2, g3, ?_⟩
      · rw [show (n : Int) - 1 - ((j + 1 : Nat) : Int) = (i : Int) - 1 by omega]
      · rw [show n - (j + 1) = i by omega]; exact g4)
    (fun st hs => by
      obtain ⟨r, rfl, k1, k2, k3⟩ := hs
      rw [Nat.sub_self, List.drop_zero] at k3
      refine ⟨_, ?_, r, rfl, k1, k2, k3⟩
      have e : ((0 : Int) ≤ -1) = False := by decide
      rw [show (n : Int) - 1 - n = -1 by omega]
      simp only [l3I, a43_l5, envOf, evCode_skip, evCode_exit, evCode_seq, fs_blockS, fs_blockR, fs_blockC, fs_blockK, fs_blockB, evCode_ret, quiet, keep_nil, keep_cons, fs_cond, fs_region, fs_regionP, fs_nil, fs_guard, fs_move, fs_pick, fs_alloc, fs_box, fs_load, fs_store, fs_bin, fs_eqv, fs_isNil, fs_un, fs_conv, fs_convStr, fs_field, fs_index, fs_indexStr, fs_build, fs_buildSlice, fs_fieldAddr, fs_indexAddr, fs_indexSl, fs_sliceArr, fs_sliceSl, fs_sliceStr, fs_makeSlice, fs_extract, fs_mkIface, fs_mkFunc, fs_nilCheck, fs_s2ap, fs_len, fs_minmax, fs_s2b, fs_b2s, fs_append, fs_copy, fs_callV, fs_callR, fs_callv, opd_tmp, opd_const, opd_func, opds_nil, opds_cons, opdOpt_none, opdOpt_some, opdParts_nil, opdParts_cons, get_miss, vPick_t, vPick_f, vEq_agg, vEq_aggN, vEq_bool, vEq_boolN, vConv_int, vStr_s, vField_agg, vIndex_agg, vIndexStr_s, vFieldAddr_p, vIndexAddr_p, vIndexSl_s, vSliceArr_p, vSliceSl_s, vSliceSl_n, vSliceStr_s, vExtract_t, vNilCheck_p, vS2ap_s, vLen_s, vLen_str, vMin_i, vMax_i, vLoad_p, vStore_p, baseP_p, vB2s_s, vMake_i, vS2b_s, callee_f, liveAt_eq, storeAt_eq, partL_none, partL_some, natIn_none, natIn_int, bounds3_two, bin_add, bin_sub, bin_mul, bin_quo, bin_rem, bin_and, bin_or, bin_xor, bin_andNot, bin_eql, bin_neq, bin_lss, bin_leq, bin_gtr, bin_geq, bin_shl, bin_shr, bin_sadd, bin_seql, bin_sneq, un_not, un_neg, un_xor, after_some, put_some, put_none, res_nil, res_val, res_var, packed_one, packed_two, merge_nil, merge_ge, rf_tup2, rfIn_int, rfIn_bool, rfIn_u8s, rf_str, rfIn_str, ↓gate_true, ↓guardV_tt, ↓guardV_ff, ↓guardV_tf, ↓guardV_ft, ↓keepV_some, ↓qElse_some, ↓get_hit, ↓Option.bind_some, ↓if_true, ↓if_false, List.nil_append, List.cons_append, List.all_nil, List.all_cons, List.isEmpty_nil, reduceCtorEq, Bool.false_eq_true, Nat.reduceEqDiff, beq_self_eq_true, bne_self_eq_false, Bool.not_true, Bool.not_false, Int.natCast_nonneg, Nat.lt_irrefl, false_and, Int.reduceEq, rf_int, rf_bool, rf_tuple_ints, rf_u8s, arr_list, toList2, Bool.and_self, Nat.not_lt_zero, Nat.sub_zero, Nat.zero_le, Nat.le_add_right, cells_agg, cells_agg_size, cells_int, cells_int_size, okVar, eq_self, wrapI64_small, Int.natCast_zero, Int.natCast_one, Int.cast_ofNat_Int, List.length_nil, List.length_cons, List.getElem?_cons_zero, List.getElem?_cons_succ, List.set_cons_zero, List.set_cons_succ, Nat.zero_add, Nat.add_zero, Nat.mul_one, Nat.zero_mul, Int.toNat_natCast, Int.toNat_zero, Int.lt_irrefl, Int.le_refl, Nat.le_refl, and_self, true_and, and_true, decide_true, decide_false, Int.reduceLE, Int.reduceLT, Int.reduceAdd, Int.reduceMul, Int.reduceSub, Int.reduceTDiv, Int.reduceTMod, Int.reduceNeg, Int.reduceToNat, Int.reduceGT, Int.reduceGE, Int.reducePow, Nat.reduceAdd, Nat.reduceMul, Nat.reduceSub, Nat.reduceDiv, Nat.reduceMod, Nat.reducePow, Nat.reduceLT, Nat.reduceLeDiff, Nat.min_self, ge_iff_le, gt_iff_lt, Option.isNone_none, Option.isSome_none, Option.isNone_some, Option.isSome_some, Bool.and_true, Bool.true_and, Bool.and_false, Bool.false_and, not_true_eq_false, not_false_eq_true, or_true, true_or, false_or, or_false, e])
  have hb0 := l0_block (H := H) (R := .pointer (some ⟨H.length, 0, none⟩)) (z := dig 256 32 0) (l := l) k1 k2
  rw [(get32 k1 k2 k3).2] at hb0
  have hl32 : (dig 256 32 (num 256 ds % ell)).length = 32 := dig_len _ _ _
  have hl0 : (dig 256 32 0).length = 32 := rfl
  generalize dig 256 32 (num 256 ds % ell) = K at *
  simp only [l3I, l0I, mrs, mH, List.cons_append, List.nil_append, List.append_assoc, hs', List.length_append, List.length_cons, List.length_nil, Nat.zero_add, Nat.reduceAdd, Nat.add_assoc, Int.natCast_zero] at hb hb0 ha ho
  apply Exists.intro
  rw [evFun_fn (fn := a43) rfl]
  simp only [a43, envOf, evCode_skip, evCode_exit, evCode_seq, fs_blockS, fs_blockR, fs_blockC, fs_blockK, fs_blockB, evCode_ret, quiet, keep_nil, keep_cons, fs_cond, fs_region, fs_regionP, fs_nil, fs_guard, fs_move, fs_pick, fs_alloc, fs_box, fs_load, fs_store, fs_bin, fs_eqv, fs_isNil, fs_un, fs_conv, fs_convStr, fs_field, fs_index, fs_indexStr, fs_build, fs_buildSlice, fs_fieldAddr, fs_indexAddr, fs_indexSl, fs_sliceArr, fs_sliceSl, fs_sliceStr, fs_makeSlice, fs_extract, fs_mkIface, fs_mkFunc, fs_nilCheck, fs_s2ap, fs_len, fs_minmax, fs_s2b, fs_b2s, fs_append, fs_copy, fs_callV, fs_callR, fs_callv, opd_tmp, opd_const, opd_func, opds_nil, opds_cons, opdOpt_none, opdOpt_some, opdParts_nil, opdParts_cons, get_miss, vPick_t, vPick_f, vEq_agg, vEq_aggN, vEq_bool, vEq_boolN, vConv_int, vStr_s, vField_agg, vIndex_agg, vIndexStr_s, vFieldAddr_p, vIndexAddr_p, vIndexSl_s, vSliceArr_p, vSliceSl_s, vSliceSl_n, vSliceStr_s, vExtract_t, vNilCheck_p, vS2ap_s, vLen_s, vLen_str, vMin_i, vMax_i, vLoad_p, vStore_p, baseP_p, vB2s_s, vMake_i, vS2b_s, callee_f, liveAt_eq, storeAt_eq, partL_none, partL_some, natIn_none, natIn_int, bounds3_two, bin_add, bin_sub, bin_mul, bin_quo, bin_rem, bin_and, bin_or, bin_xor, bin_andNot, bin_eql, bin_neq, bin_lss, bin_leq, bin_gtr, bin_geq, bin_shl, bin_shr, bin_sadd, bin_seql, bin_sneq, un_not, un_neg, un_xor, after_some, put_some, put_none, res_nil, res_val, res_var, packed_one, packed_two, merge_nil, merge_ge, rf_tup2, rfIn_int, rfIn_bool, rfIn_u8s, rf_str, rfIn_str, ↓gate_true, ↓guardV_tt, ↓guardV_ff, ↓guardV_tf, ↓guardV_ft, ↓keepV_some, ↓qElse_some, ↓get_hit, ↓Option.bind_some, ↓if_true, ↓if_false, List.nil_append, List.cons_append, List.all_nil, List.all_cons, List.isEmpty_nil, reduceCtorEq, Bool.false_eq_true, Nat.reduceEqDiff, beq_self_eq_true, bne_self_eq_false, Bool.not_true, Bool.not_false, Int.natCast_nonneg, Nat.lt_irrefl, false_and, Int.reduceEq, rf_int, rf_bool, rf_tuple_ints, rf_u8s, arr_list, toList2, Bool.and_self, Nat.not_lt_zero, Nat.sub_zero, Nat.zero_le, Nat.le_add_right, cells_agg, cells_agg_size, cells_int, cells_int_size, okVar, eq_self, wrapI64_small, Int.natCast_zero, Int.natCast_one, Int.cast_ofNat_Int, List.length_nil, List.length_cons, List.getElem?_cons_zero, List.getElem?_cons_succ, List.set_cons_zero, List.set_cons_succ, Nat.zero_add, Nat.add_zero, Nat.mul_one, Nat.zero_mul, Int.toNat_natCast, Int.toNat_zero, Int.lt_irrefl, Int.le_refl, Nat.le_refl, and_self, true_and, and_true, decide_true, decide_false, Int.reduceLE, Int.reduceLT, Int.reduceAdd, Int.reduceMul, Int.reduceSub, Int.reduceTDiv, Int.reduceTMod, Int.reduceNeg, Int.reduceToNat, Int.reduceGT, Int.reduceGE, Int.reducePow, Nat.reduceAdd, Nat.reduceMul, Nat.reduceSub, Nat.reduceDiv, Nat.reduceMod, Nat.reducePow, Nat.reduceLT, Nat.reduceLeDiff, Nat.min_self, ge_iff_le, gt_iff_lt, Option.isNone_none, Option.isSome_none, Option.isNone_some, Option.isSome_some, Bool.and_true, Bool.true_and, Bool.and_false, Bool.false_and, not_true_eq_false, not_false_eq_true, or_true, true_or, false_or, or_false, hget0, hgetK, hset0, hsetK, splice_single, splice_whole, take_whole, List.getElem?_nil, List.length_append, List.append_assoc, Nat.add_assoc, hz, hz33, f0, f32, ho, ha, hm, w0, hb, l3I, mH, mrs, hb0, l0I, hl0, hl32, u8s_len, ns_len]
  rfl
end Go.Ev.Ytaceeoghjgggjaa

/-
  intaglioref04: MulAdd, Canonical, Reduce.
-/
set_option linter.unusedSimpArgs false
set_option linter.unusedVariables false
namespace Go.Ev.Ytaceeoghjgggjaa
open Go Go.Ev
attribute [local congr] bind_congr2 ite_congr2 qElse_congr gate_congr guardV_congr
set_option maxRecDepth 100000

def fourH (a b c : List Nat) (d : List Nat) : List Ob := [⟨u8s a, true, true, true, 1⟩, ⟨u8s b, true, true, true, 1⟩, ⟨u8s c, true, true, true, 1⟩, ⟨u8s (dig 256 32 0), true, true, true, 1⟩, ⟨ns .i64 d, true, true, true, 1⟩]
def dV : Value := .slice (some ⟨4, 0, none⟩) 66 66
def mI (a b c d : List Nat) (i : Int) (ex : Env) : St := ⟨[(3, .pointer (some ⟨0, 0, none⟩)), (4, .pointer (some ⟨1, 0, none⟩)), (5, .pointer (some ⟨2, 0, none⟩)), (6, .pointer (some ⟨3, 0, none⟩)), (7, dV), (8, .int .i64 i)] ++ ex, fourH a b c d, []⟩
def mkI (a b c d : List Nat) (i k : Int) (ex : Env) : St := ⟨[(3, .pointer (some ⟨0, 0, none⟩)), (4, .pointer (some ⟨1, 0, none⟩)), (5, .pointer (some ⟨2, 0, none⟩)), (6, .pointer (some ⟨3, 0, none⟩)), (7, dV), (8, .int .i64 i), (9, .int .i64 k)] ++ ex, fourH a b c d, []⟩

theorem set_le {l : List Nat} {i y M : Nat} (h : ∀ x ∈ l, x ≤ M) (hy : y ≤ M) : ∀ x ∈ l.set i y, x ≤ M := by
  intro x hx
  rcases List.mem_or_eq_of_mem_set hx with h1 | h1
  · exact h x h1
  · rw [h1]; exact hy

/-- Products are put to the digits. -/
theorem m1_block {a b c d : List Nat} {i x S : Nat} (la : a.length = 32) (lb : b.length = 32) (xa : ∀ x ∈ a, x < 256) (xb : ∀ x ∈ b, x < 256) (hi : i < 32) (hx : a[i]? = some x) (hd : d.length = 66) (hM : ∀ x ∈ d, x ≤ S * 65280) (hS : S ≤ 2000) :
    ∃ d', evCode T 0 (.block 2 (.loop a20_l1)) (mkI a b c d i 0 []) = some (.normal, mkI a b c d' i 32 [(27, .bool false)]) ∧ d'.length = 66 ∧ (∀ x ∈ d', x ≤ (S + 32) * 65280) ∧ num 256 d' = num 256 d + x * num 256 b * 256 ^ i := by
  have hx' := xa x (List.mem_of_getElem? hx)
  obtain ⟨st, h1, d', rfl, h2, h3, h4⟩ := block_inv (T := T) (base := 0) (id := 2) (body := a20_l1)
    (fun k st => ∃ d' : List Nat, st = mkI a b c d' i k [] ∧ d'.length = 66 ∧ (∀ x ∈ d', x ≤ (S + k) * 65280) ∧ num 256 d' = num 256 d + x * num 256 (b.take k) * 256 ^ i)
    (Q := fun st => ∃ d' : List Nat, st = mkI a b c d' i 32 [(27, .bool false)] ∧ d'.length = 66 ∧ (∀ x ∈ d', x ≤ (S + 32) * 65280) ∧ num 256 d' = num 256 d + x * num 256 b * 256 ^ i)
    32 (s := mkI a b c d i 0 []) ⟨d, rfl, hd, by simpa using hM, by simp [num]⟩
    (fun k st hk hs => by
      obtain ⟨d', rfl, h2, h3, h4⟩ := hs
      obtain ⟨y, hy⟩ : ∃ y, b[k]? = some y := ⟨_, List.getElem?_eq_getElem (by omega)⟩
      obtain ⟨v, hv⟩ : ∃ y, d'[i + k]? = some y := ⟨_, List.getElem?_eq_getElem (by omega)⟩
      have hy' := xb y (List.mem_of_getElem? hy)
      have hv' := h3 v (List.mem_of_getElem? hv)
      have hxy : x * y ≤ 255 * 255 := Nat.mul_le_mul (by omega) (by omega)
      have hxc := u8s_get hx
      have hyc := u8s_get hy
      have hvc := ns_get (k := .i64) hv
      have e1 : ((k : Int) < 32) = True := eq_true (by omega)
      have e2 : ((k : Int) < (32 : Int)) = True := eq_true (by omega)
      have e3 : ((i : Int) < (32 : Int)) = True := eq_true (by omega)
      have w1 : IntKind.i64.wrap ((k : Int) + 1) = ((k + 1 : Nat) : Int) := wrap_nat (n := k + 1) (by omega)
      have w2 : IntKind.i64.wrap ((i : Int) + (k : Int)) = ((i + k : Nat) : Int) := by rw [← Int.natCast_add]; exact wrap_nat (by omega)
      have w3 : IntKind.i64.wrap (x : Int) = (x : Int) := wrap_nat (by omega)
      have w4 : IntKind.i64.wrap (y : Int) = (y : Int) := wrap_nat (by omega)
      have w5 : IntKind.i64.wrap ((x : Int) * (y : Int)) = ((x * y : Nat) : Int) := by rw [← Int.natCast_mul]; exact wrap_nat (by omega)
      have w6 : IntKind.i64.wrap ((v : Int) + ((x * y : Nat) : Int)) = ((v + x * y : Nat) : Int) := by rw [← Int.natCast_add]; exact wrap_nat (by omega)
      have hset := ns_set .i64 d' (i + k) (v + x * y)
      have hn := num_set (B := 256) (v + x * y) hv
      refine ⟨_, ?_, d'.set (i + k) (v + x * y), rfl, by rw [List.length_set]; exact h2, set_le (fun z hz => Nat.le_trans (h3 z hz) (Nat.mul_le_mul_right _ (Nat.le_succ _))) (by omega), ?_⟩
      · have e4 : (0 : Int) ≤ ((i + k : Nat) : Int) := by omega
        have e5 : ((i + k : Nat) : Int) < (66 : Int) := by omega
        have e6 : ((i + k : Nat) : Int).toNat = i + k := by omega
        have e7 : i + k + 1 ≤ 66 := by omega
        generalize ((i + k : Nat) : Int) = ik at *
        generalize hj : i + k = j at *
        simp only [mkI, dV, fourH, a20_l1, envOf, evCode_skip, evCode_exit, evCode_seq, fs_blockS, fs_blockR, fs_blockC, fs_blockK, fs_blockB, evCode_ret, quiet, keep_nil, keep_cons, fs_cond, fs_region, fs_regionP, fs_nil, fs_guard, fs_move, fs_pick, fs_alloc, fs_box, fs_load, fs_store, fs_bin, fs_eqv, fs_isNil, fs_un, fs_conv, fs_convStr, fs_field, fs_index, fs_indexStr, fs_build, fs_buildSlice, fs_fieldAddr, fs_indexAddr, fs_indexSl, fs_sliceArr, fs_sliceSl, fs_sliceStr, fs_makeSlice, fs_extract, fs_mkIface, fs_mkFunc, fs_nilCheck, fs_s2ap, fs_len, fs_minmax, fs_s2b, fs_b2s, fs_append, fs_copy, fs_callV, fs_callR, fs_callv, opd_tmp, opd_const, opd_func, opds_nil, opds_cons, opdOpt_none, opdOpt_some, opdParts_nil, opdParts_cons, get_miss, vPick_t, vPick_f, vEq_agg, vEq_aggN, vEq_bool, vEq_boolN, vConv_int, vStr_s, vField_agg, vIndex_agg, vIndexStr_s, vFieldAddr_p, vIndexAddr_p, vIndexSl_s, vSliceArr_p, vSliceSl_s, vSliceSl_n, vSliceStr_s, vExtract_t, vNilCheck_p, vS2ap_s, vLen_s, vLen_str, vMin_i, vMax_i, vLoad_p, vStore_p, baseP_p, vB2s_s, vMake_i, vS2b_s, callee_f, liveAt_eq, storeAt_eq, partL_none, partL_some, natIn_none, natIn_int, bounds3_two, bin_add, bin_sub, bin_mul, bin_quo, bin_rem, bin_and, bin_or, bin_xor, bin_andNot, bin_eql, bin_neq, bin_lss, bin_leq, bin_gtr, bin_geq, bin_shl, bin_shr, bin_sadd, bin_seql, bin_sneq, un_not, un_neg, un_xor, after_some, put_some, put_none, res_nil, res_val, res_var, packed_one, packed_two, merge_nil, merge_ge, rf_tup2, rfIn_int, rfIn_bool, rfIn_u8s, rf_str, rfIn_str, ↓gate_true, ↓guardV_tt, ↓guardV_ff, ↓guardV_tf, ↓guardV_ft, ↓keepV_some, ↓qElse_some, ↓get_hit, ↓Option.bind_some, ↓if_true, ↓if_false, List.nil_append, List.cons_append, List.all_nil, List.all_cons, List.isEmpty_nil, reduceCtorEq, Bool.false_eq_true, Nat.reduceEqDiff, beq_self_eq_true, bne_self_eq_false, Bool.not_true, Bool.not_false, Int.natCast_nonneg, Nat.lt_irrefl, false_and, Int.reduceEq, rf_int, rf_bool, rf_tuple_ints, rf_u8s, arr_list, toList2, Bool.and_self, Nat.not_lt_zero, Nat.sub_zero, Nat.zero_le, Nat.le_add_right, cells_agg, cells_agg_size, cells_int, cells_int_size, okVar, eq_self, wrapI64_small, Int.natCast_zero, Int.natCast_one, Int.cast_ofNat_Int, List.length_nil, List.length_cons, List.getElem?_cons_zero, List.getElem?_cons_succ, List.set_cons_zero, List.set_cons_succ, Nat.zero_add, Nat.add_zero, Nat.mul_one, Nat.zero_mul, Int.toNat_natCast, Int.toNat_zero, Int.lt_irrefl, Int.le_refl, Nat.le_refl, and_self, true_and, and_true, decide_true, decide_false, Int.reduceLE, Int.reduceLT, Int.reduceAdd, Int.reduceMul, Int.reduceSub, Int.reduceTDiv, Int.reduceTMod, Int.reduceNeg, Int.reduceToNat, Int.reduceGT, Int.reduceGE, Int.reducePow, Nat.reduceAdd, Nat.reduceMul, Nat.reduceSub, Nat.reduceDiv, Nat.reduceMod, Nat.reducePow, Nat.reduceLT, Nat.reduceLeDiff, Nat.min_self, ge_iff_le, gt_iff_lt, Option.isNone_none, Option.isSome_none, Option.isNone_some, Option.isSome_some, Bool.and_true, Bool.true_and, Bool.and_false, Bool.false_and, not_true_eq_false, not_false_eq_true, or_true, true_or, false_or, or_false, hget0, hgetK, hset0, hsetK, splice_single, splice_whole, take_whole, List.getElem?_nil, List.length_append, List.append_assoc, Nat.add_assoc, e1, e2, e3, e4, e5, e6, e7, w1, w2, w3, w4, w5, w6, hxc, hyc, hvc, hset, ns_len, h2]
      · rw [num_take hy]
        have e8 : (v + x * y) * 256 ^ (i + k) = v * 256 ^ (i + k) + x * y * 256 ^ k * 256 ^ i := by
          rw [Nat.add_mul, Nat.mul_assoc (x * y), ← Nat.pow_add, Nat.add_comm k i]
        rw [Nat.mul_add, Nat.add_mul, ← Nat.mul_assoc x y]
        omega)
    (fun st hs => by
      obtain ⟨d', rfl, h2, h3, h4⟩ := hs
      rw [List.take_of_length_le (by omega)] at h4
      refine ⟨_, ?_, d', rfl, h2, h3, h4⟩
      simp only [mkI, a20_l1, envOf, evCode_skip, evCode_exit, evCode_seq, fs_blockS, fs_blockR, fs_blockC, fs_blockK, fs_blockB, evCode_ret, quiet, keep_nil, keep_cons, fs_cond, fs_region, fs_regionP, fs_nil, fs_guard, fs_move, fs_pick, fs_alloc, fs_box, fs_load, fs_store, fs_bin, fs_eqv, fs_isNil, fs_un, fs_conv, fs_convStr, fs_field, fs_index, fs_indexStr, fs_build, fs_buildSlice, fs_fieldAddr, fs_indexAddr, fs_indexSl, fs_sliceArr, fs_sliceSl, fs_sliceStr, fs_makeSlice, fs_extract, fs_mkIface, fs_mkFunc, fs_nilCheck, fs_s2ap, fs_len, fs_minmax, fs_s2b, fs_b2s, fs_append, fs_copy, fs_callV, fs_callR, fs_callv, opd_tmp, opd_const, opd_func, opds_nil, opds_cons, opdOpt_none, opdOpt_some, opdParts_nil, opdParts_cons, get_miss, vPick_t, vPick_f, vEq_agg, vEq_aggN, vEq_bool, vEq_boolN, vConv_int, vStr_s, vField_agg, vIndex_agg, vIndexStr_s, vFieldAddr_p, vIndexAddr_p, vIndexSl_s, vSliceArr_p, vSliceSl_s, vSliceSl_n, vSliceStr_s, vExtract_t, vNilCheck_p, vS2ap_s, vLen_s, vLen_str, vMin_i, vMax_i, vLoad_p, vStore_p, baseP_p, vB2s_s, vMake_i, vS2b_s, callee_f, liveAt_eq, storeAt_eq, partL_none, partL_some, natIn_none, natIn_int, bounds3_two, bin_add, bin_sub, bin_mul, bin_quo, bin_rem, bin_and, bin_or, bin_xor, bin_andNot, bin_eql, bin_neq, bin_lss, bin_leq, bin_gtr, bin_geq, bin_shl, bin_shr, bin_sadd, bin_seql, bin_sneq, un_not, un_neg, un_xor, after_some, put_some, put_none, res_nil, res_val, res_var, packed_one, packed_two, merge_nil, merge_ge, rf_tup2, rfIn_int, rfIn_bool, rfIn_u8s, rf_str, rfIn_str, ↓gate_true, ↓guardV_tt, ↓guardV_ff, ↓guardV_tf, ↓guardV_ft, ↓keepV_some, ↓qElse_some, ↓get_hit, ↓Option.bind_some, ↓if_true, ↓if_false, List.nil_append, List.cons_append, List.all_nil, List.all_cons, List.isEmpty_nil, reduceCtorEq, Bool.false_eq_true, Nat.reduceEqDiff, beq_self_eq_true, bne_self_eq_false, Bool.not_true, Bool.not_false, Int.natCast_nonneg, Nat.lt_irrefl, false_and, Int.reduceEq, rf_int, rf_bool, rf_tuple_ints, rf_u8s, arr_list, toList2, Bool.and_self, Nat.not_lt_zero, Nat.sub_zero, Nat.zero_le, Nat.le_add_right, cells_agg, cells_agg_size, cells_int, cells_int_size, okVar, eq_self, wrapI64_small, Int.natCast_zero, Int.natCast_one, Int.cast_ofNat_Int, List.length_nil, List.length_cons, List.getElem?_cons_zero, List.getElem?_cons_succ, List.set_cons_zero, List.set_cons_succ, Nat.zero_add, Nat.add_zero, Nat.mul_one, Nat.zero_mul, Int.toNat_natCast, Int.toNat_zero, Int.lt_irrefl, Int.le_refl, Nat.le_refl, and_self, true_and, and_true, decide_true, decide_false, Int.reduceLE, Int.reduceLT, Int.reduceAdd, Int.reduceMul, Int.reduceSub, Int.reduceTDiv, Int.reduceTMod, Int.reduceNeg, Int.reduceToNat, Int.reduceGT, Int.reduceGE, Int.reducePow, Nat.reduceAdd, Nat.reduceMul, Nat.reduceSub, Nat.reduceDiv, Nat.reduceMod, Nat.reducePow, Nat.reduceLT, Nat.reduceLeDiff, Nat.min_self, ge_iff_le, gt_iff_lt, Option.isNone_none, Option.isSome_none, Option.isNone_some, Option.isSome_some, Bool.and_true, Bool.true_and, Bool.and_false, Bool.false_and, not_true_eq_false, not_false_eq_true, or_true, true_or, false_or, or_false])
  exact ⟨d', h1, h2, h3, h4⟩

theorem m2_block {a b c d : List Nat} (la : a.length = 32) (lb : b.length = 32) (lc : c.length = 32) (xa : ∀ x ∈ a, x < 256) (xb : ∀ x ∈ b, x < 256) (xc : ∀ x ∈ c, x < 256) (hd : d = List.replicate 66 0) :
    ∃ d', evCode T 0 (.block 0 (.loop a20_l2)) (mI a b c d 0 []) = some (.normal, mI a b c d' 32 [(13, .bool false)]) ∧ d'.length = 66 ∧ (∀ x ∈ d', x ≤ 1056 * 65280) ∧ num 256 d' = num 256 a * num 256 b + num 256 c := by
  obtain ⟨st, h1, d', rfl, h2, h3, h4⟩ := block_inv (T := T) (base := 0) (id := 0) (body := a20_l2)
    (fun i st => ∃ (d' : List Nat) (ex : Env), st = mI a b c d' i ex ∧ (d'.length = 66 ∧ (∀ x ∈ d', x ≤ (i * 33) * 65280) ∧ num 256 d' = num 256 (a.take i) * num 256 b + num 256 (c.take i)))
    (Q := fun st => ∃ d' : List Nat, st = mI a b c d' 32 [(13, .bool false)] ∧ d'.length = 66 ∧ (∀ x ∈ d', x ≤ 1056 * 65280) ∧ num 256 d' = num 256 a * num 256 b + num 256 c)
    32 (s := mI a b c d 0 []) ⟨d, [], rfl, by subst hd; simp, by subst hd; simp, by subst hd; rw [List.take_zero, List.take_zero, num, Nat.zero_mul]; decide⟩
    (fun i st hi hs => by
      obtain ⟨d', ex, rfl, h2, h3, h4⟩ := hs
      obtain ⟨x, hx⟩ : ∃ y, a[i]? = some y := ⟨_, List.getElem?_eq_getElem (by omega)⟩
      obtain ⟨y, hy⟩ : ∃ y, c[i]? = some y := ⟨_, List.getElem?_eq_getElem (by omega)⟩
      obtain ⟨v, hv⟩ : ∃ y, d'[i]? = some y := ⟨_, List.getElem?_eq_getElem (by omega)⟩
      have hy' := xc y (List.mem_of_getElem? hy)
      have hv' := h3 v (List.mem_of_getElem? hv)
      have hyc := u8s_get hy
      have hvc := ns_get (k := .i64) hv
      have hn := num_set (B := 256) (v + y) hv
      have hset := ns_set .i64 d' i (v + y)
      obtain ⟨d2, g1, g2, g3, g4⟩ := m1_block (c := c) (d := d'.set i (v + y)) (S := i * 33 + 1) la lb xa xb hi hx (by rw [List.length_set]; exact h2) (set_le (fun z hz => Nat.le_trans (h3 z hz) (Nat.mul_le_mul_right _ (Nat.le_succ _))) (by omega)) (by omega)
      have e1 : ((i : Int) < 32) = True := eq_true (by omega)
      have e2 : ((i : Int) < (32 : Int)) = True := eq_true (by omega)
      have e3 : ((i : Int) < (66 : Int)) = True := eq_true (by omega)
      have w1 : IntKind.i64.wrap ((i : Int) + 1) = ((i + 1 : Nat) : Int) := wrap_nat (n := i + 1) (by omega)
      have w3 : IntKind.i64.wrap (y : Int) = (y : Int) := wrap_nat (by omega)
      have w6 : IntKind.i64.wrap ((v : Int) + (y : Int)) = ((v + y : Nat) : Int) := by rw [← Int.natCast_add]; exact wrap_nat (by omega)
      have e7 : i + 1 ≤ 66 := by omega
      refine ⟨_, ?_, d2, [], rfl, g2, fun z hz => Nat.le_trans (g3 z hz) (Nat.mul_le_mul_right _ (by omega)), ?_⟩
      · simp only [mkI, dV, fourH, List.cons_append, List.nil_append] at g1
        simp only [mI, dV, fourH, a20_l2, envOf, evCode_skip, evCode_exit, evCode_seq, fs_blockS, fs_blockR, fs_blockC, fs_blockK, fs_blockB, evCode_ret, quiet, keep_nil, keep_cons, fs_cond, fs_region, fs_regionP, fs_nil, fs_guard, fs_move, fs_pick, fs_alloc, fs_box, fs_load, fs_store, fs_bin, fs_eqv, fs_isNil, fs_un, fs_conv, fs_convStr, fs_field, fs_index, fs_indexStr, fs_build, fs_buildSlice, fs_fieldAddr, fs_indexAddr, fs_indexSl, fs_sliceArr, fs_sliceSl, fs_sliceStr, fs_makeSlice, fs_extract, fs_mkIface, fs_mkFunc, fs_nilCheck, fs_s2ap, fs_len, fs_minmax, fs_s2b, fs_b2s, fs_append, fs_copy, fs_callV, fs_callR, fs_callv, opd_tmp, opd_const, opd_func, opds_nil, opds_cons, opdOpt_none, opdOpt_some, opdParts_nil, opdParts_cons, get_miss, vPick_t, vPick_f, vEq_agg, vEq_aggN, vEq_bool, vEq_boolN, vConv_int, vStr_s, vField_agg, vIndex_agg, vIndexStr_s, vFieldAddr_p, vIndexAddr_p, vIndexSl_s, vSliceArr_p, vSliceSl_s, vSliceSl_n, vSliceStr_s, vExtract_t, vNilCheck_p, vS2ap_s, vLen_s, vLen_str, vMin_i, vMax_i, vLoad_p, vStore_p, baseP_p, vB2s_s, vMake_i, vS2b_s, callee_f, liveAt_eq, storeAt_eq, partL_none, partL_some, natIn_none, natIn_int, bounds3_two, bin_add, bin_sub, bin_mul, bin_quo, bin_rem, bin_and, bin_or, bin_xor, bin_andNot, bin_eql, bin_neq, bin_lss, bin_leq, bin_gtr, bin_geq, bin_shl, bin_shr, bin_sadd, bin_seql, bin_sneq, un_not, un_neg, un_xor, after_some, put_some, put_none, res_nil, res_val, res_var, packed_one, packed_two, merge_nil, merge_ge, rf_tup2, rfIn_int, rfIn_bool, rfIn_u8s, rf_str, rfIn_str, ↓gate_true, ↓guardV_tt, ↓guardV_ff, ↓guardV_tf, ↓guardV_ft, ↓keepV_some, ↓qElse_some, ↓get_hit, ↓Option.bind_some, ↓if_true, ↓if_false, List.nil_append, List.cons_append, List.all_nil, List.all_cons, List.isEmpty_nil, reduceCtorEq, Bool.false_eq_true, Nat.reduceEqDiff, beq_self_eq_true, bne_self_eq_false, Bool.not_true, Bool.not_false, Int.natCast_nonneg, Nat.lt_irrefl, false_and, Int.reduceEq, rf_int, rf_bool, rf_tuple_ints, rf_u8s, arr_list, toList2, Bool.and_self, Nat.not_lt_zero, Nat.sub_zero, Nat.zero_le, Nat.le_add_right, cells_agg, cells_agg_size, cells_int, cells_int_size, okVar, eq_self, wrapI64_small, Int.natCast_zero, Int.natCast_one, Int.cast_ofNat_Int, List.length_nil, List.length_cons, List.getElem?_cons_zero, List.getElem?_cons_succ, List.set_cons_zero, List.set_cons_succ, Nat.zero_add, Nat.add_zero, Nat.mul_one, Nat.zero_mul, Int.toNat_natCast, Int.toNat_zero, Int.lt_irrefl, Int.le_refl, Nat.le_refl, and_self, true_and, and_true, decide_true, decide_false, Int.reduceLE, Int.reduceLT, Int.reduceAdd, Int.reduceMul, Int.reduceSub, Int.reduceTDiv, Int.reduceTMod, Int.reduceNeg, Int.reduceToNat, Int.reduceGT, Int.reduceGE, Int.reducePow, Nat.reduceAdd, Nat.reduceMul, Nat.reduceSub, Nat.reduceDiv, Nat.reduceMod, Nat.reducePow, Nat.reduceLT, Nat.reduceLeDiff, Nat.min_self, ge_iff_le, gt_iff_lt, Option.isNone_none, Option.isSome_none, Option.isNone_some, Option.isSome_some, Bool.and_true, Bool.true_and, Bool.and_false, Bool.false_and, not_true_eq_false, not_false_eq_true, or_true, true_or, false_or, or_false, hget0, hgetK, hset0, hsetK, splice_single, splice_whole, take_whole, List.getElem?_nil, List.length_append, List.append_assoc, Nat.add_assoc, e1, e2, e3, e7, w1, w3, w6, hyc, hvc, hset, ns_len, h2, g1]
      · rw [g4, num_take hx, num_take hy, Nat.add_mul]
        have e8 : (v + y) * 256 ^ i = v * 256 ^ i + y * 256 ^ i := Nat.add_mul _ _ _
        have e9 : x * num 256 b * 256 ^ i = x * 256 ^ i * num 256 b := by simp only [Nat.mul_assoc, Nat.mul_left_comm, Nat.mul_comm]
        omega)
    (fun st hs => by
      obtain ⟨d', ex, rfl, h2, h3, h4⟩ := hs
      rw [List.take_of_length_le (by omega), List.take_of_length_le (by omega)] at h4
      refine ⟨_, ?_, d', rfl, h2, fun z hz => by have := h3 z hz; omega, h4⟩
      simp only [mI, a20_l2, envOf, evCode_skip, evCode_exit, evCode_seq, fs_blockS, fs_blockR, fs_blockC, fs_blockK, fs_blockB, evCode_ret, quiet, keep_nil, keep_cons, fs_cond, fs_region, fs_regionP, fs_nil, fs_guard, fs_move, fs_pick, fs_alloc, fs_box, fs_load, fs_store, fs_bin, fs_eqv, fs_isNil, fs_un, fs_conv, fs_convStr, fs_field, fs_index, fs_indexStr, fs_build, fs_buildSlice, fs_fieldAddr, fs_indexAddr, fs_indexSl, fs_sliceArr, fs_sliceSl, fs_sliceStr, fs_makeSlice, fs_extract, fs_mkIface, fs_mkFunc, fs_nilCheck, fs_s2ap, fs_len, fs_minmax, fs_s2b, fs_b2s, fs_append, fs_copy, fs_callV, fs_callR, fs_callv, opd_tmp, opd_const, opd_func, opds_nil, opds_cons, opdOpt_none, opdOpt_some, opdParts_nil, opdParts_cons, get_miss, vPick_t, vPick_f, vEq_agg, vEq_aggN, vEq_bool, vEq_boolN, vConv_int, vStr_s, vField_agg, vIndex_agg, vIndexStr_s, vFieldAddr_p, vIndexAddr_p, vIndexSl_s, vSliceArr_p, vSliceSl_s, vSliceSl_n, vSliceStr_s, vExtract_t, vNilCheck_p, vS2ap_s, vLen_s, vLen_str, vMin_i, vMax_i, vLoad_p, vStore_p, baseP_p, vB2s_s, vMake_i, vS2b_s, callee_f, liveAt_eq, storeAt_eq, partL_none, partL_some, natIn_none, natIn_int, bounds3_two, bin_add, bin_sub, bin_mul, bin_quo, bin_rem, bin_and, bin_or, bin_xor, bin_andNot, bin_eql, bin_neq, bin_lss, bin_leq, bin_gtr, bin_geq, bin_shl, bin_shr, bin_sadd, bin_seql, bin_sneq, un_not, un_neg, un_xor, after_some, put_some, put_none, res_nil, res_val, res_var, packed_one, packed_two, merge_nil, merge_ge, rf_tup2, rfIn_int, rfIn_bool, rfIn_u8s, rf_str, rfIn_str, ↓gate_true, ↓guardV_tt, ↓guardV_ff, ↓guardV_tf, ↓guardV_ft, ↓keepV_some, ↓qElse_some, ↓get_hit, ↓Option.bind_some, ↓if_true, ↓if_false, List.nil_append, List.cons_append, List.all_nil, List.all_cons, List.isEmpty_nil, reduceCtorEq, Bool.false_eq_true, Nat.reduceEqDiff, beq_self_eq_true, bne_self_eq_false, Bool.not_true, Bool.not_false, Int.natCast_nonneg, Nat.lt_irrefl, false_and, Int.reduceEq, rf_int, rf_bool, rf_tuple_ints, rf_u8s, arr_list, toList2, Bool.and_self, Nat.not_lt_zero, Nat.sub_zero, Nat.zero_le, Nat.le_add_right, cells_agg, cells_agg_size, cells_int, cells_int_size, okVar, eq_self, wrapI64_small, Int.natCast_zero, Int.natCast_one, Int.cast_ofNat_Int, List.length_nil, List.length_cons, List.getElem?_cons_zero, List.getElem?_cons_succ, List.set_cons_zero, List.set_cons_succ, Nat.zero_add, Nat.add_zero, Nat.mul_one, Nat.zero_mul, Int.toNat_natCast, Int.toNat_zero, Int.lt_irrefl, Int.le_refl, Nat.le_refl, and_self, true_and, and_true, decide_true, decide_false, Int.reduceLE, Int.reduceLT, Int.reduceAdd, Int.reduceMul, Int.reduceSub, Int.reduceTDiv, Int.reduceTMod, Int.reduceNeg, Int.reduceToNat, Int.reduceGT, Int.reduceGE, Int.reducePow, Nat.reduceAdd, Nat.reduceMul, Nat.reduceSub, Nat.reduceDiv, Nat.reduceMod, Nat.reducePow, Nat.reduceLT, Nat.reduceLeDiff, Nat.min_self, ge_iff_le, gt_iff_lt, Option.isNone_none, Option.isSome_none, Option.isNone_some, Option.isSome_some, Bool.and_true, Bool.true_and, Bool.and_false, Bool.false_and, not_true_eq_false, not_false_eq_true, or_true, true_or, false_or, or_false])
  exact ⟨d', h1, h2, h3, h4⟩

def cI (a b c d : List Nat) (i : Int) (ex : Env) : St := ⟨[(6, .pointer (some ⟨3, 0, none⟩)), (7, dV), (10, .int .i64 i)] ++ ex, fourH a b c d, []⟩
/-- What is above a digit is carried on. -/
theorem m0_block {a b c d : List Nat} (hd : d.length = 66) (hM : ∀ x ∈ d, x ≤ 2 ^ 30) (hnum : num 256 d < 256 ^ 65) :
    ∃ d', evCode T 0 (.block 4 (.loop a20_l0)) (cI a b c d 0 []) = some (.normal, cI a b c d' 65 [(48, .bool false)]) ∧ d'.length = 66 ∧ (∀ x ∈ d', x < 256) ∧ num 256 d' = num 256 d := by
  obtain ⟨st, h1, d', rfl, h2, h3, h4, h5, h6⟩ := block_inv (T := T) (base := 0) (id := 4) (body := a20_l0)
    (fun i st => ∃ d' : List Nat, st = cI a b c d' i [] ∧ d'.length = 66 ∧ (∀ t x, t < i → d'[t]? = some x → x < 256) ∧ (∀ x, d'[i]? = some x → x ≤ 2 ^ 31) ∧ (∀ t x, i < t → d'[t]? = some x → x ≤ 2 ^ 30) ∧ num 256 d' = num 256 d)
    (Q := fun st => ∃ d' : List Nat, st = cI a b c d' 65 [(48, .bool false)] ∧ d'.length = 66 ∧ (∀ t x, t < 65 → d'[t]? = some x → x < 256) ∧ (∀ x, d'[65]? = some x → x ≤ 2 ^ 31) ∧ (∀ t x, 65 < t → d'[t]? = some x → x ≤ 2 ^ 30) ∧ num 256 d' = num 256 d)
    65 (s := cI a b c d 0 []) ⟨d, rfl, hd, fun t x ht => by omega, fun x hx => by have := hM x (List.mem_of_getElem? hx); omega, fun t x _ hx => hM x (List.mem_of_getElem? hx), rfl⟩
    (fun i st hi hs => by
      obtain ⟨d', rfl, h2, h3, h4, h5, h6⟩ := hs
      obtain ⟨x, hx⟩ : ∃ y, d'[i]? = some y := ⟨_, List.getElem?_eq_getElem (by omega)⟩
      obtain ⟨y, hy⟩ : ∃ y, d'[i + 1]? = some y := ⟨_, List.getElem?_eq_getElem (by omega)⟩
      have hx' := h4 x hx
      have hy' := h5 (i + 1) y (by omega) hy
      have hxc := ns_get (k := .i64) hx
      have hyc := ns_get (k := .i64) hy
      have hx2 : (d'.set (i + 1) (y + x / 256))[i]? = some x := by rw [List.getElem?_set_ne (by omega)]; exact hx
      have hxc2 := ns_get (k := .i64) hx2
      have hset1 := ns_set .i64 d' (i + 1) (y + x / 256)
      have hset2 := ns_set .i64 (d'.set (i + 1) (y + x / 256)) i (x % 256)
      have hn1 := num_set (B := 256) (y + x / 256) hy
      have hn2 := num_set (B := 256) (x % 256) hx2
      have e1 : ((i : Int) < 65) = True := eq_true (by omega)
      have e3 : ((i : Int) < (66 : Int)) = True := eq_true (by omega)
      have w1 : IntKind.i64.wrap ((i : Int) + 1) = ((i + 1 : Nat) : Int) := wrap_nat (n := i + 1) (by omega)
      have w2 : IntKind.i64.wrap ((x : Int).tdiv 256) = ((x / 256 : Nat) : Int) := by rw [show (x : Int).tdiv 256 = ((x / 256 : Nat) : Int) from rfl]; exact wrap_nat (by omega)
      have w3 : IntKind.i64.wrap ((y : Int) + ((x / 256 : Nat) : Int)) = ((y + x / 256 : Nat) : Int) := by rw [← Int.natCast_add]; exact wrap_nat (by omega)
      have w4 : (x : Int).tmod 256 = ((x % 256 : Nat) : Int) := rfl
      have e4 : (0 : Int) ≤ ((i + 1 : Nat) : Int) := by omega
      have e5 : ((i + 1 : Nat) : Int) < (66 : Int) := by omega
      have e6 : ((i + 1 : Nat) : Int).toNat = i + 1 := by omega
      have e7 : i + 1 + 1 ≤ 66 := by omega
      have e8 : i + 1 ≤ 66 := by omega
      have e9 : i ≤ 65 := by omega
      have hl2 : (d'.set (i + 1) (y + x / 256)).length = 66 := by rw [List.length_set]; exact h2
      refine ⟨_, ?_, (d'.set (i + 1) (y + x / 256)).set i (x % 256), rfl, by rw [List.length_set]; exact hl2, fun t z ht hz => ?_, fun z hz => ?_, fun t z ht hz => ?_, ?_⟩
      · generalize hik : ((i + 1 : Nat) : Int) = ik at *
        generalize hj : i + 1 = j at *
        simp only [cI, dV, fourH, a20_l0, envOf, evCode_skip, evCode_exit, evCode_seq, fs_blockS, fs_blockR, fs_blockC, fs_blockK, fs_blockB, evCode_ret, quiet, keep_nil, keep_cons, fs_cond, fs_region, fs_regionP, fs_nil, fs_guard, fs_move, fs_pick, fs_alloc, fs_box, fs_load, fs_store, fs_bin, fs_eqv, fs_isNil, fs_un, fs_conv, fs_convStr, fs_field, fs_index, fs_indexStr, fs_build, fs_buildSlice, fs_fieldAddr, fs_indexAddr, fs_indexSl, fs_sliceArr, fs_sliceSl, fs_sliceStr, fs_makeSlice, fs_extract, fs_mkIface, fs_mkFunc, fs_nilCheck, fs_s2ap, fs_len, fs_minmax, fs_s2b, fs_b2s, fs_append, fs_copy, fs_callV, fs_callR, fs_callv, opd_tmp, opd_const, opd_func, opds_nil, opds_cons, opdOpt_none, opdOpt_some, opdParts_nil, opdParts_cons, get_miss, vPick_t, vPick_f, vEq_agg, vEq_aggN, vEq_bool, vEq_boolN, vConv_int, vStr_s, vField_agg, vIndex_agg, vIndexStr_s, vFieldAddr_p, vIndexAddr_p, vIndexSl_s, vSliceArr_p, vSliceSl_s, vSliceSl_n, vSliceStr_s, vExtract_t, vNilCheck_p, vS2ap_s, vLen_s, vLen_str, vMin_i, vMax_i, vLoad_p, vStore_p, baseP_p, vB2s_s, vMake_i, vS2b_s, callee_f, liveAt_eq, storeAt_eq, partL_none, partL_some, natIn_none, natIn_int, bounds3_two, bin_add, bin_sub, bin_mul, bin_quo, bin_rem, bin_and, bin_or, bin_xor, bin_andNot, bin_eql, bin_neq, bin_lss, bin_leq, bin_gtr, bin_geq, bin_shl, bin_shr, bin_sadd, bin_seql, bin_sneq, un_not, un_neg, un_xor, after_some, put_some, put_none, res_nil, res_val, res_var, packed_one, packed_two, merge_nil, merge_ge, rf_tup2, rfIn_int, rfIn_bool, rfIn_u8s, rf_str, rfIn_str, ↓gate_true, ↓guardV_tt, ↓guardV_ff, ↓guardV_tf, ↓guardV_ft, ↓keepV_some, ↓qElse_some, ↓get_hit, ↓Option.bind_some, ↓if_true, ↓if_false, List.nil_append, List.cons_append, List.all_nil, List.all_cons, List.isEmpty_nil, reduceCtorEq, Bool.false_eq_true, Nat.reduceEqDiff, beq_self_eq_true, bne_self_eq_false, Bool.not_true, Bool.not_false, Int.natCast_nonneg, Nat.lt_irrefl, false_and, Int.reduceEq, rf_int, rf_bool, rf_tuple_ints, rf_u8s, arr_list, toList2, Bool.and_self, Nat.not_lt_zero, Nat.sub_zero, Nat.zero_le, Nat.le_add_right, cells_agg, cells_agg_size, cells_int, cells_int_size, okVar, eq_self, wrapI64_small, Int.natCast_zero, Int.natCast_one, Int.cast_ofNat_Int, List.length_nil, List.length_cons, List.getElem?_cons_zero, List.getElem?_cons_succ, List.set_cons_zero, List.set_cons_succ, Nat.zero_add, Nat.add_zero, Nat.mul_one, Nat.zero_mul, Int.toNat_natCast, Int.toNat_zero, Int.lt_irrefl, Int.le_refl, Nat.le_refl, and_self, true_and, and_true, decide_true, decide_false, Int.reduceLE, Int.reduceLT, Int.reduceAdd, Int.reduceMul, Int.reduceSub, Int.reduceTDiv, Int.reduceTMod, Int.reduceNeg, Int.reduceToNat, Int.reduceGT, Int.reduceGE, Int.reducePow, Nat.reduceAdd, Nat.reduceMul, Nat.reduceSub, Nat.reduceDiv, Nat.reduceMod, Nat.reducePow, Nat.reduceLT, Nat.reduceLeDiff, Nat.min_self, ge_iff_le, gt_iff_lt, Option.isNone_none, Option.isSome_none, Option.isNone_some, Option.isSome_some, Bool.and_true, Bool.true_and, Bool.and_false, Bool.false_and, not_true_eq_false, not_false_eq_true, or_true, true_or, false_or, or_false, hget0, hgetK, hset0, hsetK, splice_single, splice_whole, take_whole, List.getElem?_nil, List.length_append, List.append_assoc, Nat.add_assoc, e1, e3, e4, e5, e6, e7, e8, e9, w1, w2, w3, w4, hxc, hyc, hset1, hxc2, hset2, ns_len, h2, hl2]
      · by_cases hti : t = i
        · subst hti
          rw [List.getElem?_set_self (by omega)] at hz
          cases hz; omega
        · rw [List.getElem?_set_ne (by omega), List.getElem?_set_ne (by omega)] at hz
          exact h3 t z (by omega) hz
      · rw [List.getElem?_set_ne (by omega), List.getElem?_set_self (by omega)] at hz
        cases hz; omega
      · rw [List.getElem?_set_ne (by omega), List.getElem?_set_ne (by omega)] at hz
        exact h5 t z (by omega) hz
      · have e9 : (y + x / 256) * 256 ^ (i + 1) = y * 256 ^ (i + 1) + 256 * (x / 256) * 256 ^ i := by
          rw [Nat.add_mul, Nat.pow_succ]; simp only [Nat.mul_assoc, Nat.mul_left_comm, Nat.mul_comm]
        have e10 : x * 256 ^ i = 256 * (x / 256) * 256 ^ i + x % 256 * 256 ^ i := by rw [← Nat.add_mul, Nat.div_add_mod]
        omega)
    (fun st hs => by
      obtain ⟨d', rfl, h2, h3, h4, h5, h6⟩ := hs
      refine ⟨_, ?_, d', rfl, h2, h3, h4, h5, h6⟩
      simp only [cI, a20_l0, envOf, evCode_skip, evCode_exit, evCode_seq, fs_blockS, fs_blockR, fs_blockC, fs_blockK, fs_blockB, evCode_ret, quiet, keep_nil, keep_cons, fs_cond, fs_region, fs_regionP, fs_nil, fs_guard, fs_move, fs_pick, fs_alloc, fs_box, fs_load, fs_store, fs_bin, fs_eqv, fs_isNil, fs_un, fs_conv, fs_convStr, fs_field, fs_index, fs_indexStr, fs_build, fs_buildSlice, fs_fieldAddr, fs_indexAddr, fs_indexSl, fs_sliceArr, fs_sliceSl, fs_sliceStr, fs_makeSlice, fs_extract, fs_mkIface, fs_mkFunc, fs_nilCheck, fs_s2ap, fs_len, fs_minmax, fs_s2b, fs_b2s, fs_append, fs_copy, fs_callV, fs_callR, fs_callv, opd_tmp, opd_const, opd_func, opds_nil, opds_cons, opdOpt_none, opdOpt_some, opdParts_nil, opdParts_cons, get_miss, vPick_t, vPick_f, vEq_agg, vEq_aggN, vEq_bool, vEq_boolN, vConv_int, vStr_s, vField_agg, vIndex_agg, vIndexStr_s, vFieldAddr_p, vIndexAddr_p, vIndexSl_s, vSliceArr_p, vSliceSl_s, vSliceSl_n, vSliceStr_s, vExtract_t, vNilCheck_p, vS2ap_s, vLen_s, vLen_str, vMin_i, vMax_i, vLoad_p, vStore_p, baseP_p, vB2s_s, vMake_i, vS2b_s, callee_f, liveAt_eq, storeAt_eq, partL_none, partL_some, natIn_none, natIn_int, bounds3_two, bin_add, bin_sub, bin_mul, bin_quo, bin_rem, bin_and, bin_or, bin_xor, bin_andNot, bin_eql, bin_neq, bin_lss, bin_leq, bin_gtr, bin_geq, bin_shl, bin_shr, bin_sadd, bin_seql, bin_sneq, un_not, un_neg, un_xor, after_some, put_some, put_none, res_nil, res_val, res_var, packed_one, packed_two, merge_nil, merge_ge, rf_tup2, rfIn_int, rfIn_bool, rfIn_u8s, rf_str, rfIn_str, ↓gate_true, ↓guardV_tt, ↓guardV_ff, ↓guardV_tf, ↓guardV_ft, ↓keepV_some, ↓qElse_some, ↓get_hit, ↓Option.bind_some, ↓if_true, ↓if_false, List.nil_append, List.cons_append, List.all_nil, List.all_cons, List.isEmpty_nil, reduceCtorEq, Bool.false_eq_true, Nat.reduceEqDiff, beq_self_eq_true, bne_self_eq_false, Bool.not_true, Bool.not_false, Int.natCast_nonneg, Nat.lt_irrefl, false_and, Int.reduceEq, rf_int, rf_bool, rf_tuple_ints, rf_u8s, arr_list, toList2, Bool.and_self, Nat.not_lt_zero, Nat.sub_zero, Nat.zero_le, Nat.le_add_right, cells_agg, cells_agg_size, cells_int, cells_int_size, okVar, eq_self, wrapI64_small, Int.natCast_zero, Int.natCast_one, Int.cast_ofNat_Int, List.length_nil, List.length_cons, List.getElem?_cons_zero, List.getElem?_cons_succ, List.set_cons_zero, List.set_cons_succ, Nat.zero_add, Nat.add_zero, Nat.mul_one, Nat.zero_mul, Int.toNat_natCast, Int.toNat_zero, Int.lt_irrefl, Int.le_refl, Nat.le_refl, and_self, true_and, and_true, decide_true, decide_false, Int.reduceLE, Int.reduceLT, Int.reduceAdd, Int.reduceMul, Int.reduceSub, Int.reduceTDiv, Int.reduceTMod, Int.reduceNeg, Int.reduceToNat, Int.reduceGT, Int.reduceGE, Int.reducePow, Nat.reduceAdd, Nat.reduceMul, Nat.reduceSub, Nat.reduceDiv, Nat.reduceMod, Nat.reducePow, Nat.reduceLT, Nat.reduceLeDiff, Nat.min_self, ge_iff_le, gt_iff_lt, Option.isNone_none, Option.isSome_none, Option.isNone_some, Option.isSome_some, Bool.and_true, Bool.true_and, Bool.and_false, Bool.false_and, not_true_eq_false, not_false_eq_true, or_true, true_or, false_or, or_false])
  refine ⟨d', h1, h2, fun z hz => ?_, h6⟩
  obtain ⟨t, ht⟩ := List.mem_iff_getElem?.1 hz
  have htl := (List.getElem?_eq_some_iff.1 ht).1
  by_cases h65 : t < 65
  · exact h3 t z h65 ht
  · have : t = 65 := by omega
    subst this
    have h7 := num_take (B := 256) ht
    rw [List.take_of_length_le (by omega)] at h7
    rcases Nat.eq_zero_or_pos z with h0 | h0
    · omega
    · have : 1 * 256 ^ 65 ≤ z * 256 ^ 65 := Nat.mul_le_mul_right _ h0
      omega

theorem refMulAdd_ev {a b c : List Nat} (la : a.length = 32) (lb : b.length = 32) (lc : c.length = 32) (xa : ∀ x ∈ a, x < 256) (xb : ∀ x ∈ b, x < 256) (xc : ∀ x ∈ c, x < 256) :
    ∃ l, evFun T 20 [.agg (u8s a).toArray, .agg (u8s b).toArray, .agg (u8s c).toArray] [] = some (.agg (u8s (mA a b c)).toArray, l, []) := by
  have hz : List.replicate 32 (Value.int .u8 0) = u8s (dig 256 32 0) := rfl
  have hz66 : (List.replicate 66 [Value.int .i64 0]).flatten = ns .i64 (List.replicate 66 0) := rfl
  obtain ⟨d1, h1, h2, h3, h4⟩ := m2_block la lb lc xa xb xc rfl
  have na := num_lt xa
  have nb := num_lt xb
  have nc := num_lt xc
  rw [la] at na
  rw [lb] at nb
  rw [lc] at nc
  have nab : num 256 a * num 256 b < 256 ^ 32 * 256 ^ 32 := Nat.mul_lt_mul'' na nb
  obtain ⟨d2, g1, g2, g3, g4⟩ := m0_block (a := a) (b := b) (c := c) h2 (fun x hx => by have := h3 x hx; omega) (by
    have : (256 : Nat) ^ 32 * 256 ^ 32 + 256 ^ 32 ≤ 256 ^ 65 := by decide
    omega)
  have hsl := Sl.mk (k := .i64) (H := fourH a b c d2) (id := 4) (off := 0) (c := 66) (o := ⟨ns .i64 d2, true, true, true, 1⟩) (l := d2) (by simp [fourH, liveAt]) (by simp [ns_len]) (fun i x hx => by rw [Nat.zero_add]; exact ns_get hx)
  rw [g2] at hsl
  obtain ⟨l, hm⟩ := refMod_ev hsl (by decide) g3
  rw [g4, h4, show dig 256 32 ((num 256 a * num 256 b + num 256 c) % ell) = mA a b c from rfl] at hm
  simp only [mI, cI, dV, fourH, List.cons_append, List.nil_append] at h1 g1 hm
  apply Exists.intro
  rw [evFun_fn (fn := a20) rfl]
  simp only [a20, envOf, evCode_skip, evCode_exit, evCode_seq, fs_blockS, fs_blockR, fs_blockC, fs_blockK, fs_blockB, evCode_ret, quiet, keep_nil, keep_cons, fs_cond, fs_region, fs_regionP, fs_nil, fs_guard, fs_move, fs_pick, fs_alloc, fs_box, fs_load, fs_store, fs_bin, fs_eqv, fs_isNil, fs_un, fs_conv, fs_convStr, fs_field, fs_index, fs_indexStr, fs_build, fs_buildSlice, fs_fieldAddr, fs_indexAddr, fs_indexSl, fs_sliceArr, fs_sliceSl, fs_sliceStr, fs_makeSlice, fs_extract, fs_mkIface, fs_mkFunc, fs_nilCheck, fs_s2ap, fs_len, fs_minmax, fs_s2b, fs_b2s, fs_append, fs_copy, fs_callV, fs_callR, fs_callv, opd_tmp, opd_const, opd_func, opds_nil, opds_cons, opdOpt_none, opdOpt_some, opdParts_nil, opdParts_cons, get_miss, vPick_t, vPick_f, vEq_agg, vEq_aggN, vEq_bool, vEq_boolN, vConv_int, vStr_s, vField_agg, vIndex_agg, vIndexStr_s, vFieldAddr_p, vIndexAddr_p, vIndexSl_s, vSliceArr_p, vSliceSl_s, vSliceSl_n, vSliceStr_s, vExtract_t, vNilCheck_p, vS2ap_s, vLen_s, vLen_str, vMin_i, vMax_i, vLoad_p, vStore_p, baseP_p, vB2s_s, vMake_i, vS2b_s, callee_f, liveAt_eq, storeAt_eq, partL_none, partL_some, natIn_none, natIn_int, bounds3_two, bin_add, bin_sub, bin_mul, bin_quo, bin_rem, bin_and, bin_or, bin_xor, bin_andNot, bin_eql, bin_neq, bin_lss, bin_leq, bin_gtr, bin_geq, bin_shl, bin_shr, bin_sadd, bin_seql, bin_sneq, un_not, un_neg, un_xor, after_some, put_some, put_none, res_nil, res_val, res_var, packed_one, packed_two, merge_nil, merge_ge, rf_tup2, rfIn_int, rfIn_bool, rfIn_u8s, rf_str, rfIn_str, ↓gate_true, ↓guardV_tt, ↓guardV_ff, ↓guardV_tf, ↓guardV_ft, ↓keepV_some, ↓qElse_some, ↓get_hit, ↓Option.bind_some, ↓if_true, ↓if_false, List.nil_append, List.cons_append, List.all_nil, List.all_cons, List.isEmpty_nil, reduceCtorEq, Bool.false_eq_true, Nat.reduceEqDiff, beq_self_eq_true, bne_self_eq_false, Bool.not_true, Bool.not_false, Int.natCast_nonneg, Nat.lt_irrefl, false_and, Int.reduceEq, rf_int, rf_bool, rf_tuple_ints, rf_u8s, arr_list, toList2, Bool.and_self, Nat.not_lt_zero, Nat.sub_zero, Nat.zero_le, Nat.le_add_right, cells_agg, cells_agg_size, cells_int, cells_int_size, okVar, eq_self, wrapI64_small, Int.natCast_zero, Int.natCast_one, Int.cast_ofNat_Int, List.length_nil, List.length_cons, List.getElem?_cons_zero, List.getElem?_cons_succ, List.set_cons_zero, List.set_cons_succ, Nat.zero_add, Nat.add_zero, Nat.mul_one, Nat.zero_mul, Int.toNat_natCast, Int.toNat_zero, Int.lt_irrefl, Int.le_refl, Nat.le_refl, and_self, true_and, and_true, decide_true, decide_false, Int.reduceLE, Int.reduceLT, Int.reduceAdd, Int.reduceMul, Int.reduceSub, Int.reduceTDiv, Int.reduceTMod, Int.reduceNeg, Int.reduceToNat, Int.reduceGT, Int.reduceGE, Int.reducePow, Nat.reduceAdd, Nat.reduceMul, Nat.reduceSub, Nat.reduceDiv, Nat.reduceMod, Nat.reducePow, Nat.reduceLT, Nat.reduceLeDiff, Nat.min_self, ge_iff_le, gt_iff_lt, Option.isNone_none, Option.isSome_none, Option.isNone_some, Option.isSome_some, Bool.and_true, Bool.true_and, Bool.and_false, Bool.false_and, not_true_eq_false, not_false_eq_true, or_true, true_or, false_or, or_false, hget0, hgetK, hset0, hsetK, splice_single, splice_whole, take_whole, List.getElem?_nil, List.length_append, List.append_assoc, Nat.add_assoc, hz, hz66, h1, g1, hm, u8s_len, mA_len, dig_len]
  rfl

/-- Canonical. -/
def caI (a d : List Nat) (i : Int) (ex : Env) : St := ⟨[(1, .pointer (some ⟨0, 0, none⟩)), (3, .slice (some ⟨1, 0, none⟩) 32 32), (4, .int .i64 i)] ++ ex, [⟨u8s a, true, true, true, 1⟩, ⟨ns .i64 d, true, true, true, 1⟩], []⟩
theorem ca_block {a d : List Nat} (la : a.length = 32) (xa : ∀ x ∈ a, x < 256) (hd : d.length = 32) :
    evCode T 0 (.block 0 (.loop a22_l0)) (caI a d 0 []) = some (.normal, caI a a 32 [(7, .bool false)]) := by
  obtain ⟨st, h1, d', rfl, h2, h3⟩ := block_inv (T := T) (base := 0) (id := 0) (body := a22_l0)
    (fun i st => ∃ d' : List Nat, st = caI a d' i [] ∧ d'.length = 32 ∧ ∀ t, t < i → d'[t]? = a[t]?)
    (Q := fun st => ∃ d' : List Nat, st = caI a d' 32 [(7, .bool false)] ∧ d'.length = 32 ∧ ∀ t, t < 32 → d'[t]? = a[t]?)
    32 (s := caI a d 0 []) ⟨d, rfl, hd, fun t ht => by omega⟩
    (fun i st hi hs => by
      obtain ⟨d', rfl, h2, h3⟩ := hs
      obtain ⟨x, hx⟩ : ∃ y, a[i]? = some y := ⟨_, List.getElem?_eq_getElem (by omega)⟩
      have hx' := xa x (List.mem_of_getElem? hx)
      have hxc := u8s_get hx
      have hset := ns_set .i64 d' i x
      have e1 : ((i : Int) < 32) = True := eq_true (by omega)
      have e2 : ((i : Int) < (32 : Int)) = True := eq_true (by omega)
      have w1 : IntKind.i64.wrap ((i : Int) + 1) = ((i + 1 : Nat) : Int) := wrap_nat (n := i + 1) (by omega)
      have w3 : IntKind.i64.wrap (x : Int) = (x : Int) := wrap_nat (by omega)
      have e8 : i + 1 ≤ 32 := by omega
      refine ⟨_, ?_, d'.set i x, rfl, by rw [List.length_set]; exact h2, fun t ht => ?_⟩
      · simp only [caI, a22_l0, envOf, evCode_skip, evCode_exit, evCode_seq, fs_blockS, fs_blockR, fs_blockC, fs_blockK, fs_blockB, evCode_ret, quiet, keep_nil, keep_cons, fs_cond, fs_region, fs_regionP, fs_nil, fs_guard, fs_move, fs_pick, fs_alloc, fs_box, fs_load, fs_store, fs_bin, fs_eqv, fs_isNil, fs_un, fs_conv, fs_convStr, fs_field, fs_index, fs_indexStr, fs_build, fs_buildSlice, fs_fieldAddr, fs_indexAddr, fs_indexSl, fs_sliceArr, fs_sliceSl, fs_sliceStr, fs_makeSlice, fs_extract, fs_mkIface, fs_mkFunc, fs_nilCheck, fs_s2ap, fs_len, fs_minmax, fs_s2b, fs_b2s, fs_append, fs_copy, fs_callV, fs_callR, fs_callv, opd_tmp, opd_const, opd_func, opds_nil, opds_cons, opdOpt_none, opdOpt_some, opdParts_nil, opdParts_cons, get_miss, vPick_t, vPick_f, vEq_agg, vEq_aggN, vEq_bool, vEq_boolN, vConv_int, vStr_s, vField_agg, vIndex_agg, vIndexStr_s, vFieldAddr_p, vIndexAddr_p, vIndexSl_s, vSliceArr_p, vSliceSl_s, vSliceSl_n, vSliceStr_s, vExtract_t, vNilCheck_p, vS2ap_s, vLen_s, vLen_str, vMin_i, vMax_i, vLoad_p, vStore_p, baseP_p, vB2s_s, vMake_i, vS2b_s, callee_f, liveAt_eq, storeAt_eq, partL_none, partL_some, natIn_none, natIn_int, bounds3_two, bin_add, bin_sub, bin_mul, bin_quo, bin_rem, bin_and, bin_or, bin_xor, bin_andNot, bin_eql, bin_neq, bin_lss, bin_leq, bin_gtr, bin_geq, bin_shl, bin_shr, bin_sadd, bin_seql, bin_sneq, un_not, un_neg, un_xor, after_some, put_some, put_none, res_nil, res_val, res_var, packed_one, packed_two, merge_nil, merge_ge, rf_tup2, rfIn_int, rfIn_bool, rfIn_u8s, rf_str, rfIn_str, ↓gate_true, ↓guardV_tt, ↓guardV_ff, ↓guardV_tf, ↓guardV_ft, ↓keepV_some, ↓qElse_some, ↓get_hit, ↓Option.bind_some, ↓if_true, ↓if_false, List.nil_append, List.cons_append, List.all_nil, List.all_cons, List.isEmpty_nil, reduceCtorEq, Bool.false_eq_true, Nat.reduceEqDiff, beq_self_eq_true, bne_self_eq_false, Bool.not_true, Bool.not_false, Int.natCast_nonneg, Nat.lt_irrefl, false_and, Int.reduceEq, rf_int, rf_bool, rf_tuple_ints, rf_u8s, arr_list, toList2, Bool.and_self, Nat.not_lt_zero, Nat.sub_zero, Nat.zero_le, Nat.le_add_right, cells_agg, cells_agg_size, cells_int, cells_int_size, okVar, eq_self, wrapI64_small, Int.natCast_zero, Int.natCast_one, Int.cast_ofNat_Int, List.length_nil, List.length_cons, List.getElem?_cons_zero, List.getElem?_cons_succ, List.set_cons_zero, List.set_cons_succ, Nat.zero_add, Nat.add_zero, Nat.mul_one, Nat.zero_mul, Int.toNat_natCast, Int.toNat_zero, Int.lt_irrefl, Int.le_refl, Nat.le_refl, and_self, true_and, and_true, decide_true, decide_false, Int.reduceLE, Int.reduceLT, Int.reduceAdd, Int.reduceMul, Int.reduceSub, Int.reduceTDiv, Int.reduceTMod, Int.reduceNeg, Int.reduceToNat, Int.reduceGT, Int.reduceGE, Int.reducePow, Nat.reduceAdd, Nat.reduceMul, Nat.reduceSub, Nat.reduceDiv, Nat.reduceMod, Nat.reducePow, Nat.reduceLT, Nat.reduceLeDiff, Nat.min_self, ge_iff_le, gt_iff_lt, Option.isNone_none, Option.isSome_none, Option.isNone_some, Option.isSome_some, Bool.and_true, Bool.true_and, Bool.and_false, Bool.false_and, not_true_eq_false, not_false_eq_true, or_true, true_or, false_or, or_false, hget0, hgetK, hset0, hsetK, splice_single, splice_whole, take_whole, List.getElem?_nil, List.length_append, List.append_assoc, Nat.add_assoc, e1, e2, e8, w1, w3, hxc, hset, ns_len, h2]
      · by_cases hti : t = i
        · subst hti
          rw [List.getElem?_set_self (by omega), hx]
        · rw [List.getElem?_set_ne (by omega)]
          exact h3 t (by omega))
    (fun st hs => by
      obtain ⟨d', rfl, h2, h3⟩ := hs
      refine ⟨_, ?_, d', rfl, h2, h3⟩
      simp only [caI, a22_l0, envOf, evCode_skip, evCode_exit, evCode_seq, fs_blockS, fs_blockR, fs_blockC, fs_blockK, fs_blockB, evCode_ret, quiet, keep_nil, keep_cons, fs_cond, fs_region, fs_regionP, fs_nil, fs_guard, fs_move, fs_pick, fs_alloc, fs_box, fs_load, fs_store, fs_bin, fs_eqv, fs_isNil, fs_un, fs_conv, fs_convStr, fs_field, fs_index, fs_indexStr, fs_build, fs_buildSlice, fs_fieldAddr, fs_indexAddr, fs_indexSl, fs_sliceArr, fs_sliceSl, fs_sliceStr, fs_makeSlice, fs_extract, fs_mkIface, fs_mkFunc, fs_nilCheck, fs_s2ap, fs_len, fs_minmax, fs_s2b, fs_b2s, fs_append, fs_copy, fs_callV, fs_callR, fs_callv, opd_tmp, opd_const, opd_func, opds_nil, opds_cons, opdOpt_none, opdOpt_some, opdParts_nil, opdParts_cons, get_miss, vPick_t, vPick_f, vEq_agg, vEq_aggN, vEq_bool, vEq_boolN, vConv_int, vStr_s, vField_agg, vIndex_agg, vIndexStr_s, vFieldAddr_p, vIndexAddr_p, vIndexSl_s, vSliceArr_p, vSliceSl_s, vSliceSl_n, vSliceStr_s, vExtract_t, vNilCheck_p, vS2ap_s, vLen_s, vLen_str, vMin_i, vMax_i, vLoad_p, vStore_p, baseP_p, vB2s_s, vMake_i, vS2b_s, callee_f, liveAt_eq, storeAt_eq, partL_none, partL_some, natIn_none, natIn_int, bounds3_two, bin_add, bin_sub, bin_mul, bin_quo, bin_rem, bin_and, bin_or, bin_xor, bin_andNot, bin_eql, bin_neq, bin_lss, bin_leq, bin_gtr, bin_geq, bin_shl, bin_shr, bin_sadd, bin_seql, bin_sneq, un_not, un_neg, un_xor, after_some, put_some, put_none, res_nil, res_val, res_var, packed_one, packed_two, merge_nil, merge_ge, rf_tup2, rfIn_int, rfIn_bool, rfIn_u8s, rf_str, rfIn_str, ↓gate_true, ↓guardV_tt, ↓guardV_ff, ↓guardV_tf, ↓guardV_ft, ↓keepV_some, ↓qElse_some, ↓get_hit, ↓Option.bind_some, ↓if_true, ↓if_false, List.nil_append, List.cons_append, List.all_nil, List.all_cons, List.isEmpty_nil, reduceCtorEq, Bool.false_eq_true, Nat.reduceEqDiff, beq_self_eq_true, bne_self_eq_false, Bool.not_true, Bool.not_false, Int.natCast_nonneg, Nat.lt_irrefl, false_and, Int.reduceEq, rf_int, rf_bool, rf_tuple_ints, rf_u8s, arr_list, toList2, Bool.and_self, Nat.not_lt_zero, Nat.sub_zero, Nat.zero_le, Nat.le_add_right, cells_agg, cells_agg_size, cells_int, cells_int_size, okVar, eq_self, wrapI64_small, Int.natCast_zero, Int.natCast_one, Int.cast_ofNat_Int, List.length_nil, List.length_cons, List.getElem?_cons_zero, List.getElem?_cons_succ, List.set_cons_zero, List.set_cons_succ, Nat.zero_add, Nat.add_zero, Nat.mul_one, Nat.zero_mul, Int.toNat_natCast, Int.toNat_zero, Int.lt_irrefl, Int.le_refl, Nat.le_refl, and_self, true_and, and_true, decide_true, decide_false, Int.reduceLE, Int.reduceLT, Int.reduceAdd, Int.reduceMul, Int.reduceSub, Int.reduceTDiv, Int.reduceTMod, Int.reduceNeg, Int.reduceToNat, Int.reduceGT, Int.reduceGE, Int.reducePow, Nat.reduceAdd, Nat.reduceMul, Nat.reduceSub, Nat.reduceDiv, Nat.reduceMod, Nat.reducePow, Nat.reduceLT, Nat.reduceLeDiff, Nat.min_self, ge_iff_le, gt_iff_lt, Option.isNone_none, Option.isSome_none, Option.isNone_some, Option.isSome_some, Bool.and_true, Bool.true_and, Bool.and_false, Bool.false_and, not_true_eq_false, not_false_eq_true, or_true, true_or, false_or, or_false])
  have : d' = a := by
    apply List.ext_getElem?
    intro t
    by_cases ht : t < 32
    · exact h3 t ht
    · rw [List.getElem?_eq_none (by omega), List.getElem?_eq_none (by omega)]
  rw [this] at h1
  exact h1
theorem refCanonical_ev {a : List Nat} (la : a.length = 32) (xa : ∀ x ∈ a, x < 256) : ∃ l, evFun T 22 [.agg (u8s a).toArray] [] = some (.bool (decide (num 256 a < ell)), l, []) := by
  have hz32 : (List.replicate 32 [Value.int .i64 0]).flatten = ns .i64 (List.replicate 32 0) := rfl
  have h1 := ca_block la xa (d := List.replicate 32 0) (by simp)
  obtain ⟨s, l, ho, hg⟩ := order23_ev [⟨u8s a, true, true, true, 1⟩, ⟨ns .i64 a, true, true, true, 1⟩]
  have hsl := Sl.mk (k := .i64) (H := [⟨u8s a, true, true, true, 1⟩, ⟨ns .i64 a, true, true, true, 1⟩] ++ l) (id := 1) (off := 0) (c := 32) (o := ⟨ns .i64 a, true, true, true, 1⟩) (l := a) (by simp [liveAt]) (by simp [ns_len]) (fun i x hx => by rw [Nat.zero_add]; exact ns_get hx)
  rw [la] at hsl
  have hless := refless_ev hsl hg.sl la ordL_len (by decide) (by decide) xa ordL_lt
  rw [ordL_num] at hless
  simp only [caI, List.cons_append, List.nil_append] at h1 ho hless
  apply Exists.intro
  rw [evFun_fn (fn := a22) rfl]
  simp only [a22, envOf, evCode_skip, evCode_exit, evCode_seq, fs_blockS, fs_blockR, fs_blockC, fs_blockK, fs_blockB, evCode_ret, quiet, keep_nil, keep_cons, fs_cond, fs_region, fs_regionP, fs_nil, fs_guard, fs_move, fs_pick, fs_alloc, fs_box, fs_load, fs_store, fs_bin, fs_eqv, fs_isNil, fs_un, fs_conv, fs_convStr, fs_field, fs_index, fs_indexStr, fs_build, fs_buildSlice, fs_fieldAddr, fs_indexAddr, fs_indexSl, fs_sliceArr, fs_sliceSl, fs_sliceStr, fs_makeSlice, fs_extract, fs_mkIface, fs_mkFunc, fs_nilCheck, fs_s2ap, fs_len, fs_minmax, fs_s2b, fs_b2s, fs_append, fs_copy, fs_callV, fs_callR, fs_callv, opd_tmp, opd_const, opd_func, opds_nil, opds_cons, opdOpt_none, opdOpt_some, opdParts_nil, opdParts_cons, get_miss, vPick_t, vPick_f, vEq_agg, vEq_aggN, vEq_bool, vEq_boolN, vConv_int, vStr_s, vField_agg, vIndex_agg, vIndexStr_s, vFieldAddr_p, vIndexAddr_p, vIndexSl_s, vSliceArr_p, vSliceSl_s, vSliceSl_n, vSliceStr_s, vExtract_t, vNilCheck_p, vS2ap_s, vLen_s, vLen_str, vMin_i, vMax_i, vLoad_p, vStore_p, baseP_p, vB2s_s, vMake_i, vS2b_s, callee_f, liveAt_eq, storeAt_eq, partL_none, partL_some, natIn_none, natIn_int, bounds3_two, bin_add, bin_sub, bin_mul, bin_quo, bin_rem, bin_and, bin_or, bin_xor, bin_andNot, bin_eql, bin_neq, bin_lss, bin_leq, bin_gtr, bin_geq, bin_shl, bin_shr, bin_sadd, bin_seql, bin_sneq, un_not, un_neg, un_xor, after_some, put_some, put_none, res_nil, res_val, res_var, packed_one, packed_two, merge_nil, merge_ge, rf_tup2, rfIn_int, rfIn_bool, rfIn_u8s, rf_str, rfIn_str, ↓gate_true, ↓guardV_tt, ↓guardV_ff, ↓guardV_tf, ↓guardV_ft, ↓keepV_some, ↓qElse_some, ↓get_hit, ↓Option.bind_some, ↓if_true, ↓if_false, List.nil_append, List.cons_append, List.all_nil, List.all_cons, List.isEmpty_nil, reduceCtorEq, Bool.false_eq_true, Nat.reduceEqDiff, beq_self_eq_true, bne_self_eq_false, Bool.not_true, Bool.not_false, Int.natCast_nonneg, Nat.lt_irrefl, false_and, Int.reduceEq, rf_int, rf_bool, rf_tuple_ints, rf_u8s, arr_list, toList2, Bool.and_self, Nat.not_lt_zero, Nat.sub_zero, Nat.zero_le, Nat.le_add_right, cells_agg, cells_agg_size, cells_int, cells_int_size, okVar, eq_self, wrapI64_small, Int.natCast_zero, Int.natCast_one, Int.cast_ofNat_Int, List.length_nil, List.length_cons, List.getElem?_cons_zero, List.getElem?_cons_succ, List.set_cons_zero, List.set_cons_succ, Nat.zero_add, Nat.add_zero, Nat.mul_one, Nat.zero_mul, Int.toNat_natCast, Int.toNat_zero, Int.lt_irrefl, Int.le_refl, Nat.le_refl, and_self, true_and, and_true, decide_true, decide_false, Int.reduceLE, Int.reduceLT, Int.reduceAdd, Int.reduceMul, Int.reduceSub, Int.reduceTDiv, Int.reduceTMod, Int.reduceNeg, Int.reduceToNat, Int.reduceGT, Int.reduceGE, Int.reducePow, Nat.reduceAdd, Nat.reduceMul, Nat.reduceSub, Nat.reduceDiv, Nat.reduceMod, Nat.reducePow, Nat.reduceLT, Nat.reduceLeDiff, Nat.min_self, ge_iff_le, gt_iff_lt, Option.isNone_none, Option.isSome_none, Option.isNone_some, Option.isSome_some, Bool.and_true, Bool.true_and, Bool.and_false, Bool.false_and, not_true_eq_false, not_false_eq_true, or_true, true_or, false_or, or_false, hget0, hgetK, hset0, hsetK, splice_single, splice_whole, take_whole, List.getElem?_nil, List.length_append, List.append_assoc, Nat.add_assoc, hz32, h1, ho, hless]
  rfl

theorem sums_ev {a b c : List Nat} (la : a.length = 32) (xa : ∀ x ∈ a, x < 256) (lb : b.length = 32) (xb : ∀ x ∈ b, x < 256) (lc : c.length = 32) (xc : ∀ x ∈ c, x < 256) : ∃ l, evFun T 5 [.agg (u8s a).toArray, .agg (u8s b).toArray, .agg (u8s c).toArray] [] = some (.bool true, l, []) := by
  obtain ⟨q1, h1⟩ := mulAdd_mA la lb lc xa xb xc
  obtain ⟨q2, h2⟩ := refMulAdd_ev la lb lc xa xb xc
  obtain ⟨q3, h3⟩ := canonical_ev la xa
  obtain ⟨q4, h4⟩ := refCanonical_ev la xa
  have hc := counts_ev
  apply Exists.intro
  rw [evFun_fn (fn := a5) rfl]
  simp only [a5, envOf, evCode_skip, evCode_exit, evCode_seq, fs_blockS, fs_blockR, fs_blockC, fs_blockK, fs_blockB, evCode_ret, quiet, keep_nil, keep_cons, fs_cond, fs_region, fs_regionP, fs_nil, fs_guard, fs_move, fs_pick, fs_alloc, fs_box, fs_load, fs_store, fs_bin, fs_eqv, fs_isNil, fs_un, fs_conv, fs_convStr, fs_field, fs_index, fs_indexStr, fs_build, fs_buildSlice, fs_fieldAddr, fs_indexAddr, fs_indexSl, fs_sliceArr, fs_sliceSl, fs_sliceStr, fs_makeSlice, fs_extract, fs_mkIface, fs_mkFunc, fs_nilCheck, fs_s2ap, fs_len, fs_minmax, fs_s2b, fs_b2s, fs_append, fs_copy, fs_callV, fs_callR, fs_callv, opd_tmp, opd_const, opd_func, opds_nil, opds_cons, opdOpt_none, opdOpt_some, opdParts_nil, opdParts_cons, get_miss, vPick_t, vPick_f, vEq_agg, vEq_aggN, vEq_bool, vEq_boolN, vConv_int, vStr_s, vField_agg, vIndex_agg, vIndexStr_s, vFieldAddr_p, vIndexAddr_p, vIndexSl_s, vSliceArr_p, vSliceSl_s, vSliceSl_n, vSliceStr_s, vExtract_t, vNilCheck_p, vS2ap_s, vLen_s, vLen_str, vMin_i, vMax_i, vLoad_p, vStore_p, baseP_p, vB2s_s, vMake_i, vS2b_s, callee_f, liveAt_eq, storeAt_eq, partL_none, partL_some, natIn_none, natIn_int, bounds3_two, bin_add, bin_sub, bin_mul, bin_quo, bin_rem, bin_and, bin_or, bin_xor, bin_andNot, bin_eql, bin_neq, bin_lss, bin_leq, bin_gtr, bin_geq, bin_shl, bin_shr, bin_sadd, bin_seql, bin_sneq, un_not, un_neg, un_xor, after_some, put_some, put_none, res_nil, res_val, res_var, packed_one, packed_two, merge_nil, merge_ge, rf_tup2, rfIn_int, rfIn_bool, rfIn_u8s, rf_str, rfIn_str, ↓gate_true, ↓guardV_tt, ↓guardV_ff, ↓guardV_tf, ↓guardV_ft, ↓keepV_some, ↓qElse_some, ↓get_hit, ↓Option.bind_some, ↓if_true, ↓if_false, List.nil_append, List.cons_append, List.all_nil, List.all_cons, List.isEmpty_nil, reduceCtorEq, Bool.false_eq_true, Nat.reduceEqDiff, beq_self_eq_true, bne_self_eq_false, Bool.not_true, Bool.not_false, Int.natCast_nonneg, Nat.lt_irrefl, false_and, Int.reduceEq, rf_int, rf_bool, rf_tuple_ints, rf_u8s, arr_list, toList2, Bool.and_self, Nat.not_lt_zero, Nat.sub_zero, Nat.zero_le, Nat.le_add_right, cells_agg, cells_agg_size, cells_int, cells_int_size, okVar, eq_self, wrapI64_small, Int.natCast_zero, Int.natCast_one, Int.cast_ofNat_Int, List.length_nil, List.length_cons, List.getElem?_cons_zero, List.getElem?_cons_succ, List.set_cons_zero, List.set_cons_succ, Nat.zero_add, Nat.add_zero, Nat.mul_one, Nat.zero_mul, Int.toNat_natCast, Int.toNat_zero, Int.lt_irrefl, Int.le_refl, Nat.le_refl, and_self, true_and, and_true, decide_true, decide_false, Int.reduceLE, Int.reduceLT, Int.reduceAdd, Int.reduceMul, Int.reduceSub, Int.reduceTDiv, Int.reduceTMod, Int.reduceNeg, Int.reduceToNat, Int.reduceGT, Int.reduceGE, Int.reducePow, Nat.reduceAdd, Nat.reduceMul, Nat.reduceSub, Nat.reduceDiv, Nat.reduceMod, Nat.reducePow, Nat.reduceLT, Nat.reduceLeDiff, Nat.min_self, ge_iff_le, gt_iff_lt, Option.isNone_none, Option.isSome_none, Option.isNone_some, Option.isSome_some, Bool.and_true, Bool.true_and, Bool.and_false, Bool.false_and, not_true_eq_false, not_false_eq_true, or_true, true_or, false_or, or_false, hget0, hgetK, hset0, hsetK, splice_single, splice_whole, take_whole, List.getElem?_nil, List.length_append, List.append_assoc, Nat.add_assoc, la, lb, lc, u8s_len, mA_len, hc, h1, h2, h3, h4, cellsEq_u8]
  rfl
end Go.Ev.Ytaceeoghjgggjaa

/-
  intaglioref04.Reduce; ScalarLeft, as the evaluator reads it, answers true.
-/
set_option linter.unusedSimpArgs false
set_option linter.unusedVariables false
namespace Go.Ev
/-- Bytes as a text. -/
def strV (bs : List Nat) : Value := .string ⟨(bs.map UInt8.ofNat).toArray⟩
theorem strV_len {bs : List Nat} : vLen true (strV bs) = some (.int .i64 bs.length) := by simp [strV, vLen, ByteArray.size]
theorem strV_rf {bs : List Nat} : rf (strV bs) = true := rfl
theorem strV_index {bs : List Nat} {i x : Nat} (h : bs[i]? = some x) (hx : x < 256) : vIndexStr (strV bs) (.int .i64 i) = some (.int .u8 (x : Nat)) := by
  have h1 : ((bs.map UInt8.ofNat).toArray.toList)[i]? = some (UInt8.ofNat x) := by simp [h]
  have h2 : ((0 : Int) ≤ (i : Int)) := by omega
  have h3 : (UInt8.ofNat x).toNat = x := by rw [UInt8.toNat_ofNat']; omega
  simp only [strV, vIndexStr, h2, if_true, Int.toNat_natCast, h1, Option.bind_some, h3]
theorem bytes_of : ∀ (bs : List Nat), bytesOfCells (u8s bs) = some (bs.map UInt8.ofNat)
  | [] => rfl
  | x :: r => by
    have := bytes_of r
    simp only [u8s, List.map_cons, bytesOfCells, Int.toNat_natCast] at this ⊢
    rw [this]; rfl
theorem b2s_strV {H : List Ob} {v : Value} {bs : List Nat} (h : Sl .u8 H v bs) : vB2s H v = some (strV bs) := by
  have h1 := h.elems
  have h2 : ns .u8 bs = u8s bs := rfl
  cases h with
  | nil => rfl
  | mk a b c => simp only [vB2s, h1, h2, Option.bind_some, bytes_of]; rfl
end Go.Ev
namespace Go.Ev.Ytaceeoghjgggjaa
open Go Go.Ev
attribute [local congr] bind_congr2 ite_congr2 qElse_congr gate_congr guardV_congr
set_option maxRecDepth 100000

def rrI (bs d : List Nat) (n : Nat) (i : Int) (ex : Env) : St := ⟨[(0, strV bs), (2, .pointer (some ⟨0, 0, none⟩)), (3, .slice (some ⟨1, 0, none⟩) n n), (4, .int .i64 i)] ++ ex, [⟨u8s (dig 256 32 0), true, true, true, 1⟩, ⟨ns .i64 d, true, true, true, 1⟩], []⟩
theorem rr_block {bs d : List Nat} {n : Nat} (hn : bs.length = n) (hN : n < 2 ^ 40) (xb : ∀ x ∈ bs, x < 256) (hd : d.length = n) :
    evCode T 0 (.block 0 (.loop a18_l0)) (rrI bs d n 0 []) = some (.normal, rrI bs bs n n [(11, .bool false)]) := by
  obtain ⟨st, h1, d', rfl, h2, h3⟩ := block_inv (T := T) (base := 0) (id := 0) (body := a18_l0)
    (fun i st => ∃ d' : List Nat, st = rrI bs d' n i [] ∧ d'.length = n ∧ ∀ t, t < i → d'[t]? = bs[t]?)
    (Q := fun st => ∃ d' : List Nat, st = rrI bs d' n n [(11, .bool false)] ∧ d'.length = n ∧ ∀ t, t < n → d'[t]? = bs[t]?)
    n (s := rrI bs d n 0 []) ⟨d, rfl, hd, fun t ht => by omega⟩
    (fun i st hi hs => by
      obtain ⟨d', rfl, h2, h3⟩ := hs
      obtain ⟨x, hx⟩ : ∃ y, bs[i]? = some y := ⟨_, List.getElem?_eq_getElem (by omega)⟩
      have hx' := xb x (List.mem_of_getElem? hx)
      have hxi := strV_index hx hx'
      have hset := ns_set .i64 d' i x
      have hl := strV_len (bs := bs)
      rw [hn] at hl
      have e1 : ((i : Int) < (n : Int)) = True := eq_true (by omega)
      have w1 : IntKind.i64.wrap ((i : Int) + 1) = ((i + 1 : Nat) : Int) := wrap_nat (n := i + 1) (by omega)
      have w3 : IntKind.i64.wrap (x : Int) = (x : Int) := wrap_nat (by omega)
      have e8 : i + 1 ≤ n := by omega
      refine ⟨_, ?_, d'.set i x, rfl, by rw [List.length_set]; exact h2, fun t ht => ?_⟩
      · simp only [rrI, a18_l0, envOf, evCode_skip, evCode_exit, evCode_seq, fs_blockS, fs_blockR, fs_blockC, fs_blockK, fs_blockB, evCode_ret, quiet, keep_nil, keep_cons, fs_cond, fs_region, fs_regionP, fs_nil, fs_guard, fs_move, fs_pick, fs_alloc, fs_box, fs_load, fs_store, fs_bin, fs_eqv, fs_isNil, fs_un, fs_conv, fs_convStr, fs_field, fs_index, fs_indexStr, fs_build, fs_buildSlice, fs_fieldAddr, fs_indexAddr, fs_indexSl, fs_sliceArr, fs_sliceSl, fs_sliceStr, fs_makeSlice, fs_extract, fs_mkIface, fs_mkFunc, fs_nilCheck, fs_s2ap, fs_len, fs_minmax, fs_s2b, fs_b2s, fs_append, fs_copy, fs_callV, fs_callR, fs_callv, opd_tmp, opd_const, opd_func, opds_nil, opds_cons, opdOpt_none, opdOpt_some, opdParts_nil, opdParts_cons, get_miss, vPick_t, vPick_f, vEq_agg, vEq_aggN, vEq_bool, vEq_boolN, vConv_int, vStr_s, vField_agg, vIndex_agg, vIndexStr_s, vFieldAddr_p, vIndexAddr_p, vIndexSl_s, vSliceArr_p, vSliceSl_s, vSliceSl_n, vSliceStr_s, vExtract_t, vNilCheck_p, vS2ap_s, vLen_s, vLen_str, vMin_i, vMax_i, vLoad_p, vStore_p, baseP_p, vB2s_s, vMake_i, vS2b_s, callee_f, liveAt_eq, storeAt_eq, partL_none, partL_some, natIn_none, natIn_int, bounds3_two, bin_add, bin_sub, bin_mul, bin_quo, bin_rem, bin_and, bin_or, bin_xor, bin_andNot, bin_eql, bin_neq, bin_lss, bin_leq, bin_gtr, bin_geq, bin_shl, bin_shr, bin_sadd, bin_seql, bin_sneq, un_not, un_neg, un_xor, after_some, put_some, put_none, res_nil, res_val, res_var, packed_one, packed_two, merge_nil, merge_ge, rf_tup2, rfIn_int, rfIn_bool, rfIn_u8s, rf_str, rfIn_str, ↓gate_true, ↓guardV_tt, ↓guardV_ff, ↓guardV_tf, ↓guardV_ft, ↓keepV_some, ↓qElse_some, ↓get_hit, ↓Option.bind_some, ↓if_true, ↓if_false, List.nil_append, List.cons_append, List.all_nil, List.all_cons, List.isEmpty_nil, reduceCtorEq, Bool.false_eq_true, Nat.reduceEqDiff, beq_self_eq_true, bne_self_eq_false, Bool.not_true, Bool.not_false, Int.natCast_nonneg, Nat.lt_irrefl, false_and, Int.reduceEq, rf_int, rf_bool, rf_tuple_ints, rf_u8s, arr_list, toList2, Bool.and_self, Nat.not_lt_zero, Nat.sub_zero, Nat.zero_le, Nat.le_add_right, cells_agg, cells_agg_size, cells_int, cells_int_size, okVar, eq_self, wrapI64_small, Int.natCast_zero, Int.natCast_one, Int.cast_ofNat_Int, List.length_nil, List.length_cons, List.getElem?_cons_zero, List.getElem?_cons_succ, List.set_cons_zero, List.set_cons_succ, Nat.zero_add, Nat.add_zero, Nat.mul_one, Nat.zero_mul, Int.toNat_natCast, Int.toNat_zero, Int.lt_irrefl, Int.le_refl, Nat.le_refl, and_self, true_and, and_true, decide_true, decide_false, Int.reduceLE, Int.reduceLT, Int.reduceAdd, Int.reduceMul, Int.reduceSub, Int.reduceTDiv, Int.reduceTMod, Int.reduceNeg, Int.reduceToNat, Int.reduceGT, Int.reduceGE, Int.reducePow, Nat.reduceAdd, Nat.reduceMul, Nat.reduceSub, Nat.reduceDiv, Nat.reduceMod, Nat.reducePow, Nat.reduceLT, Nat.reduceLeDiff, Nat.min_self, ge_iff_le, gt_iff_lt, Option.isNone_none, Option.isSome_none, Option.isNone_some, Option.isSome_some, Bool.and_true, Bool.true_and, Bool.and_false, Bool.false_and, not_true_eq_false, not_false_eq_true, or_true, true_or, false_or, or_false, hget0, hgetK, hset0, hsetK, splice_single, splice_whole, take_whole, List.getElem?_nil, List.length_append, List.append_assoc, Nat.add_assoc, hl, hxi, e1, e8, w1, w3, hset, ns_len, h2]
      · by_cases hti : t = i
        · subst hti
          rw [List.getElem?_set_self (by omega), hx]
        · rw [List.getElem?_set_ne (by omega)]
          exact h3 t (by omega))
    (fun st hs => by
      obtain ⟨d', rfl, h2, h3⟩ := hs
      have hl := strV_len (bs := bs)
      rw [hn] at hl
      refine ⟨_, ?_, d', rfl, h2, h3⟩
      simp only [rrI, a18_l0, envOf, evCode_skip, evCode_exit, evCode_seq, fs_blockS, fs_blockR, fs_blockC, fs_blockK, fs_blockB, evCode_ret, quiet, keep_nil, keep_cons, fs_cond, fs_region, fs_regionP, fs_nil, fs_guard, fs_move, fs_pick, fs_alloc, fs_box, fs_load, fs_store, fs_bin, fs_eqv, fs_isNil, fs_un, fs_conv, fs_convStr, fs_field, fs_index, fs_indexStr, fs_build, fs_buildSlice, fs_fieldAddr, fs_indexAddr, fs_indexSl, fs_sliceArr, fs_sliceSl, fs_sliceStr, fs_makeSlice, fs_extract, fs_mkIface, fs_mkFunc, fs_nilCheck, fs_s2ap, fs_len, fs_minmax, fs_s2b, fs_b2s, fs_append, fs_copy, fs_callV, fs_callR, fs_callv, opd_tmp, opd_const, opd_func, opds_nil, opds_cons, opdOpt_none, opdOpt_some, opdParts_nil, opdParts_cons, get_miss, vPick_t, vPick_f, vEq_agg, vEq_aggN, vEq_bool, vEq_boolN, vConv_int, vStr_s, vField_agg, vIndex_agg, vIndexStr_s, vFieldAddr_p, vIndexAddr_p, vIndexSl_s, vSliceArr_p, vSliceSl_s, vSliceSl_n, vSliceStr_s, vExtract_t, vNilCheck_p, vS2ap_s, vLen_s, vLen_str, vMin_i, vMax_i, vLoad_p, vStore_p, baseP_p, vB2s_s, vMake_i, vS2b_s, callee_f, liveAt_eq, storeAt_eq, partL_none, partL_some, natIn_none, natIn_int, bounds3_two, bin_add, bin_sub, bin_mul, bin_quo, bin_rem, bin_and, bin_or, bin_xor, bin_andNot, bin_eql, bin_neq, bin_lss, bin_leq, bin_gtr, bin_geq, bin_shl, bin_shr, bin_sadd, bin_seql, bin_sneq, un_not, un_neg, un_xor, after_some, put_some, put_none, res_nil, res_val, res_var, packed_one, packed_two, merge_nil, merge_ge, rf_tup2, rfIn_int, rfIn_bool, rfIn_u8s, rf_str, rfIn_str, ↓gate_true, ↓guardV_tt, ↓guardV_ff, ↓guardV_tf, ↓guardV_ft, ↓keepV_some, ↓qElse_some, ↓get_hit, ↓Option.bind_some, ↓if_true, ↓if_false, List.nil_append, List.cons_append, List.all_nil, List.all_cons, List.isEmpty_nil, reduceCtorEq, Bool.false_eq_true, Nat.reduceEqDiff, beq_self_eq_true, bne_self_eq_false, Bool.not_true, Bool.not_false, Int.natCast_nonneg, Nat.lt_irrefl, false_and, Int.reduceEq, rf_int, rf_bool, rf_tuple_ints, rf_u8s, arr_list, toList2, Bool.and_self, Nat.not_lt_zero, Nat.sub_zero, Nat.zero_le, Nat.le_add_right, cells_agg, cells_agg_size, cells_int, cells_int_size, okVar, eq_self, wrapI64_small, Int.natCast_zero, Int.natCast_one, Int.cast_ofNat_Int, List.length_nil, List.length_cons, List.getElem?_cons_zero, List.getElem?_cons_succ, List.set_cons_zero, List.set_cons_succ, Nat.zero_add, Nat.add_zero, Nat.mul_one, Nat.zero_mul, Int.toNat_natCast, Int.toNat_zero, Int.lt_irrefl, Int.le_refl, Nat.le_refl, and_self, true_and, and_true, decide_true, decide_false, Int.reduceLE, Int.reduceLT, Int.reduceAdd, Int.reduceMul, Int.reduceSub, Int.reduceTDiv, Int.reduceTMod, Int.reduceNeg, Int.reduceToNat, Int.reduceGT, Int.reduceGE, Int.reducePow, Nat.reduceAdd, Nat.reduceMul, Nat.reduceSub, Nat.reduceDiv, Nat.reduceMod, Nat.reducePow, Nat.reduceLT, Nat.reduceLeDiff, Nat.min_self, ge_iff_le, gt_iff_lt, Option.isNone_none, Option.isSome_none, Option.isNone_some, Option.isSome_some, Bool.and_true, Bool.true_and, Bool.and_false, Bool.false_and, not_true_eq_false, not_false_eq_true, or_true, true_or, false_or, or_false, hl])
  have : d' = bs := by
    apply List.ext_getElem?
    intro t
    by_cases ht : t < n
    · exact h3 t ht
    · rw [List.getElem?_eq_none (by omega), List.getElem?_eq_none (by omega)]
  rw [this] at h1
  exact h1
theorem zeros_flat (n : Nat) : (List.replicate n [Value.int .i64 0]).flatten = ns .i64 (List.replicate n 0) := by
  induction n with
  | zero => rfl
  | succ n ih => rw [List.replicate_succ, List.flatten_cons, ih, List.replicate_succ]; rfl
theorem refReduce_ev {bs : List Nat} {n : Nat} (hn : bs.length = n) (hN : n < 2 ^ 40) (xb : ∀ x ∈ bs, x < 256) : ∃ l, evFun T 18 [strV bs] [] = some (.agg (u8s (rd bs)).toArray, l, []) := by
  have hz : List.replicate 32 (Value.int .u8 0) = u8s (dig 256 32 0) := rfl
  have hl := strV_len (bs := bs)
  rw [hn] at hl
  have h1 := rr_block hn hN xb (d := List.replicate n 0) (by simp)
  have hsl := Sl.mk (k := .i64) (H := [⟨u8s (dig 256 32 0), true, true, true, 1⟩, ⟨ns .i64 bs, true, true, true, 1⟩]) (id := 1) (off := 0) (c := n) (o := ⟨ns .i64 bs, true, true, true, 1⟩) (l := bs) (by simp [liveAt]) (by simp [ns_len]) (fun i x hx => by rw [Nat.zero_add]; exact ns_get hx)
  rw [hn] at hsl
  obtain ⟨l, hm⟩ := refMod_ev hsl hN xb
  rw [rd_def] at hm
  have e1 : ((n : Int) * ((8 : Nat) : Int) ≤ 2 ^ 47) = True := eq_true (by omega)
  simp only [Int.cast_ofNat_Int, Int.reducePow] at e1
  simp only [rrI, List.cons_append, List.nil_append, Int.natCast_zero] at h1 hm
  apply Exists.intro
  rw [evFun_fn (fn := a18) rfl]
  simp only [a18, envOf, evCode_skip, evCode_exit, evCode_seq, fs_blockS, fs_blockR, fs_blockC, fs_blockK, fs_blockB, evCode_ret, quiet, keep_nil, keep_cons, fs_cond, fs_region, fs_regionP, fs_nil, fs_guard, fs_move, fs_pick, fs_alloc, fs_box, fs_load, fs_store, fs_bin, fs_eqv, fs_isNil, fs_un, fs_conv, fs_convStr, fs_field, fs_index, fs_indexStr, fs_build, fs_buildSlice, fs_fieldAddr, fs_indexAddr, fs_indexSl, fs_sliceArr, fs_sliceSl, fs_sliceStr, fs_makeSlice, fs_extract, fs_mkIface, fs_mkFunc, fs_nilCheck, fs_s2ap, fs_len, fs_minmax, fs_s2b, fs_b2s, fs_append, fs_copy, fs_callV, fs_callR, fs_callv, opd_tmp, opd_const, opd_func, opds_nil, opds_cons, opdOpt_none, opdOpt_some, opdParts_nil, opdParts_cons, get_miss, vPick_t, vPick_f, vEq_agg, vEq_aggN, vEq_bool, vEq_boolN, vConv_int, vStr_s, vField_agg, vIndex_agg, vIndexStr_s, vFieldAddr_p, vIndexAddr_p, vIndexSl_s, vSliceArr_p, vSliceSl_s, vSliceSl_n, vSliceStr_s, vExtract_t, vNilCheck_p, vS2ap_s, vLen_s, vLen_str, vMin_i, vMax_i, vLoad_p, vStore_p, baseP_p, vB2s_s, vMake_i, vS2b_s, callee_f, liveAt_eq, storeAt_eq, partL_none, partL_some, natIn_none, natIn_int, bounds3_two, bin_add, bin_sub, bin_mul, bin_quo, bin_rem, bin_and, bin_or, bin_xor, bin_andNot, bin_eql, bin_neq, bin_lss, bin_leq, bin_gtr, bin_geq, bin_shl, bin_shr, bin_sadd, bin_seql, bin_sneq, un_not, un_neg, un_xor, after_some, put_some, put_none, res_nil, res_val, res_var, packed_one, packed_two, merge_nil, merge_ge, rf_tup2, rfIn_int, rfIn_bool, rfIn_u8s, rf_str, rfIn_str, ↓gate_true, ↓guardV_tt, ↓guardV_ff, ↓guardV_tf, ↓guardV_ft, ↓keepV_some, ↓qElse_some, ↓get_hit, ↓Option.bind_some, ↓if_true, ↓if_false, List.nil_append, List.cons_append, List.all_nil, List.all_cons, List.isEmpty_nil, reduceCtorEq, Bool.false_eq_true, Nat.reduceEqDiff, beq_self_eq_true, bne_self_eq_false, Bool.not_true, Bool.not_false, Int.natCast_nonneg, Nat.lt_irrefl, false_and, Int.reduceEq, rf_int, rf_bool, rf_tuple_ints, rf_u8s, arr_list, toList2, Bool.and_self, Nat.not_lt_zero, Nat.sub_zero, Nat.zero_le, Nat.le_add_right, cells_agg, cells_agg_size, cells_int, cells_int_size, okVar, eq_self, wrapI64_small, Int.natCast_zero, Int.natCast_one, Int.cast_ofNat_Int, List.length_nil, List.length_cons, List.getElem?_cons_zero, List.getElem?_cons_succ, List.set_cons_zero, List.set_cons_succ, Nat.zero_add, Nat.add_zero, Nat.mul_one, Nat.zero_mul, Int.toNat_natCast, Int.toNat_zero, Int.lt_irrefl, Int.le_refl, Nat.le_refl, and_self, true_and, and_true, decide_true, decide_false, Int.reduceLE, Int.reduceLT, Int.reduceAdd, Int.reduceMul, Int.reduceSub, Int.reduceTDiv, Int.reduceTMod, Int.reduceNeg, Int.reduceToNat, Int.reduceGT, Int.reduceGE, Int.reducePow, Nat.reduceAdd, Nat.reduceMul, Nat.reduceSub, Nat.reduceDiv, Nat.reduceMod, Nat.reducePow, Nat.reduceLT, Nat.reduceLeDiff, Nat.min_self, ge_iff_le, gt_iff_lt, Option.isNone_none, Option.isSome_none, Option.isNone_some, Option.isSome_some, Bool.and_true, Bool.true_and, Bool.and_false, Bool.false_and, not_true_eq_false, not_false_eq_true, or_true, true_or, false_or, or_false, hget0, hgetK, hset0, hsetK, splice_single, splice_whole, take_whole, List.getElem?_nil, List.length_append, List.append_assoc, Nat.add_assoc, hz, hl, e1, zeros_flat, h1, hm, u8s_len, rd_len, dig_len]
  rfl

/-- The law, with the bytes in an object that isn't the call's. -/
theorem sl_part {H : List Ob} {l : List Nat} {a b : Nat} {c : Nat} (h : liveAt H 0 = some ⟨u8s l, true, false, false, 1⟩) (hb : a + b ≤ l.length) : Sl .u8 H (.slice (some ⟨0, a, none⟩) b c) ((l.drop a).take b) := by
  have hlen : ((l.drop a).take b).length = b := by rw [List.length_take, List.length_drop]; omega
  have := Sl.mk (k := .u8) (H := H) (id := 0) (off := a) (c := c) (o := ⟨u8s l, true, false, false, 1⟩) (l := (l.drop a).take b) h (by rw [hlen]; simp [u8s_len]; exact hb) (fun i x hx => by
    rw [List.getElem?_take] at hx
    split at hx
    · rw [List.getElem?_drop] at hx
      exact u8s_get hx
    · cases hx)
  rwa [hlen] at this

theorem two_parts {H : List Ob} {pid : Nat} {v1 v2 : Value} {p1 p2 : List Nat} (h1 : Sl .u8 H v1 p1) (h2 : Sl .u8 H v2 p2) (h : liveAt H pid = some ⟨[v1, v2], true, true, true, 1⟩) : Parts .u8 H pid 0 [p1, p2] :=
  ⟨_, h, fun i p hp => by
    rcases i with _ | _ | i <;> simp at hp
    · subst hp; exact ⟨_, rfl, h1⟩
    · subst hp; exact ⟨_, rfl, h2⟩⟩

theorem left_some {l : List Nat} {n : Nat} (ln : l.length = n) (xl : ∀ x ∈ l, x < 256) (hn : n ≤ maxLen) (at_ : Int) (h1 : IntKind.i64.min ≤ at_) (h2 : at_ ≤ IntKind.i64.max) : ∃ H', evFun T 4 [.slice (some ⟨0, 0, none⟩) n n, .int .i64 at_] [⟨u8s l, true, false, false, 1⟩] = some (.bool true, H', []) := by
  obtain ⟨m, hm⟩ : ∃ m, m = min n 200 := ⟨_, rfl⟩
  have hmn : m ≤ n := by omega
  have hm2 : m ≤ 200 := by omega
  have hmin : (if (200 : Int) < (n : Int) then (200 : Int) else (n : Int)) = (m : Int) := by split <;> omega
  have e1 : ((m : Int) ≤ (n : Int)) = True := eq_true (by omega)
  have hc := counts_ev
  have key : ∀ (k : Nat) (ex : Env), k ≤ m → ∃ H', steps T 1 true [(AOper.mk (some 20) (.move (.tmp 0)) none), (AOper.mk (some 21) (.move (.tmp 1)) none), (AOper.mk (some 22) (.sliceSl 1 (.tmp 20) none (some (.tmp 21)) none) none), (AOper.mk (some 23) (.move (.tmp 0)) none), (AOper.mk (some 24) (.move (.tmp 1)) none), (AOper.mk (some 25) (.sliceSl 1 (.tmp 23) (some (.tmp 24)) none none) none), (AOper.mk (some 26) (.buildSlice [(.slice none 0 0), (.slice none 0 0)] 2 [(0, (1, (.tmp 22))), (1, (1, (.tmp 25)))]) none), (AOper.mk (some 27) (.call 17 [(.tmp 26)] false) none), (AOper.mk (some 28) (.move (.tmp 0)) none), (AOper.mk (some 29) (.b2s (.tmp 28)) none), (AOper.mk (some 30) (.call 18 [(.tmp 29)] true) none), (AOper.mk (some 31) (.eqv (some (List.replicate 32 true)) false (.tmp 27) (.tmp 30)) none), (AOper.mk (some 4) (.move (.tmp 31)) none)]
      ⟨(0, .slice (some ⟨0, 0, none⟩) m n) :: (1, .int .i64 k) :: ex, [⟨u8s l, true, false, false, 1⟩], []⟩ = some H' ∧ H'.after (some [4]) = ⟨[(4, .bool true)], H'.h, []⟩ := by
    intro k ex hk
    have e2 : ((k : Int) ≤ (n : Int)) = True := eq_true (by omega)
    have e3 : ((k : Int) ≤ (m : Int)) = True := eq_true (by omega)
    have hf : fillL [Value.slice none 0 0, Value.slice none 0 0] [(0, 1, .slice (some ⟨0, 0, none⟩) k n), (1, 1, .slice (some ⟨0, k, none⟩) (m - k) (n - k))] = some [.slice (some ⟨0, 0, none⟩) k n, .slice (some ⟨0, k, none⟩) (m - k) (n - k)] := rfl
    have hL : ((l.drop 0).take k) ++ ((l.drop k).take (m - k)) = l.take m := by
      rw [List.drop_zero, show m = k + (m - k) by omega, List.take_add, show k + (m - k) - k = m - k by omega]
    have xL : ∀ x ∈ l.take m, x < 256 := fun x hx => xl x (List.mem_of_mem_take hx)
    have lL : (l.take m).length = m := by rw [List.length_take]; omega
    obtain ⟨g, hr⟩ := reduce_ev (H := [⟨u8s l, true, false, false, 1⟩, ⟨[.slice (some ⟨0, 0, none⟩) k n, .slice (some ⟨0, k, none⟩) (m - k) (n - k)], true, true, true, 1⟩]) (id := 1) (off := 0) (c := 2) (n := 2)
      (two_parts (sl_part (l := l) (a := 0) (b := k) rfl (by omega)) (sl_part (l := l) (a := k) (b := m - k) rfl (by omega)) rfl) rfl (by decide) (by simp only [List.flatten_cons, List.flatten_nil, List.append_nil, hL, lL]; omega) (by simp only [List.flatten_cons, List.flatten_nil, List.append_nil, hL]; exact xL)
    simp only [List.flatten_cons, List.flatten_nil, List.append_nil, hL, rd_def, List.cons_append, List.nil_append] at hr
    have hb := b2s_strV (sl_part (H := ⟨u8s l, true, false, false, 1⟩ :: ⟨[.slice (some ⟨0, 0, none⟩) k n, .slice (some ⟨0, k, none⟩) (m - k) (n - k)], true, true, true, 1⟩ :: g) (l := l) (a := 0) (b := m) (c := n) rfl (by omega))
    rw [List.drop_zero] at hb
    obtain ⟨q, h18⟩ := refReduce_ev lL (by omega) xL
    apply Exists.intro
    constructor
    · simp only [envOf, evCode_skip, evCode_exit, evCode_seq, fs_blockS, fs_blockR, fs_blockC, fs_blockK, fs_blockB, evCode_ret, quiet, keep_nil, keep_cons, fs_cond, fs_region, fs_regionP, fs_nil, fs_guard, fs_move, fs_pick, fs_alloc, fs_box, fs_load, fs_store, fs_bin, fs_eqv, fs_isNil, fs_un, fs_conv, fs_convStr, fs_field, fs_index, fs_indexStr, fs_build, fs_buildSlice, fs_fieldAddr, fs_indexAddr, fs_indexSl, fs_sliceArr, fs_sliceSl, fs_sliceStr, fs_makeSlice, fs_extract, fs_mkIface, fs_mkFunc, fs_nilCheck, fs_s2ap, fs_len, fs_minmax, fs_s2b, fs_b2s, fs_append, fs_copy, fs_callV, fs_callR, fs_callv, opd_tmp, opd_const, opd_func, opds_nil, opds_cons, opdOpt_none, opdOpt_some, opdParts_nil, opdParts_cons, get_miss, vPick_t, vPick_f, vEq_agg, vEq_aggN, vEq_bool, vEq_boolN, vConv_int, vStr_s, vField_agg, vIndex_agg, vIndexStr_s, vFieldAddr_p, vIndexAddr_p, vIndexSl_s, vSliceArr_p, vSliceSl_s, vSliceSl_n, vSliceStr_s, vExtract_t, vNilCheck_p, vS2ap_s, vLen_s, vLen_str, vMin_i, vMax_i, vLoad_p, vStore_p, baseP_p, vB2s_s, vMake_i, vS2b_s, callee_f, liveAt_eq, storeAt_eq, partL_none, partL_some, natIn_none, natIn_int, bounds3_two, bin_add, bin_sub, bin_mul, bin_quo, bin_rem, bin_and, bin_or, bin_xor, bin_andNot, bin_eql, bin_neq, bin_lss, bin_leq, bin_gtr, bin_geq, bin_shl, bin_shr, bin_sadd, bin_seql, bin_sneq, un_not, un_neg, un_xor, after_some, put_some, put_none, res_nil, res_val, res_var, packed_one, packed_two, merge_nil, merge_ge, rf_tup2, rfIn_int, rfIn_bool, rfIn_u8s, rf_str, rfIn_str, ↓gate_true, ↓guardV_tt, ↓guardV_ff, ↓guardV_tf, ↓guardV_ft, ↓keepV_some, ↓qElse_some, ↓get_hit, ↓Option.bind_some, ↓if_true, ↓if_false, List.nil_append, List.cons_append, List.all_nil, List.all_cons, List.isEmpty_nil, reduceCtorEq, Bool.false_eq_true, Nat.reduceEqDiff, beq_self_eq_true, bne_self_eq_false, Bool.not_true, Bool.not_false, Int.natCast_nonneg, Nat.lt_irrefl, false_and, Int.reduceEq, rf_int, rf_bool, rf_tuple_ints, rf_u8s, arr_list, toList2, Bool.and_self, Nat.not_lt_zero, Nat.sub_zero, Nat.zero_le, Nat.le_add_right, cells_agg, cells_agg_size, cells_int, cells_int_size, okVar, eq_self, wrapI64_small, Int.natCast_zero, Int.natCast_one, Int.cast_ofNat_Int, List.length_nil, List.length_cons, List.getElem?_cons_zero, List.getElem?_cons_succ, List.set_cons_zero, List.set_cons_succ, Nat.zero_add, Nat.add_zero, Nat.mul_one, Nat.zero_mul, Int.toNat_natCast, Int.toNat_zero, Int.lt_irrefl, Int.le_refl, Nat.le_refl, and_self, true_and, and_true, decide_true, decide_false, Int.reduceLE, Int.reduceLT, Int.reduceAdd, Int.reduceMul, Int.reduceSub, Int.reduceTDiv, Int.reduceTMod, Int.reduceNeg, Int.reduceToNat, Int.reduceGT, Int.reduceGE, Int.reducePow, Nat.reduceAdd, Nat.reduceMul, Nat.reduceSub, Nat.reduceDiv, Nat.reduceMod, Nat.reducePow, Nat.reduceLT, Nat.reduceLeDiff, Nat.min_self, ge_iff_le, gt_iff_lt, Option.isNone_none, Option.isSome_none, Option.isNone_some, Option.isSome_some, Bool.and_true, Bool.true_and, Bool.and_false, Bool.false_and, not_true_eq_false, not_false_eq_true, or_true, true_or, false_or, or_false, hget0, hgetK, hset0, hsetK, splice_single, splice_whole, take_whole, List.getElem?_nil, List.length_append, List.append_assoc, Nat.add_assoc, e1, e2, e3, hf, hr, hb, strV_rf, h18, rd_len, cellsEq_u8]
      rfl
    · rfl
  by_cases c1 : at_ < 0
  · obtain ⟨H', k1, k2⟩ := key 0 [] (by omega)
    simp only [Int.natCast_zero] at k1
    have c1' : (at_ < 0) = True := eq_true c1
    apply Exists.intro
    rw [evFun_fn (fn := a4) rfl]
    simp only [a4, envOf, evCode_skip, evCode_exit, evCode_seq, fs_blockS, fs_blockR, fs_blockC, fs_blockK, fs_blockB, evCode_ret, quiet, keep_nil, keep_cons, fs_cond, fs_region, fs_regionP, fs_nil, fs_guard, fs_move, fs_pick, fs_alloc, fs_box, fs_load, fs_store, fs_bin, fs_eqv, fs_isNil, fs_un, fs_conv, fs_convStr, fs_field, fs_index, fs_indexStr, fs_build, fs_buildSlice, fs_fieldAddr, fs_indexAddr, fs_indexSl, fs_sliceArr, fs_sliceSl, fs_sliceStr, fs_makeSlice, fs_extract, fs_mkIface, fs_mkFunc, fs_nilCheck, fs_s2ap, fs_len, fs_minmax, fs_s2b, fs_b2s, fs_append, fs_copy, fs_callV, fs_callR, fs_callv, opd_tmp, opd_const, opd_func, opds_nil, opds_cons, opdOpt_none, opdOpt_some, opdParts_nil, opdParts_cons, get_miss, vPick_t, vPick_f, vEq_agg, vEq_aggN, vEq_bool, vEq_boolN, vConv_int, vStr_s, vField_agg, vIndex_agg, vIndexStr_s, vFieldAddr_p, vIndexAddr_p, vIndexSl_s, vSliceArr_p, vSliceSl_s, vSliceSl_n, vSliceStr_s, vExtract_t, vNilCheck_p, vS2ap_s, vLen_s, vLen_str, vMin_i, vMax_i, vLoad_p, vStore_p, baseP_p, vB2s_s, vMake_i, vS2b_s, callee_f, liveAt_eq, storeAt_eq, partL_none, partL_some, natIn_none, natIn_int, bounds3_two, bin_add, bin_sub, bin_mul, bin_quo, bin_rem, bin_and, bin_or, bin_xor, bin_andNot, bin_eql, bin_neq, bin_lss, bin_leq, bin_gtr, bin_geq, bin_shl, bin_shr, bin_sadd, bin_seql, bin_sneq, un_not, un_neg, un_xor, after_some, put_some, put_none, res_nil, res_val, res_var, packed_one, packed_two, merge_nil, merge_ge, rf_tup2, rfIn_int, rfIn_bool, rfIn_u8s, rf_str, rfIn_str, ↓gate_true, ↓guardV_tt, ↓guardV_ff, ↓guardV_tf, ↓guardV_ft, ↓keepV_some, ↓qElse_some, ↓get_hit, ↓Option.bind_some, ↓if_true, ↓if_false, List.nil_append, List.cons_append, List.all_nil, List.all_cons, List.isEmpty_nil, reduceCtorEq, Bool.false_eq_true, Nat.reduceEqDiff, beq_self_eq_true, bne_self_eq_false, Bool.not_true, Bool.not_false, Int.natCast_nonneg, Nat.lt_irrefl, false_and, Int.reduceEq, rf_int, rf_bool, rf_tuple_ints, rf_u8s, arr_list, toList2, Bool.and_self, Nat.not_lt_zero, Nat.sub_zero, Nat.zero_le, Nat.le_add_right, cells_agg, cells_agg_size, cells_int, cells_int_size, okVar, eq_self, wrapI64_small, Int.natCast_zero, Int.natCast_one, Int.cast_ofNat_Int, List.length_nil, List.length_cons, List.getElem?_cons_zero, List.getElem?_cons_succ, List.set_cons_zero, List.set_cons_succ, Nat.zero_add, Nat.add_zero, Nat.mul_one, Nat.zero_mul, Int.toNat_natCast, Int.toNat_zero, Int.lt_irrefl, Int.le_refl, Nat.le_refl, and_self, true_and, and_true, decide_true, decide_false, Int.reduceLE, Int.reduceLT, Int.reduceAdd, Int.reduceMul, Int.reduceSub, Int.reduceTDiv, Int.reduceTMod, Int.reduceNeg, Int.reduceToNat, Int.reduceGT, Int.reduceGE, Int.reducePow, Nat.reduceAdd, Nat.reduceMul, Nat.reduceSub, Nat.reduceDiv, Nat.reduceMod, Nat.reducePow, Nat.reduceLT, Nat.reduceLeDiff, Nat.min_self, ge_iff_le, gt_iff_lt, Option.isNone_none, Option.isSome_none, Option.isNone_some, Option.isSome_some, Bool.and_true, Bool.true_and, Bool.and_false, Bool.false_and, not_true_eq_false, not_false_eq_true, or_true, true_or, false_or, or_false, hget0, hgetK, hset0, hsetK, splice_single, splice_whole, take_whole, List.getElem?_nil, List.length_append, List.append_assoc, Nat.add_assoc, hc, hmin, e1, c1', k1, k2]
    rfl
  · by_cases c2 : (m : Int) < at_
    · obtain ⟨H', k1, k2⟩ := key 0 [] (by omega)
      simp only [Int.natCast_zero] at k1
      have c1' : (at_ < 0) = False := eq_false c1
      have c2' : ((m : Int) < at_) = True := eq_true c2
      apply Exists.intro
      rw [evFun_fn (fn := a4) rfl]
      simp only [a4, envOf, evCode_skip, evCode_exit, evCode_seq, fs_blockS, fs_blockR, fs_blockC, fs_blockK, fs_blockB, evCode_ret, quiet, keep_nil, keep_cons, fs_cond, fs_region, fs_regionP, fs_nil, fs_guard, fs_move, fs_pick, fs_alloc, fs_box, fs_load, fs_store, fs_bin, fs_eqv, fs_isNil, fs_un, fs_conv, fs_convStr, fs_field, fs_index, fs_indexStr, fs_build, fs_buildSlice, fs_fieldAddr, fs_indexAddr, fs_indexSl, fs_sliceArr, fs_sliceSl, fs_sliceStr, fs_makeSlice, fs_extract, fs_mkIface, fs_mkFunc, fs_nilCheck, fs_s2ap, fs_len, fs_minmax, fs_s2b, fs_b2s, fs_append, fs_copy, fs_callV, fs_callR, fs_callv, opd_tmp, opd_const, opd_func, opds_nil, opds_cons, opdOpt_none, opdOpt_some, opdParts_nil, opdParts_cons, get_miss, vPick_t, vPick_f, vEq_agg, vEq_aggN, vEq_bool, vEq_boolN, vConv_int, vStr_s, vField_agg, vIndex_agg, vIndexStr_s, vFieldAddr_p, vIndexAddr_p, vIndexSl_s, vSliceArr_p, vSliceSl_s, vSliceSl_n, vSliceStr_s, vExtract_t, vNilCheck_p, vS2ap_s, vLen_s, vLen_str, vMin_i, vMax_i, vLoad_p, vStore_p, baseP_p, vB2s_s, vMake_i, vS2b_s, callee_f, liveAt_eq, storeAt_eq, partL_none, partL_some, natIn_none, natIn_int, bounds3_two, bin_add, bin_sub, bin_mul, bin_quo, bin_rem, bin_and, bin_or, bin_xor, bin_andNot, bin_eql, bin_neq, bin_lss, bin_leq, bin_gtr, bin_geq, bin_shl, bin_shr, bin_sadd, bin_seql, bin_sneq, un_not, un_neg, un_xor, after_some, put_some, put_none, res_nil, res_val, res_var, packed_one, packed_two, merge_nil, merge_ge, rf_tup2, rfIn_int, rfIn_bool, rfIn_u8s, rf_str, rfIn_str, ↓gate_true, ↓guardV_tt, ↓guardV_ff, ↓guardV_tf, ↓guardV_ft, ↓keepV_some, ↓qElse_some, ↓get_hit, ↓Option.bind_some, ↓if_true, ↓if_false, List.nil_append, List.cons_append, List.all_nil, List.all_cons, List.isEmpty_nil, reduceCtorEq, Bool.false_eq_true, Nat.reduceEqDiff, beq_self_eq_true, bne_self_eq_false, Bool.not_true, Bool.not_false, Int.natCast_nonneg, Nat.lt_irrefl, false_and, Int.reduceEq, rf_int, rf_bool, rf_tuple_ints, rf_u8s, arr_list, toList2, Bool.and_self, Nat.not_lt_zero, Nat.sub_zero, Nat.zero_le, Nat.le_add_right, cells_agg, cells_agg_size, cells_int, cells_int_size, okVar, eq_self, wrapI64_small, Int.natCast_zero, Int.natCast_one, Int.cast_ofNat_Int, List.length_nil, List.length_cons, List.getElem?_cons_zero, List.getElem?_cons_succ, List.set_cons_zero, List.set_cons_succ, Nat.zero_add, Nat.add_zero, Nat.mul_one, Nat.zero_mul, Int.toNat_natCast, Int.toNat_zero, Int.lt_irrefl, Int.le_refl, Nat.le_refl, and_self, true_and, and_true, decide_true, decide_false, Int.reduceLE, Int.reduceLT, Int.reduceAdd, Int.reduceMul, Int.reduceSub, Int.reduceTDiv, Int.reduceTMod, Int.reduceNeg, Int.reduceToNat, Int.reduceGT, Int.reduceGE, Int.reducePow, Nat.reduceAdd, Nat.reduceMul, Nat.reduceSub, Nat.reduceDiv, Nat.reduceMod, Nat.reducePow, Nat.reduceLT, Nat.reduceLeDiff, Nat.min_self, ge_iff_le, gt_iff_lt, Option.isNone_none, Option.isSome_none, Option.isNone_some, Option.isSome_some, Bool.and_true, Bool.true_and, Bool.and_false, Bool.false_and, not_true_eq_false, not_false_eq_true, or_true, true_or, false_or, or_false, hget0, hgetK, hset0, hsetK, splice_single, splice_whole, take_whole, List.getElem?_nil, List.length_append, List.append_assoc, Nat.add_assoc, hc, hmin, e1, c1', c2', k1, k2]
      rfl
    · obtain ⟨k, rfl⟩ : ∃ k : Nat, at_ = (k : Int) := ⟨at_.toNat, by omega⟩
      obtain ⟨H', k1, k2⟩ := key k [(19, .bool false)] (by omega)
      have c1' : ((k : Int) < 0) = False := eq_false c1
      have c2' : ((m : Int) < (k : Int)) = False := eq_false c2
      apply Exists.intro
      rw [evFun_fn (fn := a4) rfl]
      simp only [a4, envOf, evCode_skip, evCode_exit, evCode_seq, fs_blockS, fs_blockR, fs_blockC, fs_blockK, fs_blockB, evCode_ret, quiet, keep_nil, keep_cons, fs_cond, fs_region, fs_regionP, fs_nil, fs_guard, fs_move, fs_pick, fs_alloc, fs_box, fs_load, fs_store, fs_bin, fs_eqv, fs_isNil, fs_un, fs_conv, fs_convStr, fs_field, fs_index, fs_indexStr, fs_build, fs_buildSlice, fs_fieldAddr, fs_indexAddr, fs_indexSl, fs_sliceArr, fs_sliceSl, fs_sliceStr, fs_makeSlice, fs_extract, fs_mkIface, fs_mkFunc, fs_nilCheck, fs_s2ap, fs_len, fs_minmax, fs_s2b, fs_b2s, fs_append, fs_copy, fs_callV, fs_callR, fs_callv, opd_tmp, opd_const, opd_func, opds_nil, opds_cons, opdOpt_none, opdOpt_some, opdParts_nil, opdParts_cons, get_miss, vPick_t, vPick_f, vEq_agg, vEq_aggN, vEq_bool, vEq_boolN, vConv_int, vStr_s, vField_agg, vIndex_agg, vIndexStr_s, vFieldAddr_p, vIndexAddr_p, vIndexSl_s, vSliceArr_p, vSliceSl_s, vSliceSl_n, vSliceStr_s, vExtract_t, vNilCheck_p, vS2ap_s, vLen_s, vLen_str, vMin_i, vMax_i, vLoad_p, vStore_p, baseP_p, vB2s_s, vMake_i, vS2b_s, callee_f, liveAt_eq, storeAt_eq, partL_none, partL_some, natIn_none, natIn_int, bounds3_two, bin_add, bin_sub, bin_mul, bin_quo, bin_rem, bin_and, bin_or, bin_xor, bin_andNot, bin_eql, bin_neq, bin_lss, bin_leq, bin_gtr, bin_geq, bin_shl, bin_shr, bin_sadd, bin_seql, bin_sneq, un_not, un_neg, un_xor, after_some, put_some, put_none, res_nil, res_val, res_var, packed_one, packed_two, merge_nil, merge_ge, rf_tup2, rfIn_int, rfIn_bool, rfIn_u8s, rf_str, rfIn_str, ↓gate_true, ↓guardV_tt, ↓guardV_ff, ↓guardV_tf, ↓guardV_ft, ↓keepV_some, ↓qElse_some, ↓get_hit, ↓Option.bind_some, ↓if_true, ↓if_false, List.nil_append, List.cons_append, List.all_nil, List.all_cons, List.isEmpty_nil, reduceCtorEq, Bool.false_eq_true, Nat.reduceEqDiff, beq_self_eq_true, bne_self_eq_false, Bool.not_true, Bool.not_false, Int.natCast_nonneg, Nat.lt_irrefl, false_and, Int.reduceEq, rf_int, rf_bool, rf_tuple_ints, rf_u8s, arr_list, toList2, Bool.and_self, Nat.not_lt_zero, Nat.sub_zero, Nat.zero_le, Nat.le_add_right, cells_agg, cells_agg_size, cells_int, cells_int_size, okVar, eq_self, wrapI64_small, Int.natCast_zero, Int.natCast_one, Int.cast_ofNat_Int, List.length_nil, List.length_cons, List.getElem?_cons_zero, List.getElem?_cons_succ, List.set_cons_zero, List.set_cons_succ, Nat.zero_add, Nat.add_zero, Nat.mul_one, Nat.zero_mul, Int.toNat_natCast, Int.toNat_zero, Int.lt_irrefl, Int.le_refl, Nat.le_refl, and_self, true_and, and_true, decide_true, decide_false, Int.reduceLE, Int.reduceLT, Int.reduceAdd, Int.reduceMul, Int.reduceSub, Int.reduceTDiv, Int.reduceTMod, Int.reduceNeg, Int.reduceToNat, Int.reduceGT, Int.reduceGE, Int.reducePow, Nat.reduceAdd, Nat.reduceMul, Nat.reduceSub, Nat.reduceDiv, Nat.reduceMod, Nat.reducePow, Nat.reduceLT, Nat.reduceLeDiff, Nat.min_self, ge_iff_le, gt_iff_lt, Option.isNone_none, Option.isSome_none, Option.isNone_some, Option.isSome_some, Bool.and_true, Bool.true_and, Bool.and_false, Bool.false_and, not_true_eq_false, not_false_eq_true, or_true, true_or, false_or, or_false, hget0, hgetK, hset0, hsetK, splice_single, splice_whole, take_whole, List.getElem?_nil, List.length_append, List.append_assoc, Nat.add_assoc, hc, hmin, e1, c1', c2', k1, k2]
      rfl

theorem left_nil (at_ : Int) (h1 : IntKind.i64.min ≤ at_) (h2 : at_ ≤ IntKind.i64.max) : ∃ H', evFun T 4 [.slice none 0 0, .int .i64 at_] [] = some (.bool true, H', []) := by
  have hc := counts_ev
  have hmin : (if (200 : Int) < 0 then (200 : Int) else 0) = 0 := rfl
  have hf : fillL [Value.slice none 0 0, Value.slice none 0 0] [(0, 1, .slice none 0 0), (1, 1, .slice none 0 0)] = some [.slice none 0 0, .slice none 0 0] := rfl
  obtain ⟨g, hr⟩ := reduce_ev (H := [⟨[.slice none 0 0, .slice none 0 0], true, true, true, 1⟩]) (id := 0) (off := 0) (c := 2) (n := 2)
      (two_parts .nil .nil rfl) rfl (by decide) (by decide) (by decide)
  simp only [List.flatten_cons, List.flatten_nil, List.append_nil, rd_def, List.cons_append, List.nil_append] at hr
  have hb := b2s_strV (H := ⟨[.slice none 0 0, .slice none 0 0], true, true, true, 1⟩ :: g) .nil
  obtain ⟨q, h18⟩ := refReduce_ev (bs := []) rfl (by decide) (by simp)
  by_cases c1 : at_ < 0
  · have c1' : (at_ < 0) = True := eq_true c1
    apply Exists.intro
    rw [evFun_fn (fn := a4) rfl]
    simp only [a4, envOf, evCode_skip, evCode_exit, evCode_seq, fs_blockS, fs_blockR, fs_blockC, fs_blockK, fs_blockB, evCode_ret, quiet, keep_nil, keep_cons, fs_cond, fs_region, fs_regionP, fs_nil, fs_guard, fs_move, fs_pick, fs_alloc, fs_box, fs_load, fs_store, fs_bin, fs_eqv, fs_isNil, fs_un, fs_conv, fs_convStr, fs_field, fs_index, fs_indexStr, fs_build, fs_buildSlice, fs_fieldAddr, fs_indexAddr, fs_indexSl, fs_sliceArr, fs_sliceSl, fs_sliceStr, fs_makeSlice, fs_extract, fs_mkIface, fs_mkFunc, fs_nilCheck, fs_s2ap, fs_len, fs_minmax, fs_s2b, fs_b2s, fs_append, fs_copy, fs_callV, fs_callR, fs_callv, opd_tmp, opd_const, opd_func, opds_nil, opds_cons, opdOpt_none, opdOpt_some, opdParts_nil, opdParts_cons, get_miss, vPick_t, vPick_f, vEq_agg, vEq_aggN, vEq_bool, vEq_boolN, vConv_int, vStr_s, vField_agg, vIndex_agg, vIndexStr_s, vFieldAddr_p, vIndexAddr_p, vIndexSl_s, vSliceArr_p, vSliceSl_s, vSliceSl_n, vSliceStr_s, vExtract_t, vNilCheck_p, vS2ap_s, vLen_s, vLen_str, vMin_i, vMax_i, vLoad_p, vStore_p, baseP_p, vB2s_s, vMake_i, vS2b_s, callee_f, liveAt_eq, storeAt_eq, partL_none, partL_some, natIn_none, natIn_int, bounds3_two, bin_add, bin_sub, bin_mul, bin_quo, bin_rem, bin_and, bin_or, bin_xor, bin_andNot, bin_eql, bin_neq, bin_lss, bin_leq, bin_gtr, bin_geq, bin_shl, bin_shr, bin_sadd, bin_seql, bin_sneq, un_not, un_neg, un_xor, after_some, put_some, put_none, res_nil, res_val, res_var, packed_one, packed_two, merge_nil, merge_ge, rf_tup2, rfIn_int, rfIn_bool, rfIn_u8s, rf_str, rfIn_str, ↓gate_true, ↓guardV_tt, ↓guardV_ff, ↓guardV_tf, ↓guardV_ft, ↓keepV_some, ↓qElse_some, ↓get_hit, ↓Option.bind_some, ↓if_true, ↓if_false, List.nil_append, List.cons_append, List.all_nil, List.all_cons, List.isEmpty_nil, reduceCtorEq, Bool.false_eq_true, Nat.reduceEqDiff, beq_self_eq_true, bne_self_eq_false, Bool.not_true, Bool.not_false, Int.natCast_nonneg, Nat.lt_irrefl, false_and, Int.reduceEq, rf_int, rf_bool, rf_tuple_ints, rf_u8s, arr_list, toList2, Bool.and_self, Nat.not_lt_zero, Nat.sub_zero, Nat.zero_le, Nat.le_add_right, cells_agg, cells_agg_size, cells_int, cells_int_size, okVar, eq_self, wrapI64_small, Int.natCast_zero, Int.natCast_one, Int.cast_ofNat_Int, List.length_nil, List.length_cons, List.getElem?_cons_zero, List.getElem?_cons_succ, List.set_cons_zero, List.set_cons_succ, Nat.zero_add, Nat.add_zero, Nat.mul_one, Nat.zero_mul, Int.toNat_natCast, Int.toNat_zero, Int.lt_irrefl, Int.le_refl, Nat.le_refl, and_self, true_and, and_true, decide_true, decide_false, Int.reduceLE, Int.reduceLT, Int.reduceAdd, Int.reduceMul, Int.reduceSub, Int.reduceTDiv, Int.reduceTMod, Int.reduceNeg, Int.reduceToNat, Int.reduceGT, Int.reduceGE, Int.reducePow, Nat.reduceAdd, Nat.reduceMul, Nat.reduceSub, Nat.reduceDiv, Nat.reduceMod, Nat.reducePow, Nat.reduceLT, Nat.reduceLeDiff, Nat.min_self, ge_iff_le, gt_iff_lt, Option.isNone_none, Option.isSome_none, Option.isNone_some, Option.isSome_some, Bool.and_true, Bool.true_and, Bool.and_false, Bool.false_and, not_true_eq_false, not_false_eq_true, or_true, true_or, false_or, or_false, hget0, hgetK, hset0, hsetK, splice_single, splice_whole, take_whole, List.getElem?_nil, List.length_append, List.append_assoc, Nat.add_assoc, hc, hmin, hf, hr, hb, strV_rf, h18, rd_len, cellsEq_u8, c1']
    rfl
  · have c1' : (at_ < 0) = False := eq_false c1
    by_cases c2 : (0 : Int) < at_
    · have c2' : (0 < at_) = True := eq_true c2
      apply Exists.intro
      rw [evFun_fn (fn := a4) rfl]
      simp only [a4, envOf, evCode_skip, evCode_exit, evCode_seq, fs_blockS, fs_blockR, fs_blockC, fs_blockK, fs_blockB, evCode_ret, quiet, keep_nil, keep_cons, fs_cond, fs_region, fs_regionP, fs_nil, fs_guard, fs_move, fs_pick, fs_alloc, fs_box, fs_load, fs_store, fs_bin, fs_eqv, fs_isNil, fs_un, fs_conv, fs_convStr, fs_field, fs_index, fs_indexStr, fs_build, fs_buildSlice, fs_fieldAddr, fs_indexAddr, fs_indexSl, fs_sliceArr, fs_sliceSl, fs_sliceStr, fs_makeSlice, fs_extract, fs_mkIface, fs_mkFunc, fs_nilCheck, fs_s2ap, fs_len, fs_minmax, fs_s2b, fs_b2s, fs_append, fs_copy, fs_callV, fs_callR, fs_callv, opd_tmp, opd_const, opd_func, opds_nil, opds_cons, opdOpt_none, opdOpt_some, opdParts_nil, opdParts_cons, get_miss, vPick_t, vPick_f, vEq_agg, vEq_aggN, vEq_bool, vEq_boolN, vConv_int, vStr_s, vField_agg, vIndex_agg, vIndexStr_s, vFieldAddr_p, vIndexAddr_p, vIndexSl_s, vSliceArr_p, vSliceSl_s, vSliceSl_n, vSliceStr_s, vExtract_t, vNilCheck_p, vS2ap_s, vLen_s, vLen_str, vMin_i, vMax_i, vLoad_p, vStore_p, baseP_p, vB2s_s, vMake_i, vS2b_s, callee_f, liveAt_eq, storeAt_eq, partL_none, partL_some, natIn_none, natIn_int, bounds3_two, bin_add, bin_sub, bin_mul, bin_quo, bin_rem, bin_and, bin_or, bin_xor, bin_andNot, bin_eql, bin_neq, bin_lss, bin_leq, bin_gtr, bin_geq, bin_shl, bin_shr, bin_sadd, bin_seql, bin_sneq, un_not, un_neg, un_xor, after_some, put_some, put_none, res_nil, res_val, res_var, packed_one, packed_two, merge_nil, merge_ge, rf_tup2, rfIn_int, rfIn_bool, rfIn_u8s, rf_str, rfIn_str, ↓gate_true, ↓guardV_tt, ↓guardV_ff, ↓guardV_tf, ↓guardV_ft, ↓keepV_some, ↓qElse_some, ↓get_hit, ↓Option.bind_some, ↓if_true, ↓if_false, List.nil_append, List.cons_append, List.all_nil, List.all_cons, List.isEmpty_nil, reduceCtorEq, Bool.false_eq_true, Nat.reduceEqDiff, beq_self_eq_true, bne_self_eq_false, Bool.not_true, Bool.not_false, Int.natCast_nonneg, Nat.lt_irrefl, false_and, Int.reduceEq, rf_int, rf_bool, rf_tuple_ints, rf_u8s, arr_list, toList2, Bool.and_self, Nat.not_lt_zero, Nat.sub_zero, Nat.zero_le, Nat.le_add_right, cells_agg, cells_agg_size, cells_int, cells_int_size, okVar, eq_self, wrapI64_small, Int.natCast_zero, Int.natCast_one, Int.cast_ofNat_Int, List.length_nil, List.length_cons, List.getElem?_cons_zero, List.getElem?_cons_succ, List.set_cons_zero, List.set_cons_succ, Nat.zero_add, Nat.add_zero, Nat.mul_one, Nat.zero_mul, Int.toNat_natCast, Int.toNat_zero, Int.lt_irrefl, Int.le_refl, Nat.le_refl, and_self, true_and, and_true, decide_true, decide_false, Int.reduceLE, Int.reduceLT, Int.reduceAdd, Int.reduceMul, Int.reduceSub, Int.reduceTDiv, Int.reduceTMod, Int.reduceNeg, Int.reduceToNat, Int.reduceGT, Int.reduceGE, Int.reducePow, Nat.reduceAdd, Nat.reduceMul, Nat.reduceSub, Nat.reduceDiv, Nat.reduceMod, Nat.reducePow, Nat.reduceLT, Nat.reduceLeDiff, Nat.min_self, ge_iff_le, gt_iff_lt, Option.isNone_none, Option.isSome_none, Option.isNone_some, Option.isSome_some, Bool.and_true, Bool.true_and, Bool.and_false, Bool.false_and, not_true_eq_false, not_false_eq_true, or_true, true_or, false_or, or_false, hget0, hgetK, hset0, hsetK, splice_single, splice_whole, take_whole, List.getElem?_nil, List.length_append, List.append_assoc, Nat.add_assoc, hc, hmin, hf, hr, hb, strV_rf, h18, rd_len, cellsEq_u8, c1', c2']
      rfl
    · have : at_ = 0 := by omega
      subst this
      apply Exists.intro
      rw [evFun_fn (fn := a4) rfl]
      simp only [a4, envOf, evCode_skip, evCode_exit, evCode_seq, fs_blockS, fs_blockR, fs_blockC, fs_blockK, fs_blockB, evCode_ret, quiet, keep_nil, keep_cons, fs_cond, fs_region, fs_regionP, fs_nil, fs_guard, fs_move, fs_pick, fs_alloc, fs_box, fs_load, fs_store, fs_bin, fs_eqv, fs_isNil, fs_un, fs_conv, fs_convStr, fs_field, fs_index, fs_indexStr, fs_build, fs_buildSlice, fs_fieldAddr, fs_indexAddr, fs_indexSl, fs_sliceArr, fs_sliceSl, fs_sliceStr, fs_makeSlice, fs_extract, fs_mkIface, fs_mkFunc, fs_nilCheck, fs_s2ap, fs_len, fs_minmax, fs_s2b, fs_b2s, fs_append, fs_copy, fs_callV, fs_callR, fs_callv, opd_tmp, opd_const, opd_func, opds_nil, opds_cons, opdOpt_none, opdOpt_some, opdParts_nil, opdParts_cons, get_miss, vPick_t, vPick_f, vEq_agg, vEq_aggN, vEq_bool, vEq_boolN, vConv_int, vStr_s, vField_agg, vIndex_agg, vIndexStr_s, vFieldAddr_p, vIndexAddr_p, vIndexSl_s, vSliceArr_p, vSliceSl_s, vSliceSl_n, vSliceStr_s, vExtract_t, vNilCheck_p, vS2ap_s, vLen_s, vLen_str, vMin_i, vMax_i, vLoad_p, vStore_p, baseP_p, vB2s_s, vMake_i, vS2b_s, callee_f, liveAt_eq, storeAt_eq, partL_none, partL_some, natIn_none, natIn_int, bounds3_two, bin_add, bin_sub, bin_mul, bin_quo, bin_rem, bin_and, bin_or, bin_xor, bin_andNot, bin_eql, bin_neq, bin_lss, bin_leq, bin_gtr, bin_geq, bin_shl, bin_shr, bin_sadd, bin_seql, bin_sneq, un_not, un_neg, un_xor, after_some, put_some, put_none, res_nil, res_val, res_var, packed_one, packed_two, merge_nil, merge_ge, rf_tup2, rfIn_int, rfIn_bool, rfIn_u8s, rf_str, rfIn_str, ↓gate_true, ↓guardV_tt, ↓guardV_ff, ↓guardV_tf, ↓guardV_ft, ↓keepV_some, ↓qElse_some, ↓get_hit, ↓Option.bind_some, ↓if_true, ↓if_false, List.nil_append, List.cons_append, List.all_nil, List.all_cons, List.isEmpty_nil, reduceCtorEq, Bool.false_eq_true, Nat.reduceEqDiff, beq_self_eq_true, bne_self_eq_false, Bool.not_true, Bool.not_false, Int.natCast_nonneg, Nat.lt_irrefl, false_and, Int.reduceEq, rf_int, rf_bool, rf_tuple_ints, rf_u8s, arr_list, toList2, Bool.and_self, Nat.not_lt_zero, Nat.sub_zero, Nat.zero_le, Nat.le_add_right, cells_agg, cells_agg_size, cells_int, cells_int_size, okVar, eq_self, wrapI64_small, Int.natCast_zero, Int.natCast_one, Int.cast_ofNat_Int, List.length_nil, List.length_cons, List.getElem?_cons_zero, List.getElem?_cons_succ, List.set_cons_zero, List.set_cons_succ, Nat.zero_add, Nat.add_zero, Nat.mul_one, Nat.zero_mul, Int.toNat_natCast, Int.toNat_zero, Int.lt_irrefl, Int.le_refl, Nat.le_refl, and_self, true_and, and_true, decide_true, decide_false, Int.reduceLE, Int.reduceLT, Int.reduceAdd, Int.reduceMul, Int.reduceSub, Int.reduceTDiv, Int.reduceTMod, Int.reduceNeg, Int.reduceToNat, Int.reduceGT, Int.reduceGE, Int.reducePow, Nat.reduceAdd, Nat.reduceMul, Nat.reduceSub, Nat.reduceDiv, Nat.reduceMod, Nat.reducePow, Nat.reduceLT, Nat.reduceLeDiff, Nat.min_self, ge_iff_le, gt_iff_lt, Option.isNone_none, Option.isSome_none, Option.isNone_some, Option.isSome_some, Bool.and_true, Bool.true_and, Bool.and_false, Bool.false_and, not_true_eq_false, not_false_eq_true, or_true, true_or, false_or, or_false, hget0, hgetK, hset0, hsetK, splice_single, splice_whole, take_whole, List.getElem?_nil, List.length_append, List.append_assoc, Nat.add_assoc, hc, hmin, hf, hr, hb, strV_rf, h18, rd_len, cellsEq_u8]
      rfl
end Go.Ev.Ytaceeoghjgggjaa


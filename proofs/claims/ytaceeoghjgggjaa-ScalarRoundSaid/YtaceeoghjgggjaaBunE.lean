/-
  ScalarRules, as the evaluator reads it, answers true.
-/
import Derived.Test.YtaceeoghjgggjaaBunD
import Derived.Test.YtaceeoghjgggjaaBunC
set_option linter.unusedSimpArgs false
set_option linter.unusedVariables false
namespace Go.Ev.Ytaceeoghjgggjaa
open Go Go.Ev
attribute [local congr] bind_congr2 ite_congr2 qElse_congr gate_congr guardV_congr
set_option maxRecDepth 100000

def mA (x y z : List Nat) : List Nat := dig 256 32 ((num 256 x * num 256 y + num 256 z) % ell)
def rd (x : List Nat) : List Nat := dig 256 32 (num 256 x % ell)
theorem rd_def (x : List Nat) : dig 256 32 (num 256 x % ell) = rd x := rfl
theorem mA_len {x y z : List Nat} : (mA x y z).length = 32 := dig_len _ _ _
theorem rd_len {x : List Nat} : (rd x).length = 32 := dig_len _ _ _
theorem mA_lt {x y z : List Nat} : ∀ t ∈ mA x y z, t < 256 := fun _ h => dig_lt (by decide) h
theorem rd_lt {x : List Nat} : ∀ t ∈ rd x, t < 256 := fun _ h => dig_lt (by decide) h
theorem ell_le : ell ≤ 256 ^ 32 := by decide
theorem num_dig_ell (v : Nat) : num 256 (dig 256 32 (v % ell)) = v % ell := by
  rw [num_dig (by decide), Nat.mod_eq_of_lt (Nat.lt_of_lt_of_le (Nat.mod_lt _ ell_pos) ell_le)]
theorem num_mA (x y z : List Nat) : num 256 (mA x y z) = (num 256 x * num 256 y + num 256 z) % ell := num_dig_ell _
theorem num_rd (x : List Nat) : num 256 (rd x) = num 256 x % ell := num_dig_ell _
theorem mulAdd_mA {a b c : List Nat} (la : a.length = 32) (lb : b.length = 32) (lc : c.length = 32) (xa : ∀ x ∈ a, x < 256) (xb : ∀ x ∈ b, x < 256) (xc : ∀ x ∈ c, x < 256) :
    ∃ l, evFun T 19 [.agg (u8s a).toArray, .agg (u8s b).toArray, .agg (u8s c).toArray] [] = some (.agg (u8s (mA a b c)).toArray, l, []) := mulAdd_ev la lb lc xa xb xc
theorem key_ext {a b : List Nat} (la : a.length = 32) (lb : b.length = 32) (xa : ∀ x ∈ a, x < 256) (xb : ∀ x ∈ b, x < 256) (h : num 256 a = num 256 b) : a = b := by
  rw [← dig_num (B := 256) (by decide) xa, ← dig_num (B := 256) (by decide) xb, h, la, lb]
theorem rd_eq {a : List Nat} (la : a.length = 32) (xa : ∀ x ∈ a, x < 256) : (decide (num 256 a < ell)) = (a == rd a) := by
  by_cases h : num 256 a < ell
  · have : a = rd a := key_ext la rd_len xa rd_lt (by rw [num_rd, Nat.mod_eq_of_lt h])
    rw [decide_eq_true h, ← this, beq_self_eq_true]
  · have : ¬ a = rd a := fun he => by
      have h1 := congrArg (num 256) he
      rw [num_rd] at h1
      have := Nat.mod_lt (num 256 a) ell_pos
      omega
    rw [decide_eq_false h, beq_eq_false_iff_ne.2 this]
/-- One part that is a whole key. -/
theorem parts_one {H : List Ob} {id pid : Nat} {a : List Nat} {o : Ob} (la : a.length = 32) (h1 : liveAt H id = some o) (ho : o.cells = u8s a) (h2 : liveAt H pid = some ⟨[.slice (some ⟨id, 0, none⟩) 32 32], true, true, true, 1⟩) : Parts .u8 H pid 0 [a] :=
  ⟨_, h2, fun i p hp => by
    rcases i with _ | i <;> simp at hp
    subst hp
    refine ⟨_, rfl, ?_⟩
    rw [← la]
    exact .mk h1 (by rw [ho, u8s_len]; omega) (fun i x hx => by rw [ho, Nat.zero_add]; exact u8s_get hx)⟩

theorem rules_ev {a b c : List Nat} (la : a.length = 32) (xa : ∀ x ∈ a, x < 256) (lb : b.length = 32) (xb : ∀ x ∈ b, x < 256) (lc : c.length = 32) (xc : ∀ x ∈ c, x < 256) : ∃ l, evFun T 6 [.agg (u8s a).toArray, .agg (u8s b).toArray, .agg (u8s c).toArray] [] = some (.bool true, l, []) := by
  have hz : List.replicate 32 (Value.int .u8 0) = u8s (dig 256 32 0) := rfl
  have f1 : fillL (u8s (dig 256 32 0)) [(0, 1, .int .u8 1)] = some (u8s (k1 1)) := rfl
  have f0 : fillL (u8s (dig 256 32 0)) [] = some (u8s (dig 256 32 0)) := rfl
  have fp : ∀ i : Nat, fillL [Value.slice none 0 0] [(0, 1, .slice (some ⟨i, 0, none⟩) 32 32)] = some [.slice (some ⟨i, 0, none⟩) 32 32] := fun _ => rfl
  have l1 : (k1 1).length = 32 := rfl
  have x1 : ∀ x ∈ k1 1, x < 256 := by decide
  have n1 : num 256 (k1 1) = 1 := by decide
  have l0 : (dig 256 32 0).length = 32 := rfl
  have x0 : ∀ x ∈ dig 256 32 0, x < 256 := by decide
  have n0 : num 256 (dig 256 32 0) = 0 := by decide
  have hr1 := reduce_ev (H := [⟨u8s a, true, true, true, 1⟩, ⟨u8s b, true, true, true, 1⟩, ⟨u8s c, true, true, true, 1⟩, ⟨u8s (k1 1), true, true, true, 1⟩, ⟨u8s (dig 256 32 0), true, true, true, 1⟩, ⟨[.slice (some ⟨0, 0, none⟩) 32 32], true, true, true, 1⟩]) (id := 5) (off := 0) (c := 1) (n := 1) (parts_one la (id := 0) rfl rfl rfl) rfl (by decide) (by simp [la]) (by simpa using xa)
  obtain ⟨g1, hr1⟩ := hr1
  simp only [List.flatten_cons, List.flatten_nil, List.append_nil, rd_def, List.cons_append, List.nil_append] at hr1
  have hr2 := reduce_ev (H := ⟨u8s a, true, true, true, 1⟩ :: ⟨u8s b, true, true, true, 1⟩ :: ⟨u8s c, true, true, true, 1⟩ :: ⟨u8s (k1 1), true, true, true, 1⟩ :: ⟨u8s (dig 256 32 0), true, true, true, 1⟩ :: ⟨[.slice (some ⟨0, 0, none⟩) 32 32], true, true, true, 1⟩ :: (g1 ++ [⟨u8s (rd a), true, true, true, 1⟩, ⟨[.slice (some ⟨g1.length + 6, 0, none⟩) 32 32], true, true, true, 1⟩])) (id := g1.length + 7) (off := 0) (c := 1) (n := 1)
    (parts_one (a := rd a) (o := ⟨u8s (rd a), true, true, true, 1⟩) rd_len (id := g1.length + 6) (by simp [liveAt]) rfl (by simp [liveAt])) rfl (by decide) (by simp [rd_len]) (by simpa using rd_lt)
  obtain ⟨g2, hr2⟩ := hr2
  have hrr : rd (rd a) = rd a := key_ext rd_len rd_len rd_lt rd_lt (by rw [num_rd, num_rd, Nat.mod_mod])
  simp only [List.flatten_cons, List.flatten_nil, List.append_nil, rd_def, List.cons_append, List.nil_append, hrr, List.append_assoc] at hr2
  have hG : ∀ l, (g1 ++ ⟨u8s (rd a), true, true, true, 1⟩ :: ⟨[.slice (some ⟨g1.length + 6, 0, none⟩) 32 32], true, true, true, 1⟩ :: g2 ++ l)[g1.length]? = some ⟨u8s (rd a), true, true, true, 1⟩ := fun l => by simp
  have hG0 := hG []
  rw [List.append_nil] at hG0
  generalize g1 ++ ⟨u8s (rd a), true, true, true, 1⟩ :: ⟨[.slice (some ⟨g1.length + 6, 0, none⟩) 32 32], true, true, true, 1⟩ :: g2 = G at hr2 hG hG0
  obtain ⟨q1, hcX⟩ := canonical_ev (a := rd a) rd_len rd_lt
  rw [decide_eq_true (by rw [num_rd]; exact Nat.mod_lt _ ell_pos)] at hcX
  obtain ⟨q2, hca⟩ := canonical_ev la xa
  rw [rd_eq la xa] at hca
  obtain ⟨q3, hm1⟩ := mulAdd_mA la l1 l0 xa x1 x0
  rw [show mA a (k1 1) (dig 256 32 0) = rd a from by unfold mA rd; rw [n1, n0, Nat.mul_one, Nat.add_zero]] at hm1
  obtain ⟨q4, hm2⟩ := mulAdd_mA lb l1 lc xb x1 xc
  obtain ⟨q5, hm3⟩ := mulAdd_mA la lb l0 xa xb x0
  obtain ⟨q6, hm4⟩ := mulAdd_mA lb la l0 xb xa x0
  rw [show mA b a (dig 256 32 0) = mA a b (dig 256 32 0) from by unfold mA; rw [Nat.mul_comm]] at hm4
  obtain ⟨q7, hm5⟩ := mulAdd_mA la (mA_len (x := b) (y := k1 1) (z := c)) l0 xa mA_lt x0
  obtain ⟨q8, hm6⟩ := mulAdd_mA la lc l0 xa xc x0
  obtain ⟨q9, hm7⟩ := mulAdd_mA la lb (mA_len (x := a) (y := c) (z := dig 256 32 0)) xa xb mA_lt
  rw [show mA a b (mA a c (dig 256 32 0)) = mA a (mA b (k1 1) c) (dig 256 32 0) from by
    apply key_ext mA_len mA_len mA_lt mA_lt
    simp only [num_mA, n0, n1, Nat.add_zero, Nat.mul_one]
    rw [Nat.add_mod_mod, Nat.mul_mod_mod, Nat.mul_add]] at hm7
  have hc := counts_ev
  apply Exists.intro
  rw [evFun_fn (fn := a6) rfl]
  simp only [a6, envOf, evCode_skip, evCode_exit, evCode_seq, fs_blockS, fs_blockR, fs_blockC, fs_blockK, fs_blockB, evCode_ret, quiet, keep_nil, keep_cons, fs_cond, fs_region, fs_regionP, fs_nil, fs_guard, fs_move, fs_pick, fs_alloc, fs_box, fs_load, fs_store, fs_bin, fs_eqv, fs_isNil, fs_un, fs_conv, fs_convStr, fs_field, fs_index, fs_indexStr, fs_build, fs_buildSlice, fs_fieldAddr, fs_indexAddr, fs_indexSl, fs_sliceArr, fs_sliceSl, fs_sliceStr, fs_makeSlice, fs_extract, fs_mkIface, fs_mkFunc, fs_nilCheck, fs_s2ap, fs_len, fs_minmax, fs_s2b, fs_b2s, fs_append, fs_copy, fs_callV, fs_callR, fs_callv, opd_tmp, opd_const, opd_func, opds_nil, opds_cons, opdOpt_none, opdOpt_some, opdParts_nil, opdParts_cons, get_miss, vPick_t, vPick_f, vEq_agg, vEq_aggN, vEq_bool, vEq_boolN, vConv_int, vStr_s, vField_agg, vIndex_agg, vIndexStr_s, vFieldAddr_p, vIndexAddr_p, vIndexSl_s, vSliceArr_p, vSliceSl_s, vSliceSl_n, vSliceStr_s, vExtract_t, vNilCheck_p, vS2ap_s, vLen_s, vLen_str, vMin_i, vMax_i, vLoad_p, vStore_p, baseP_p, vB2s_s, vMake_i, vS2b_s, callee_f, liveAt_eq, storeAt_eq, partL_none, partL_some, natIn_none, natIn_int, bounds3_two, bin_add, bin_sub, bin_mul, bin_quo, bin_rem, bin_and, bin_or, bin_xor, bin_andNot, bin_eql, bin_neq, bin_lss, bin_leq, bin_gtr, bin_geq, bin_shl, bin_shr, bin_sadd, bin_seql, bin_sneq, un_not, un_neg, un_xor, after_some, put_some, put_none, res_nil, res_val, res_var, packed_one, packed_two, merge_nil, merge_ge, rf_tup2, rfIn_int, rfIn_bool, rfIn_u8s, rf_str, rfIn_str, ↓gate_true, ↓guardV_tt, ↓guardV_ff, ↓guardV_tf, ↓guardV_ft, ↓keepV_some, ↓qElse_some, ↓get_hit, ↓Option.bind_some, ↓if_true, ↓if_false, List.nil_append, List.cons_append, List.all_nil, List.all_cons, List.isEmpty_nil, reduceCtorEq, Bool.false_eq_true, Nat.reduceEqDiff, beq_self_eq_true, bne_self_eq_false, Bool.not_true, Bool.not_false, Int.natCast_nonneg, Nat.lt_irrefl, false_and, Int.reduceEq, rf_int, rf_bool, rf_tuple_ints, rf_u8s, arr_list, toList2, Bool.and_self, Nat.not_lt_zero, Nat.sub_zero, Nat.zero_le, Nat.le_add_right, cells_agg, cells_agg_size, cells_int, cells_int_size, okVar, eq_self, wrapI64_small, Int.natCast_zero, Int.natCast_one, Int.cast_ofNat_Int, List.length_nil, List.length_cons, List.getElem?_cons_zero, List.getElem?_cons_succ, List.set_cons_zero, List.set_cons_succ, Nat.zero_add, Nat.add_zero, Nat.mul_one, Nat.zero_mul, Int.toNat_natCast, Int.toNat_zero, Int.lt_irrefl, Int.le_refl, Nat.le_refl, and_self, true_and, and_true, decide_true, decide_false, Int.reduceLE, Int.reduceLT, Int.reduceAdd, Int.reduceMul, Int.reduceSub, Int.reduceTDiv, Int.reduceTMod, Int.reduceNeg, Int.reduceToNat, Int.reduceGT, Int.reduceGE, Int.reducePow, Nat.reduceAdd, Nat.reduceMul, Nat.reduceSub, Nat.reduceDiv, Nat.reduceMod, Nat.reducePow, Nat.reduceLT, Nat.reduceLeDiff, Nat.min_self, ge_iff_le, gt_iff_lt, Option.isNone_none, Option.isSome_none, Option.isNone_some, Option.isSome_some, Bool.and_true, Bool.true_and, Bool.and_false, Bool.false_and, not_true_eq_false, not_false_eq_true, hget0, hgetK, hset0, hsetK, splice_single, splice_whole, take_whole, List.getElem?_nil, List.length_append, List.append_assoc, Nat.add_assoc, hz, f1, f0, fp, l1, l0, la, lb, lc, rd_len, mA_len, u8s_len, hc, bnd32, hr1, hr2, hG, hG0, hcX, hca, hm1, hm2, hm3, hm4, hm5, hm6, hm7, cellsEq_u8]
  rfl
end Go.Ev.Ytaceeoghjgggjaa

/-
  intaglioref04.Order: the order's digits.
-/
set_option linter.unusedSimpArgs false
set_option linter.unusedVariables false
namespace Go.Ev.Ytaceeoghjgggjaa
open Go Go.Ev
attribute [local congr] bind_congr2 ite_congr2 qElse_congr gate_congr guardV_congr
set_option maxRecDepth 100000

def ord16 : List Nat := [237, 211, 245, 92, 26, 99, 18, 88, 214, 156, 247, 162, 222, 249, 222, 20]
def ordL : List Nat := dig 256 32 ell
theorem ordL_eq : ordL = ord16 ++ List.replicate 15 0 ++ [16] := by decide +kernel
theorem ordL_len : ordL.length = 32 := dig_len _ _ _
theorem ordL_lt : ∀ x ∈ ordL, x < 256 := fun _ h => dig_lt (by decide) h
theorem ordL_num : num 256 ordL = ell := by decide +kernel

/-- One number more is put behind those that have grown. -/
theorem grow_one {k : IntKind} {B bytes : Nat} {H : List Ob} {s : Value} {bs : List Nat} {x : Nat} (h : Grown k B H s bs) (hB : B ≤ H.length) (hb : (bs.length + 1) * bytes ≤ 2 ^ 47) (hb0 : 0 < bytes) :
    ∃ s' H' M, appendV 1 bytes (H ++ [⟨[.int k (x : Nat)], true, true, true, 1⟩]) s (.slice (some ⟨H.length, 0, none⟩) 1 1) = some (s', H', none, M) ∧ Grown k B H' s' (bs ++ [x]) ∧ (∀ i ∈ M, B ≤ i) ∧ B ≤ H'.length ∧ ∀ i, i < B → H'[i]? = H[i]? := by
  obtain ⟨s', H', M, h1, h2, h3, h4, h5⟩ := (h.app (l' := [⟨[.int k (x : Nat)], true, true, true, 1⟩])).append (bytes := bytes) (x := .slice (some ⟨H.length, 0, none⟩) 1 1) (new := [x]) (by simp; omega) rfl (by simp [elemsOf, liveAt, ns]) hb hb0
  refine ⟨s', H', M, h1, h2, h3, ?_, fun i hi => by rw [h5 i hi, List.getElem?_append_left (by omega)]⟩
  simp at h4
  omega

def oI (s : Value) (H : List Ob) (ex : Env) : St := ⟨[(1, s)] ++ ex, H, []⟩
theorem order23_ev (H : List Ob) : ∃ s l, evFun T 23 [] H = some (s, H ++ l, []) ∧ Grown .i64 H.length (H ++ l) s ordL := by
  have hf : fillL (List.replicate 16 (Value.int .i64 0)) [(0, 1, .int .i64 237), (1, 1, .int .i64 211), (2, 1, .int .i64 245), (3, 1, .int .i64 92), (4, 1, .int .i64 26), (5, 1, .int .i64 99), (6, 1, .int .i64 18), (7, 1, .int .i64 88), (8, 1, .int .i64 214), (9, 1, .int .i64 156), (10, 1, .int .i64 247), (11, 1, .int .i64 162), (12, 1, .int .i64 222), (13, 1, .int .i64 249), (14, 1, .int .i64 222), (15, 1, .int .i64 20)] = some (ns .i64 ord16) := rfl
  have f0 : fillL [Value.int .i64 0] [(0, 1, .int .i64 0)] = some [.int .i64 0] := rfl
  have f16 : fillL [Value.int .i64 0] [(0, 1, .int .i64 16)] = some [.int .i64 16] := rfl
  obtain ⟨st, hb, s, Hc, rfl, hg, hL, hK⟩ := block_inv (T := T) (base := H.length) (id := 0) (body := a23_l0)
    (fun j st => ∃ s Hc, st = oI s Hc [] ∧ Grown .i64 H.length Hc s (ord16 ++ List.replicate j 0) ∧ H.length ≤ Hc.length ∧ ∀ i, i < H.length → Hc[i]? = H[i]?)
    (Q := fun st => ∃ s Hc, st = oI s Hc [(5, .bool false)] ∧ Grown .i64 H.length Hc s (ord16 ++ List.replicate 15 0) ∧ H.length ≤ Hc.length ∧ ∀ i, i < H.length → Hc[i]? = H[i]?)
    15 (s := oI (.slice (some ⟨H.length, 0, none⟩) 16 16) (H ++ [⟨ns .i64 ord16, true, true, true, 1⟩]) []) ⟨_, _, rfl, Grown.new (id := H.length) (bs := ord16) (Nat.le_refl _) (by decide) (by simp [Ob.fresh]), by simp, fun i hi => List.getElem?_append_left hi⟩
    (fun j st hj hs => by
      obtain ⟨s, Hc, rfl, hg, hL, hK⟩ := hs
      have hl := hg.len
      have e16 : (ord16 ++ List.replicate j 0).length = 16 + j := by simp [ord16]; omega
      rw [e16] at hl
      have h31 : (((16 + j : Nat) : Int) < 31) := by omega
      obtain ⟨s', H', M, h1, h2, h3, h4, h5⟩ := grow_one (x := 0) (bytes := 8) hg hL (by simp [ord16]; omega) (by decide)
      have hm : inMerge H.length [] M = [] := inMerge_ge h3
      refine ⟨oI s' H' [], ?_, s', H', rfl, by rw [List.replicate_succ', ← List.append_assoc]; exact h2, h4, fun i hi => by rw [h5 i hi, hK i hi]⟩
      simp only [oI, a23_l0, envOf, evCode_skip, evCode_exit, evCode_seq, fs_blockS, fs_blockR, fs_blockC, fs_blockK, fs_blockB, evCode_ret, quiet, keep_nil, keep_cons, fs_cond, fs_region, fs_regionP, fs_nil, fs_guard, fs_move, fs_pick, fs_alloc, fs_box, fs_load, fs_store, fs_bin, fs_eqv, fs_isNil, fs_un, fs_conv, fs_convStr, fs_field, fs_index, fs_indexStr, fs_build, fs_buildSlice, fs_fieldAddr, fs_indexAddr, fs_indexSl, fs_sliceArr, fs_sliceSl, fs_sliceStr, fs_makeSlice, fs_extract, fs_mkIface, fs_mkFunc, fs_nilCheck, fs_s2ap, fs_len, fs_minmax, fs_s2b, fs_b2s, fs_append, fs_copy, fs_callV, fs_callR, fs_callv, opd_tmp, opd_const, opd_func, opds_nil, opds_cons, opdOpt_none, opdOpt_some, opdParts_nil, opdParts_cons, get_miss, vPick_t, vPick_f, vEq_agg, vEq_aggN, vEq_bool, vEq_boolN, vConv_int, vStr_s, vField_agg, vIndex_agg, vIndexStr_s, vFieldAddr_p, vIndexAddr_p, vIndexSl_s, vSliceArr_p, vSliceSl_s, vSliceSl_n, vSliceStr_s, vExtract_t, vNilCheck_p, vS2ap_s, vLen_s, vLen_str, vMin_i, vMax_i, vLoad_p, vStore_p, baseP_p, vB2s_s, vMake_i, vS2b_s, callee_f, liveAt_eq, storeAt_eq, partL_none, partL_some, natIn_none, natIn_int, bounds3_two, bin_add, bin_sub, bin_mul, bin_quo, bin_rem, bin_and, bin_or, bin_xor, bin_andNot, bin_eql, bin_neq, bin_lss, bin_leq, bin_gtr, bin_geq, bin_shl, bin_shr, bin_sadd, bin_seql, bin_sneq, un_not, un_neg, un_xor, after_some, put_some, put_none, res_nil, res_val, res_var, packed_one, packed_two, merge_nil, merge_ge, rf_tup2, rfIn_int, rfIn_bool, rfIn_u8s, rf_str, rfIn_str, ↓gate_true, ↓guardV_tt, ↓guardV_ff, ↓guardV_tf, ↓guardV_ft, ↓keepV_some, ↓qElse_some, ↓get_hit, ↓Option.bind_some, ↓if_true, ↓if_false, List.nil_append, List.cons_append, List.all_nil, List.all_cons, List.isEmpty_nil, reduceCtorEq, Bool.false_eq_true, Nat.reduceEqDiff, beq_self_eq_true, bne_self_eq_false, Bool.not_true, Bool.not_false, Int.natCast_nonneg, Nat.lt_irrefl, false_and, Int.reduceEq, rf_int, rf_bool, rf_tuple_ints, rf_u8s, arr_list, toList2, Bool.and_self, Nat.not_lt_zero, Nat.sub_zero, Nat.zero_le, Nat.le_add_right, cells_agg, cells_agg_size, cells_int, cells_int_size, okVar, eq_self, wrapI64_small, Int.natCast_zero, Int.natCast_one, Int.cast_ofNat_Int, List.length_nil, List.length_cons, List.getElem?_cons_zero, List.getElem?_cons_succ, List.set_cons_zero, List.set_cons_succ, Nat.zero_add, Nat.add_zero, Nat.mul_one, Nat.zero_mul, Int.toNat_natCast, Int.toNat_zero, Int.lt_irrefl, Int.le_refl, Nat.le_refl, and_self, true_and, and_true, decide_true, decide_false, Int.reduceLE, Int.reduceLT, Int.reduceAdd, Int.reduceMul, Int.reduceSub, Int.reduceTDiv, Int.reduceTMod, Int.reduceNeg, Int.reduceToNat, Int.reduceGT, Int.reduceGE, Int.reducePow, Nat.reduceAdd, Nat.reduceMul, Nat.reduceSub, Nat.reduceDiv, Nat.reduceMod, Nat.reducePow, Nat.reduceLT, Nat.reduceLeDiff, Nat.min_self, ge_iff_le, gt_iff_lt, Option.isNone_none, Option.isSome_none, Option.isNone_some, Option.isSome_some, Bool.and_true, Bool.true_and, Bool.and_false, Bool.false_and, not_true_eq_false, not_false_eq_true, hget0, hgetK, hset0, hsetK, splice_single, splice_whole, take_whole, List.getElem?_nil, List.length_append, List.append_assoc, Nat.add_assoc, hl, h31, f0]
      simp only [Int.natCast_zero] at h1
      simp only [h1, hm, envOf, evCode_skip, evCode_exit, evCode_seq, fs_blockS, fs_blockR, fs_blockC, fs_blockK, fs_blockB, evCode_ret, quiet, keep_nil, keep_cons, fs_cond, fs_region, fs_regionP, fs_nil, fs_guard, fs_move, fs_pick, fs_alloc, fs_box, fs_load, fs_store, fs_bin, fs_eqv, fs_isNil, fs_un, fs_conv, fs_convStr, fs_field, fs_index, fs_indexStr, fs_build, fs_buildSlice, fs_fieldAddr, fs_indexAddr, fs_indexSl, fs_sliceArr, fs_sliceSl, fs_sliceStr, fs_makeSlice, fs_extract, fs_mkIface, fs_mkFunc, fs_nilCheck, fs_s2ap, fs_len, fs_minmax, fs_s2b, fs_b2s, fs_append, fs_copy, fs_callV, fs_callR, fs_callv, opd_tmp, opd_const, opd_func, opds_nil, opds_cons, opdOpt_none, opdOpt_some, opdParts_nil, opdParts_cons, get_miss, vPick_t, vPick_f, vEq_agg, vEq_aggN, vEq_bool, vEq_boolN, vConv_int, vStr_s, vField_agg, vIndex_agg, vIndexStr_s, vFieldAddr_p, vIndexAddr_p, vIndexSl_s, vSliceArr_p, vSliceSl_s, vSliceSl_n, vSliceStr_s, vExtract_t, vNilCheck_p, vS2ap_s, vLen_s, vLen_str, vMin_i, vMax_i, vLoad_p, vStore_p, baseP_p, vB2s_s, vMake_i, vS2b_s, callee_f, liveAt_eq, storeAt_eq, partL_none, partL_some, natIn_none, natIn_int, bounds3_two, bin_add, bin_sub, bin_mul, bin_quo, bin_rem, bin_and, bin_or, bin_xor, bin_andNot, bin_eql, bin_neq, bin_lss, bin_leq, bin_gtr, bin_geq, bin_shl, bin_shr, bin_sadd, bin_seql, bin_sneq, un_not, un_neg, un_xor, after_some, put_some, put_none, res_nil, res_val, res_var, packed_one, packed_two, merge_nil, merge_ge, rf_tup2, rfIn_int, rfIn_bool, rfIn_u8s, rf_str, rfIn_str, ↓gate_true, ↓guardV_tt, ↓guardV_ff, ↓guardV_tf, ↓guardV_ft, ↓keepV_some, ↓qElse_some, ↓get_hit, ↓Option.bind_some, ↓if_true, ↓if_false, List.nil_append, List.cons_append, List.all_nil, List.all_cons, List.isEmpty_nil, reduceCtorEq, Bool.false_eq_true, Nat.reduceEqDiff, beq_self_eq_true, bne_self_eq_false, Bool.not_true, Bool.not_false, Int.natCast_nonneg, Nat.lt_irrefl, false_and, Int.reduceEq, rf_int, rf_bool, rf_tuple_ints, rf_u8s, arr_list, toList2, Bool.and_self, Nat.not_lt_zero, Nat.sub_zero, Nat.zero_le, Nat.le_add_right, cells_agg, cells_agg_size, cells_int, cells_int_size, okVar, eq_self, wrapI64_small, Int.natCast_zero, Int.natCast_one, Int.cast_ofNat_Int, List.length_nil, List.length_cons, List.getElem?_cons_zero, List.getElem?_cons_succ, List.set_cons_zero, List.set_cons_succ, Nat.zero_add, Nat.add_zero, Nat.mul_one, Nat.zero_mul, Int.toNat_natCast, Int.toNat_zero, Int.lt_irrefl, Int.le_refl, Nat.le_refl, and_self, true_and, and_true, decide_true, decide_false, Int.reduceLE, Int.reduceLT, Int.reduceAdd, Int.reduceMul, Int.reduceSub, Int.reduceTDiv, Int.reduceTMod, Int.reduceNeg, Int.reduceToNat, Int.reduceGT, Int.reduceGE, Int.reducePow, Nat.reduceAdd, Nat.reduceMul, Nat.reduceSub, Nat.reduceDiv, Nat.reduceMod, Nat.reducePow, Nat.reduceLT, Nat.reduceLeDiff, Nat.min_self, ge_iff_le, gt_iff_lt, Option.isNone_none, Option.isSome_none, Option.isNone_some, Option.isSome_some, Bool.and_true, Bool.true_and, Bool.and_false, Bool.false_and, not_true_eq_false, not_false_eq_true])
    (fun st hs => by
      obtain ⟨s, Hc, rfl, hg, hL, hK⟩ := hs
      have hl := hg.len
      refine ⟨_, ?_, s, Hc, rfl, hg, hL, hK⟩
      have e16 : (ord16 ++ List.replicate 15 0).length = 31 := rfl
      rw [e16] at hl
      simp only [oI, a23_l0, envOf, evCode_skip, evCode_exit, evCode_seq, fs_blockS, fs_blockR, fs_blockC, fs_blockK, fs_blockB, evCode_ret, quiet, keep_nil, keep_cons, fs_cond, fs_region, fs_regionP, fs_nil, fs_guard, fs_move, fs_pick, fs_alloc, fs_box, fs_load, fs_store, fs_bin, fs_eqv, fs_isNil, fs_un, fs_conv, fs_convStr, fs_field, fs_index, fs_indexStr, fs_build, fs_buildSlice, fs_fieldAddr, fs_indexAddr, fs_indexSl, fs_sliceArr, fs_sliceSl, fs_sliceStr, fs_makeSlice, fs_extract, fs_mkIface, fs_mkFunc, fs_nilCheck, fs_s2ap, fs_len, fs_minmax, fs_s2b, fs_b2s, fs_append, fs_copy, fs_callV, fs_callR, fs_callv, opd_tmp, opd_const, opd_func, opds_nil, opds_cons, opdOpt_none, opdOpt_some, opdParts_nil, opdParts_cons, get_miss, vPick_t, vPick_f, vEq_agg, vEq_aggN, vEq_bool, vEq_boolN, vConv_int, vStr_s, vField_agg, vIndex_agg, vIndexStr_s, vFieldAddr_p, vIndexAddr_p, vIndexSl_s, vSliceArr_p, vSliceSl_s, vSliceSl_n, vSliceStr_s, vExtract_t, vNilCheck_p, vS2ap_s, vLen_s, vLen_str, vMin_i, vMax_i, vLoad_p, vStore_p, baseP_p, vB2s_s, vMake_i, vS2b_s, callee_f, liveAt_eq, storeAt_eq, partL_none, partL_some, natIn_none, natIn_int, bounds3_two, bin_add, bin_sub, bin_mul, bin_quo, bin_rem, bin_and, bin_or, bin_xor, bin_andNot, bin_eql, bin_neq, bin_lss, bin_leq, bin_gtr, bin_geq, bin_shl, bin_shr, bin_sadd, bin_seql, bin_sneq, un_not, un_neg, un_xor, after_some, put_some, put_none, res_nil, res_val, res_var, packed_one, packed_two, merge_nil, merge_ge, rf_tup2, rfIn_int, rfIn_bool, rfIn_u8s, rf_str, rfIn_str, ↓gate_true, ↓guardV_tt, ↓guardV_ff, ↓guardV_tf, ↓guardV_ft, ↓keepV_some, ↓qElse_some, ↓get_hit, ↓Option.bind_some, ↓if_true, ↓if_false, List.nil_append, List.cons_append, List.all_nil, List.all_cons, List.isEmpty_nil, reduceCtorEq, Bool.false_eq_true, Nat.reduceEqDiff, beq_self_eq_true, bne_self_eq_false, Bool.not_true, Bool.not_false, Int.natCast_nonneg, Nat.lt_irrefl, false_and, Int.reduceEq, rf_int, rf_bool, rf_tuple_ints, rf_u8s, arr_list, toList2, Bool.and_self, Nat.not_lt_zero, Nat.sub_zero, Nat.zero_le, Nat.le_add_right, cells_agg, cells_agg_size, cells_int, cells_int_size, okVar, eq_self, wrapI64_small, Int.natCast_zero, Int.natCast_one, Int.cast_ofNat_Int, List.length_nil, List.length_cons, List.getElem?_cons_zero, List.getElem?_cons_succ, List.set_cons_zero, List.set_cons_succ, Nat.zero_add, Nat.add_zero, Nat.mul_one, Nat.zero_mul, Int.toNat_natCast, Int.toNat_zero, Int.lt_irrefl, Int.le_refl, Nat.le_refl, and_self, true_and, and_true, decide_true, decide_false, Int.reduceLE, Int.reduceLT, Int.reduceAdd, Int.reduceMul, Int.reduceSub, Int.reduceTDiv, Int.reduceTMod, Int.reduceNeg, Int.reduceToNat, Int.reduceGT, Int.reduceGE, Int.reducePow, Nat.reduceAdd, Nat.reduceMul, Nat.reduceSub, Nat.reduceDiv, Nat.reduceMod, Nat.reducePow, Nat.reduceLT, Nat.reduceLeDiff, Nat.min_self, ge_iff_le, gt_iff_lt, Option.isNone_none, Option.isSome_none, Option.isNone_some, Option.isSome_some, Bool.and_true, Bool.true_and, Bool.and_false, Bool.false_and, not_true_eq_false, not_false_eq_true, hget0, hgetK, hset0, hsetK, splice_single, splice_whole, take_whole, List.getElem?_nil, List.length_append, List.append_assoc, Nat.add_assoc, hl])
  obtain ⟨s', H', M, h1, h2, h3, h4, h5⟩ := grow_one (x := 16) (bytes := 8) hg hL (by decide) (by decide)
  have hm : inMerge H.length [] M = [] := inMerge_ge h3
  obtain ⟨l, rfl⟩ := ext_app h4 (fun i hi => by rw [h5 i hi, hK i hi])
  refine ⟨s', l, ?_, by rw [ordL_eq]; exact h2⟩
  rw [evFun_fn (fn := a23) rfl]
  simp only [oI, List.cons_append, List.nil_append] at hb
  simp only [Int.cast_ofNat_Int] at h1
  simp only [a23, envOf, evCode_skip, evCode_exit, evCode_seq, fs_blockS, fs_blockR, fs_blockC, fs_blockK, fs_blockB, evCode_ret, quiet, keep_nil, keep_cons, fs_cond, fs_region, fs_regionP, fs_nil, fs_guard, fs_move, fs_pick, fs_alloc, fs_box, fs_load, fs_store, fs_bin, fs_eqv, fs_isNil, fs_un, fs_conv, fs_convStr, fs_field, fs_index, fs_indexStr, fs_build, fs_buildSlice, fs_fieldAddr, fs_indexAddr, fs_indexSl, fs_sliceArr, fs_sliceSl, fs_sliceStr, fs_makeSlice, fs_extract, fs_mkIface, fs_mkFunc, fs_nilCheck, fs_s2ap, fs_len, fs_minmax, fs_s2b, fs_b2s, fs_append, fs_copy, fs_callV, fs_callR, fs_callv, opd_tmp, opd_const, opd_func, opds_nil, opds_cons, opdOpt_none, opdOpt_some, opdParts_nil, opdParts_cons, get_miss, vPick_t, vPick_f, vEq_agg, vEq_aggN, vEq_bool, vEq_boolN, vConv_int, vStr_s, vField_agg, vIndex_agg, vIndexStr_s, vFieldAddr_p, vIndexAddr_p, vIndexSl_s, vSliceArr_p, vSliceSl_s, vSliceSl_n, vSliceStr_s, vExtract_t, vNilCheck_p, vS2ap_s, vLen_s, vLen_str, vMin_i, vMax_i, vLoad_p, vStore_p, baseP_p, vB2s_s, vMake_i, vS2b_s, callee_f, liveAt_eq, storeAt_eq, partL_none, partL_some, natIn_none, natIn_int, bounds3_two, bin_add, bin_sub, bin_mul, bin_quo, bin_rem, bin_and, bin_or, bin_xor, bin_andNot, bin_eql, bin_neq, bin_lss, bin_leq, bin_gtr, bin_geq, bin_shl, bin_shr, bin_sadd, bin_seql, bin_sneq, un_not, un_neg, un_xor, after_some, put_some, put_none, res_nil, res_val, res_var, packed_one, packed_two, merge_nil, merge_ge, rf_tup2, rfIn_int, rfIn_bool, rfIn_u8s, rf_str, rfIn_str, ↓gate_true, ↓guardV_tt, ↓guardV_ff, ↓guardV_tf, ↓guardV_ft, ↓keepV_some, ↓qElse_some, ↓get_hit, ↓Option.bind_some, ↓if_true, ↓if_false, List.nil_append, List.cons_append, List.all_nil, List.all_cons, List.isEmpty_nil, reduceCtorEq, Bool.false_eq_true, Nat.reduceEqDiff, beq_self_eq_true, bne_self_eq_false, Bool.not_true, Bool.not_false, Int.natCast_nonneg, Nat.lt_irrefl, false_and, Int.reduceEq, rf_int, rf_bool, rf_tuple_ints, rf_u8s, arr_list, toList2, Bool.and_self, Nat.not_lt_zero, Nat.sub_zero, Nat.zero_le, Nat.le_add_right, cells_agg, cells_agg_size, cells_int, cells_int_size, okVar, eq_self, wrapI64_small, Int.natCast_zero, Int.natCast_one, Int.cast_ofNat_Int, List.length_nil, List.length_cons, List.getElem?_cons_zero, List.getElem?_cons_succ, List.set_cons_zero, List.set_cons_succ, Nat.zero_add, Nat.add_zero, Nat.mul_one, Nat.zero_mul, Int.toNat_natCast, Int.toNat_zero, Int.lt_irrefl, Int.le_refl, Nat.le_refl, and_self, true_and, and_true, decide_true, decide_false, Int.reduceLE, Int.reduceLT, Int.reduceAdd, Int.reduceMul, Int.reduceSub, Int.reduceTDiv, Int.reduceTMod, Int.reduceNeg, Int.reduceToNat, Int.reduceGT, Int.reduceGE, Int.reducePow, Nat.reduceAdd, Nat.reduceMul, Nat.reduceSub, Nat.reduceDiv, Nat.reduceMod, Nat.reducePow, Nat.reduceLT, Nat.reduceLeDiff, Nat.min_self, ge_iff_le, gt_iff_lt, Option.isNone_none, Option.isSome_none, Option.isNone_some, Option.isSome_some, Bool.and_true, Bool.true_and, Bool.and_false, Bool.false_and, not_true_eq_false, not_false_eq_true, hget0, hgetK, hset0, hsetK, splice_single, splice_whole, take_whole, List.getElem?_nil, List.length_append, List.append_assoc, Nat.add_assoc, hf, hb, oI, f16, h1, hm]
end Go.Ev.Ytaceeoghjgggjaa

/-
  ScalarRound, as the evaluator reads it, answers true.
-/
set_option linter.unusedSimpArgs false
set_option linter.unusedVariables false
namespace Go.Ev.Ytaceeoghjgggjaa
open Go Go.Ev
attribute [local congr] bind_congr2 ite_congr2 qElse_congr gate_congr guardV_congr
set_option maxRecDepth 100000

def rnI (mo s : Value) (k : List Nat) (p : List Nat) (l : List Ob) (i : Nat) (ex : Env) : St := ⟨[(1, mo), (2, .pointer (some ⟨0, 0, none⟩)), (5, .pointer (some ⟨1, 0, none⟩)), (14, s), (15, .int .i64 32), (16, .int .i64 i)] ++ ex, ⟨u8s k, true, true, true, 1⟩ :: ⟨u8s p, true, true, true, 1⟩ :: l, []⟩

def ordP (i : Nat) : List Nat := ordL.take i ++ List.replicate (32 - i) 0
theorem ordP_len {i : Nat} (h : i ≤ 32) : (ordP i).length = 32 := by simp [ordP, ordL_len]; omega
theorem ordP_step : ∀ i, i < 32 → (ordP i).set i (ordL.getD i 0) = ordP (i + 1) := by decide +kernel
theorem u8_small {x : Nat} (h : x < 256) : IntKind.u8.wrap (x : Int) = x := wrap_small rfl h

theorem rn_body {mo s : Value} {k : List Nat} {l H : List Ob} {b i x : Nat} (hg : Grown .i64 b H s ordL) (hH : H = ⟨u8s k, true, true, true, 1⟩ :: ⟨u8s (dig 256 32 0), true, true, true, 1⟩ :: l) (hb : 2 ≤ b) (hi : i < 32) (hx : ordL[i]? = some x) :
    evCode T 0 a7_l0 (rnI mo s k (ordP i) l i []) = some (.normal, rnI mo s k (ordP (i + 1)) l (i + 1) []) := by
  have hstep := ordP_step i hi
  have hgd : ordL.getD i 0 = x := by rw [List.getD_eq_getElem?_getD, hx]; rfl
  rw [hgd] at hstep
  have hx' : x < 256 := ordL_lt x (List.mem_of_getElem? hx)
  have h1 : ((i : Int) < 32) := by omega
  have h32 : ((i : Int) < ((32 : Nat) : Int)) := by omega
  have e1 : IntKind.i64.wrap ((i : Int) + 1) = ((i + 1 : Nat) : Int) := wrap_nat (n := i + 1) (by omega)
  have e2 := u8_small hx'
  have hlen : i + 1 ≤ (u8s (ordP i)).length := by rw [u8s_len, ordP_len (by omega)]; omega
  obtain ⟨id, off, c, hs, hrow⟩ := hg.sl.row (by rw [ordL_len]; decide)
  obtain ⟨o, ho, hc⟩ := hrow
  have hid : b ≤ id := by
    cases hg with
    | own h _ _ => cases hs; exact h
    | new h _ _ => cases hs; exact h
  subst hs
  rw [ordL_len]
  obtain ⟨j, rfl⟩ : ∃ j, id = j + 2 := ⟨id - 2, by omega⟩
  have ho' : (⟨u8s k, true, true, true, 1⟩ :: ⟨u8s (ordP i), true, true, true, 1⟩ :: l : List Ob)[j + 2]? = some o ∧ o.live = true := by
    rw [hH] at ho
    simp only [liveAt, Option.bind_eq_some_iff] at ho
    obtain ⟨o', g1, g2⟩ := ho
    split at g2
    · cases g2
      rename_i hlv
      exact ⟨by simpa using g1, hlv⟩
    · cases g2
  have hl2 := ho'.1
  simp only [List.getElem?_cons_succ] at hl2
  have hcx := hc i x hx
  simp only [rnI, a7_l0, envOf, evCode_skip, evCode_exit, evCode_seq, fs_blockS, fs_blockR, fs_blockC, fs_blockK, fs_blockB, evCode_ret, quiet, keep_nil, keep_cons, fs_cond, fs_region, fs_regionP, fs_nil, fs_guard, fs_move, fs_pick, fs_alloc, fs_box, fs_load, fs_store, fs_bin, fs_eqv, fs_isNil, fs_un, fs_conv, fs_convStr, fs_field, fs_index, fs_indexStr, fs_build, fs_buildSlice, fs_fieldAddr, fs_indexAddr, fs_indexSl, fs_sliceArr, fs_sliceSl, fs_sliceStr, fs_makeSlice, fs_extract, fs_mkIface, fs_mkFunc, fs_nilCheck, fs_s2ap, fs_len, fs_minmax, fs_s2b, fs_b2s, fs_append, fs_copy, fs_callV, fs_callR, fs_callv, opd_tmp, opd_const, opd_func, opds_nil, opds_cons, opdOpt_none, opdOpt_some, opdParts_nil, opdParts_cons, get_miss, vPick_t, vPick_f, vEq_agg, vEq_aggN, vEq_bool, vEq_boolN, vConv_int, vStr_s, vField_agg, vIndex_agg, vIndexStr_s, vFieldAddr_p, vIndexAddr_p, vIndexSl_s, vSliceArr_p, vSliceSl_s, vSliceSl_n, vSliceStr_s, vExtract_t, vNilCheck_p, vS2ap_s, vLen_s, vLen_str, vMin_i, vMax_i, vLoad_p, vStore_p, baseP_p, vB2s_s, vMake_i, vS2b_s, callee_f, liveAt_eq, storeAt_eq, partL_none, partL_some, natIn_none, natIn_int, bounds3_two, bin_add, bin_sub, bin_mul, bin_quo, bin_rem, bin_and, bin_or, bin_xor, bin_andNot, bin_eql, bin_neq, bin_lss, bin_leq, bin_gtr, bin_geq, bin_shl, bin_shr, bin_sadd, bin_seql, bin_sneq, un_not, un_neg, un_xor, after_some, put_some, put_none, res_nil, res_val, res_var, packed_one, packed_two, merge_nil, merge_ge, rf_tup2, rfIn_int, rfIn_bool, rfIn_u8s, rf_str, rfIn_str, ↓gate_true, ↓guardV_tt, ↓guardV_ff, ↓guardV_tf, ↓guardV_ft, ↓keepV_some, ↓qElse_some, ↓get_hit, ↓Option.bind_some, ↓if_true, ↓if_false, List.nil_append, List.cons_append, List.all_nil, List.all_cons, List.isEmpty_nil, reduceCtorEq, Bool.false_eq_true, Nat.reduceEqDiff, beq_self_eq_true, bne_self_eq_false, Bool.not_true, Bool.not_false, Int.natCast_nonneg, Nat.lt_irrefl, false_and, Int.reduceEq, rf_int, rf_bool, rf_tuple_ints, rf_u8s, arr_list, toList2, Bool.and_self, Nat.not_lt_zero, Nat.sub_zero, Nat.zero_le, Nat.le_add_right, cells_agg, cells_agg_size, cells_int, cells_int_size, okVar, eq_self, wrapI64_small, Int.natCast_zero, Int.natCast_one, Int.cast_ofNat_Int, List.length_nil, List.length_cons, List.getElem?_cons_zero, List.getElem?_cons_succ, List.set_cons_zero, List.set_cons_succ, Nat.zero_add, Nat.add_zero, Nat.mul_one, Nat.zero_mul, Int.toNat_natCast, Int.toNat_zero, Int.lt_irrefl, Int.le_refl, Nat.le_refl, and_self, true_and, and_true, decide_true, decide_false, Int.reduceLE, Int.reduceLT, Int.reduceAdd, Int.reduceMul, Int.reduceSub, Int.reduceTDiv, Int.reduceTMod, Int.reduceNeg, Int.reduceToNat, Int.reduceGT, Int.reduceGE, Int.reducePow, Nat.reduceAdd, Nat.reduceMul, Nat.reduceSub, Nat.reduceDiv, Nat.reduceMod, Nat.reducePow, Nat.reduceLT, Nat.reduceLeDiff, Nat.min_self, ge_iff_le, gt_iff_lt, Option.isNone_none, Option.isSome_none, Option.isNone_some, Option.isSome_some, Bool.and_true, Bool.true_and, Bool.and_false, Bool.false_and, not_true_eq_false, not_false_eq_true, hget0, hgetK, hset0, hsetK, splice_single, splice_whole, take_whole, List.getElem?_nil, List.length_append, List.append_assoc, Nat.add_assoc, h1, h32, hl2, ho'.2, hcx, e1, e2, hlen, u8s_set, hstep]

def lessL : List Nat := dig 256 32 (ell - 1)
theorem less_len : lessL.length = 32 := dig_len _ _ _
theorem less_lt : ∀ x ∈ lessL, x < 256 := fun _ h => dig_lt (by decide) h
theorem less_num : num 256 lessL = ell - 1 := by decide +kernel
theorem less_set : ordL.set 0 236 = lessL := by decide +kernel
theorem ord_zero : ordL[0]? = some 237 := by decide +kernel
def moreL (n : Nat) : List Nat := n % 256 :: n / 256 % 256 :: List.replicate 30 0
theorem more_len (n : Nat) : (moreL n).length = 32 := by simp [moreL]
theorem more_lt (n : Nat) : ∀ x ∈ moreL n, x < 256 := by
  intro x hx
  simp only [moreL, List.mem_cons, List.mem_replicate] at hx
  omega
theorem more_num {n : Nat} (h : n < 65536) : num 256 (moreL n) = n := by
  have : num 256 (List.replicate 30 0) = 0 := by decide
  simp only [moreL, num, this]
  omega
theorem more_fill (n : Nat) : fillL (u8s (dig 256 32 0)) [(0, 1, .int .u8 ((n % 256 : Nat) : Int)), (1, 1, .int .u8 ((n / 256 % 256 : Nat) : Int))] = some (u8s (moreL n)) := rfl

theorem round_ev {k : List Nat} {n : Nat} (lk : k.length = 32) (xk : ∀ x ∈ k, x < 256) (hn : n < 65536) : ∃ l, evFun T 7 [.agg (u8s k).toArray, .int .u16 (n : Nat)] [] = some (.bool true, l, []) := by
  have hz : List.replicate 32 (Value.int .u8 0) = u8s (dig 256 32 0) := rfl
  have f1 : fillL (u8s (dig 256 32 0)) [(0, 1, .int .u8 1)] = some (u8s (k1 1)) := rfl
  have f0 : fillL (u8s (dig 256 32 0)) [] = some (u8s (dig 256 32 0)) := rfl
  have fp : ∀ i : Nat, fillL [Value.slice none 0 0] [(0, 1, .slice (some ⟨i, 0, none⟩) 32 32)] = some [.slice (some ⟨i, 0, none⟩) 32 32] := fun _ => rfl
  have l0 : (dig 256 32 0).length = 32 := rfl
  have x0 : ∀ x ∈ dig 256 32 0, x < 256 := by decide
  have n0 : num 256 (dig 256 32 0) = 0 := by decide
  obtain ⟨s, l, ho, hg⟩ := order23_ev [⟨u8s k, true, true, true, 1⟩, ⟨u8s (dig 256 32 0), true, true, true, 1⟩]
  have hlen := hg.len
  rw [ordL_len] at hlen
  have hb := block_loop (T := T) (base := 0) (id := 0) (body := a7_l0) (fun i => rnI (.int .u16 (n : Nat)) s k (ordP i) l i []) (s' := rnI (.int .u16 (n : Nat)) s k ordL l 32 [(17, .bool false)]) 32
    (fun i hi => rn_body hg rfl (Nat.le_refl 2) hi (List.getElem?_eq_getElem (by rw [ordL_len]; exact hi))) (by
      have e : ordP 32 = ordL := by decide +kernel
      rw [e]
      simp only [rnI, a7_l0, envOf, evCode_skip, evCode_exit, evCode_seq, fs_blockS, fs_blockR, fs_blockC, fs_blockK, fs_blockB, evCode_ret, quiet, keep_nil, keep_cons, fs_cond, fs_region, fs_regionP, fs_nil, fs_guard, fs_move, fs_pick, fs_alloc, fs_box, fs_load, fs_store, fs_bin, fs_eqv, fs_isNil, fs_un, fs_conv, fs_convStr, fs_field, fs_index, fs_indexStr, fs_build, fs_buildSlice, fs_fieldAddr, fs_indexAddr, fs_indexSl, fs_sliceArr, fs_sliceSl, fs_sliceStr, fs_makeSlice, fs_extract, fs_mkIface, fs_mkFunc, fs_nilCheck, fs_s2ap, fs_len, fs_minmax, fs_s2b, fs_b2s, fs_append, fs_copy, fs_callV, fs_callR, fs_callv, opd_tmp, opd_const, opd_func, opds_nil, opds_cons, opdOpt_none, opdOpt_some, opdParts_nil, opdParts_cons, get_miss, vPick_t, vPick_f, vEq_agg, vEq_aggN, vEq_bool, vEq_boolN, vConv_int, vStr_s, vField_agg, vIndex_agg, vIndexStr_s, vFieldAddr_p, vIndexAddr_p, vIndexSl_s, vSliceArr_p, vSliceSl_s, vSliceSl_n, vSliceStr_s, vExtract_t, vNilCheck_p, vS2ap_s, vLen_s, vLen_str, vMin_i, vMax_i, vLoad_p, vStore_p, baseP_p, vB2s_s, vMake_i, vS2b_s, callee_f, liveAt_eq, storeAt_eq, partL_none, partL_some, natIn_none, natIn_int, bounds3_two, bin_add, bin_sub, bin_mul, bin_quo, bin_rem, bin_and, bin_or, bin_xor, bin_andNot, bin_eql, bin_neq, bin_lss, bin_leq, bin_gtr, bin_geq, bin_shl, bin_shr, bin_sadd, bin_seql, bin_sneq, un_not, un_neg, un_xor, after_some, put_some, put_none, res_nil, res_val, res_var, packed_one, packed_two, merge_nil, merge_ge, rf_tup2, rfIn_int, rfIn_bool, rfIn_u8s, rf_str, rfIn_str, ↓gate_true, ↓guardV_tt, ↓guardV_ff, ↓guardV_tf, ↓guardV_ft, ↓keepV_some, ↓qElse_some, ↓get_hit, ↓Option.bind_some, ↓if_true, ↓if_false, List.nil_append, List.cons_append, List.all_nil, List.all_cons, List.isEmpty_nil, reduceCtorEq, Bool.false_eq_true, Nat.reduceEqDiff, beq_self_eq_true, bne_self_eq_false, Bool.not_true, Bool.not_false, Int.natCast_nonneg, Nat.lt_irrefl, false_and, Int.reduceEq, rf_int, rf_bool, rf_tuple_ints, rf_u8s, arr_list, toList2, Bool.and_self, Nat.not_lt_zero, Nat.sub_zero, Nat.zero_le, Nat.le_add_right, cells_agg, cells_agg_size, cells_int, cells_int_size, okVar, eq_self, wrapI64_small, Int.natCast_zero, Int.natCast_one, Int.cast_ofNat_Int, List.length_nil, List.length_cons, List.getElem?_cons_zero, List.getElem?_cons_succ, List.set_cons_zero, List.set_cons_succ, Nat.zero_add, Nat.add_zero, Nat.mul_one, Nat.zero_mul, Int.toNat_natCast, Int.toNat_zero, Int.lt_irrefl, Int.le_refl, Nat.le_refl, and_self, true_and, and_true, decide_true, decide_false, Int.reduceLE, Int.reduceLT, Int.reduceAdd, Int.reduceMul, Int.reduceSub, Int.reduceTDiv, Int.reduceTMod, Int.reduceNeg, Int.reduceToNat, Int.reduceGT, Int.reduceGE, Int.reducePow, Nat.reduceAdd, Nat.reduceMul, Nat.reduceSub, Nat.reduceDiv, Nat.reduceMod, Nat.reducePow, Nat.reduceLT, Nat.reduceLeDiff, Nat.min_self, ge_iff_le, gt_iff_lt, Option.isNone_none, Option.isSome_none, Option.isNone_some, Option.isSome_some, Bool.and_true, Bool.true_and, Bool.and_false, Bool.false_and, not_true_eq_false, not_false_eq_true])
  have e0 : ordP 0 = dig 256 32 0 := by decide +kernel
  simp only [rnI, List.cons_append, List.nil_append, e0, Int.natCast_zero] at hb ho
  have g0 := u8s_get ord_zero
  have s0 : (u8s ordL).set 0 (.int .u8 236) = u8s lessL := by
    have h := u8s_set ordL 0 236
    rw [less_set] at h
    exact h
  have w0 : IntKind.u8.wrap 236 = 236 := rfl
  have hm1 : IntKind.u8.wrap (n : Int) = ((n % 256 : Nat) : Int) := by rw [wrap_u8]; omega
  have hm2 : IntKind.u8.wrap (Int.fdiv (n : Int) (2 ^ min 8 IntKind.u16.bits)) = ((n / 256 % 256 : Nat) : Int) := by
    rw [wrap_u8, show (2 : Int) ^ min 8 IntKind.u16.bits = 256 from rfl, Int.fdiv_eq_ediv_of_nonneg _ (by decide)]; omega
  have hell : 65536 < ell := by decide
  obtain ⟨q1, hA1⟩ := mulAdd_mA ordL_len lk (more_len n) ordL_lt xk (more_lt n)
  rw [show mA ordL k (moreL n) = moreL n from key_ext mA_len (more_len n) mA_lt (more_lt n) (by
    rw [num_mA, ordL_num, more_num hn, Nat.mul_add_mod, Nat.mod_eq_of_lt (by omega)])] at hA1
  obtain ⟨q2, hc1⟩ := canonical_ev ordL_len ordL_lt
  rw [ordL_num, decide_eq_false (Nat.lt_irrefl _)] at hc1
  obtain ⟨q3, hc2⟩ := canonical_ev less_len less_lt
  rw [less_num, decide_eq_true (by decide)] at hc2
  have hr := reduce_ev (H := ⟨u8s k, true, true, true, 1⟩ :: ⟨u8s ordL, true, true, true, 1⟩ :: (l ++ [⟨u8s lessL, true, true, true, 1⟩, ⟨u8s (moreL n), true, true, true, 1⟩, ⟨[.slice (some ⟨0, 0, none⟩) 32 32], true, true, true, 1⟩])) (id := l.length + 4) (off := 0) (c := 1) (n := 1)
    (parts_one (a := k) (o := ⟨u8s k, true, true, true, 1⟩) lk (id := 0) rfl rfl (by simp [liveAt])) rfl (by decide) (by simp [lk]) (by simpa using xk)
  obtain ⟨g, hr⟩ := hr
  simp only [List.flatten_cons, List.flatten_nil, List.append_nil, rd_def, List.cons_append, List.nil_append, List.append_assoc] at hr
  have hG : ∀ r, (l ++ ⟨u8s lessL, true, true, true, 1⟩ :: ⟨u8s (moreL n), true, true, true, 1⟩ :: ⟨[.slice (some ⟨0, 0, none⟩) 32 32], true, true, true, 1⟩ :: g ++ r)[l.length]? = some ⟨u8s lessL, true, true, true, 1⟩ := fun r => by simp
  have hG0 := hG []
  rw [List.append_nil] at hG0
  generalize l ++ ⟨u8s lessL, true, true, true, 1⟩ :: ⟨u8s (moreL n), true, true, true, 1⟩ :: ⟨[.slice (some ⟨0, 0, none⟩) 32 32], true, true, true, 1⟩ :: g = G at hr hG hG0
  obtain ⟨q4, hA2⟩ := mulAdd_mA less_len (rd_len (x := k)) (rd_len (x := k)) less_lt rd_lt rd_lt
  rw [show mA lessL (rd k) (rd k) = dig 256 32 0 from key_ext mA_len l0 mA_lt x0 (by
    rw [num_mA, less_num, n0, ← Nat.succ_mul, show (ell - 1).succ = ell from by decide, Nat.mul_mod_right])] at hA2
  obtain ⟨q5, hA3⟩ := mulAdd_mA less_len less_len l0 less_lt less_lt x0
  rw [show mA lessL lessL (dig 256 32 0) = k1 1 from by decide +kernel] at hA3
  have l1 : (k1 1).length = 32 := rfl
  have hc := counts_ev
  apply Exists.intro
  rw [evFun_fn (fn := a7) rfl]
  simp only [a7, envOf, evCode_skip, evCode_exit, evCode_seq, fs_blockS, fs_blockR, fs_blockC, fs_blockK, fs_blockB, evCode_ret, quiet, keep_nil, keep_cons, fs_cond, fs_region, fs_regionP, fs_nil, fs_guard, fs_move, fs_pick, fs_alloc, fs_box, fs_load, fs_store, fs_bin, fs_eqv, fs_isNil, fs_un, fs_conv, fs_convStr, fs_field, fs_index, fs_indexStr, fs_build, fs_buildSlice, fs_fieldAddr, fs_indexAddr, fs_indexSl, fs_sliceArr, fs_sliceSl, fs_sliceStr, fs_makeSlice, fs_extract, fs_mkIface, fs_mkFunc, fs_nilCheck, fs_s2ap, fs_len, fs_minmax, fs_s2b, fs_b2s, fs_append, fs_copy, fs_callV, fs_callR, fs_callv, opd_tmp, opd_const, opd_func, opds_nil, opds_cons, opdOpt_none, opdOpt_some, opdParts_nil, opdParts_cons, get_miss, vPick_t, vPick_f, vEq_agg, vEq_aggN, vEq_bool, vEq_boolN, vConv_int, vStr_s, vField_agg, vIndex_agg, vIndexStr_s, vFieldAddr_p, vIndexAddr_p, vIndexSl_s, vSliceArr_p, vSliceSl_s, vSliceSl_n, vSliceStr_s, vExtract_t, vNilCheck_p, vS2ap_s, vLen_s, vLen_str, vMin_i, vMax_i, vLoad_p, vStore_p, baseP_p, vB2s_s, vMake_i, vS2b_s, callee_f, liveAt_eq, storeAt_eq, partL_none, partL_some, natIn_none, natIn_int, bounds3_two, bin_add, bin_sub, bin_mul, bin_quo, bin_rem, bin_and, bin_or, bin_xor, bin_andNot, bin_eql, bin_neq, bin_lss, bin_leq, bin_gtr, bin_geq, bin_shl, bin_shr, bin_sadd, bin_seql, bin_sneq, un_not, un_neg, un_xor, after_some, put_some, put_none, res_nil, res_val, res_var, packed_one, packed_two, merge_nil, merge_ge, rf_tup2, rfIn_int, rfIn_bool, rfIn_u8s, rf_str, rfIn_str, ↓gate_true, ↓guardV_tt, ↓guardV_ff, ↓guardV_tf, ↓guardV_ft, ↓keepV_some, ↓qElse_some, ↓get_hit, ↓Option.bind_some, ↓if_true, ↓if_false, List.nil_append, List.cons_append, List.all_nil, List.all_cons, List.isEmpty_nil, reduceCtorEq, Bool.false_eq_true, Nat.reduceEqDiff, beq_self_eq_true, bne_self_eq_false, Bool.not_true, Bool.not_false, Int.natCast_nonneg, Nat.lt_irrefl, false_and, Int.reduceEq, rf_int, rf_bool, rf_tuple_ints, rf_u8s, arr_list, toList2, Bool.and_self, Nat.not_lt_zero, Nat.sub_zero, Nat.zero_le, Nat.le_add_right, cells_agg, cells_agg_size, cells_int, cells_int_size, okVar, eq_self, wrapI64_small, Int.natCast_zero, Int.natCast_one, Int.cast_ofNat_Int, List.length_nil, List.length_cons, List.getElem?_cons_zero, List.getElem?_cons_succ, List.set_cons_zero, List.set_cons_succ, Nat.zero_add, Nat.add_zero, Nat.mul_one, Nat.zero_mul, Int.toNat_natCast, Int.toNat_zero, Int.lt_irrefl, Int.le_refl, Nat.le_refl, and_self, true_and, and_true, decide_true, decide_false, Int.reduceLE, Int.reduceLT, Int.reduceAdd, Int.reduceMul, Int.reduceSub, Int.reduceTDiv, Int.reduceTMod, Int.reduceNeg, Int.reduceToNat, Int.reduceGT, Int.reduceGE, Int.reducePow, Nat.reduceAdd, Nat.reduceMul, Nat.reduceSub, Nat.reduceDiv, Nat.reduceMod, Nat.reducePow, Nat.reduceLT, Nat.reduceLeDiff, Nat.min_self, ge_iff_le, gt_iff_lt, Option.isNone_none, Option.isSome_none, Option.isNone_some, Option.isSome_some, Bool.and_true, Bool.true_and, Bool.and_false, Bool.false_and, not_true_eq_false, not_false_eq_true, hget0, hgetK, hset0, hsetK, splice_single, splice_whole, take_whole, List.getElem?_nil, List.length_append, List.append_assoc, Nat.add_assoc, hz, f1, f0, fp, l0, l1, lk, rd_len, ordL_len, less_len, more_len, more_fill, u8s_len, hc, ho, hlen, hb, rnI, g0, s0, w0, hm1, hm2, hA1, hc1, hc2, hr, hG, hG0, hA2, hA3, bnd32, cellsEq_u8]
  rfl
end Go.Ev.Ytaceeoghjgggjaa


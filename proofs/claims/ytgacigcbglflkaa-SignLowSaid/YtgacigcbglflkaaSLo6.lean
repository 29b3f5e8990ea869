/- What the law leans on, part 6. -/
import Derived.Test.YtgacigcbglflkaaSLo5
set_option linter.unusedSimpArgs false
set_option linter.unusedVariables false
set_option linter.unusedSimpArgs false
set_option linter.unusedVariables false
namespace Go.Ev.Ytgacigcbglflkaa
open Go Go.Ev
attribute [local congr] bind_congr2 ite_congr2 qElse_congr gate_congr guardV_congr
set_option maxRecDepth 100000
abbrev LtN (n : Nat) : Nat → Prop := fun i => i < n
theorem HPart.arr {n id off m c : Nat} {H : List Ob} {b : List Nat} {w e : Bool} {s : Nat} (hid : id < n) (h : H[id]? = some ⟨u8s b, true, w, e, s⟩) (hb : ∀ y ∈ b, y < 256) (hl : off + m ≤ b.length) (hm : m ≤ 2 ^ 47 - 4096) : HPart (LtN n) H (.slice (some ⟨id, off, none⟩) m c) ((b.drop off).take m) := by
  have hlen : ((b.drop off).take m).length = m := by rw [List.length_take, List.length_drop]; omega
  refine ⟨⟨_, _, by rw [hlen]⟩, fun G hG => ?_, fun y hy => hb y (List.mem_of_mem_drop (List.mem_of_mem_take hy)), by rw [hlen]; omega⟩
  have hg := (hG id hid).trans h
  rw [hlen]
  simp [elemsOf, liveAt_some hg rfl, u8s_len, hl]
  simp [u8s, List.map_take, List.map_drop]
theorem HPart.whole {n id c : Nat} {H : List Ob} {b : List Nat} {w e : Bool} {s : Nat} (hid : id < n) (h : H[id]? = some ⟨u8s b, true, w, e, s⟩) (hb : ∀ y ∈ b, y < 256) (hm : b.length ≤ 2 ^ 47 - 4096) : HPart (LtN n) H (.slice (some ⟨id, 0, none⟩) b.length c) b := by
  have := HPart.arr (off := 0) (m := b.length) (c := c) hid h hb (by omega) hm
  rwa [List.drop_zero, List.take_length] at this
theorem HPart.ext {n m : Nat} {H G : List Ob} {x : Value} {p : List Nat} (h : HPart (LtN n) H x p) (hg : ∀ i, i < n → G[i]? = H[i]?) (hnm : n ≤ m) : HPart (LtN m) G x p :=
  ⟨h.shape, fun G' hG' => h.reads G' fun i hi => (hG' i (Nat.lt_of_lt_of_le hi hnm)).trans (hg i hi), h.lt, h.le⟩
theorem HParts.ext {n m : Nat} {H G : List Ob} {xs : List Value} {ps : List (List Nat)} (h : HParts (LtN n) H xs ps) (hg : ∀ i, i < n → G[i]? = H[i]?) (hnm : n ≤ m) : HParts (LtN m) G xs ps := by
  induction h with
  | nil => exact .nil
  | cons a _ ih => exact .cons (a.ext hg hnm) ih
theorem HParts.append {K : Nat → Prop} {H : List Ob} {xs ys : List Value} {ps qs : List (List Nat)} (h : HParts K H xs ps) (k : HParts K H ys qs) : HParts K H (xs ++ ys) (ps ++ qs) := by
  induction h with
  | nil => exact k
  | cons a _ ih => exact .cons a ih
structure Args1 (H : List Ob) (pv : Value) (ps : List (List Nat)) (xs : List Value) : Prop where
  inPv : PV (LtN H.length) H pv xs
  parts : HParts (LtN H.length) H xs ps
  few : xs.length < 2 ^ 40
  len : Go.Ev.lenV pv = some xs.length
  reads : ∀ G : List Ob, (∀ i, i < H.length → G[i]? = H[i]?) → elemsOf G 1 xs.length pv = some xs
def Args (H : List Ob) (pv : Value) (ps : List (List Nat)) : Prop := ∃ xs, Args1 H pv ps xs
theorem Args.ext {H G : List Ob} {pv : Value} {ps : List (List Nat)} (h : Args H pv ps) (hg : ∀ i, i < H.length → G[i]? = H[i]?) (hl : H.length ≤ G.length) : Args G pv ps := by
  obtain ⟨xs, h1, h2, h3, h4, h5⟩ := h
  refine ⟨xs, ?_, h2.ext hg hl, h3, h4, fun G' hG' => h5 G' fun i hi => (hG' i (Nat.lt_of_lt_of_le hi hl)).trans (hg i hi)⟩
  rcases h1 with h | ⟨pid, off, cap, o, a1, a2, a3, a4, a5⟩
  · exact .inl h
  · exact .inr ⟨pid, off, cap, o, a1, Nat.lt_of_lt_of_le a2 hl, (hg pid a2).trans a3, a4, a5⟩
theorem Args.app {H l : List Ob} {pv : Value} {ps : List (List Nat)} (h : Args H pv ps) : Args (H ++ l) pv ps := h.ext (fun i hi => List.getElem?_append_left hi) (by simp)
theorem Args.nothing (H : List Ob) : Args H (.slice none 0 0) [] := ⟨[], .inl ⟨rfl, rfl⟩, .nil, by decide, rfl, fun _ _ => rfl⟩
theorem Args.arr {H : List Ob} {a n c : Nat} {e : Bool} {s : Nat} {ys : List Value} {qs : List (List Nat)} (ha : H[a]? = some ⟨ys, true, true, e, s⟩) (hn : ys.length = n) (hys : HParts (LtN H.length) H ys qs) (hf : n < 2 ^ 40) : Args H (.slice (some ⟨a, 0, none⟩) n c) qs := by
  subst hn
  refine ⟨ys, .inr ⟨a, 0, c, _, rfl, (List.getElem?_eq_some_iff.1 ha).1, ha, rfl, fun i _ => by rw [Nat.zero_add]⟩, hys, hf, rfl, fun G hG => ?_⟩
  have hg := (hG a (List.getElem?_eq_some_iff.1 ha).1).trans ha
  simp [elemsOf, liveAt_some hg rfl]
theorem args_append {H : List Ob} {a n : Nat} {ys : List Value} {pv : Value} {qs ps : List (List Nat)} (ha : H[a]? = some ⟨ys, true, true, true, 1⟩) (hn : ys.length = n) (hys : HParts (LtN H.length) H ys qs) (hp : Args H pv ps) (h10 : n ≤ 10) (hps : ps.length ≤ 1000) :
    ∃ v' l, appendV 1 24 H (.slice (some ⟨a, 0, none⟩) n n) pv = some (v', H ++ l, none, []) ∧ Args (H ++ l) v' (qs ++ ps) := by
  have hAr : Args H (.slice (some ⟨a, 0, none⟩) n n) qs := Args.arr ha hn hys (by omega)
  subst hn
  obtain ⟨xs, hp⟩ := hp
  have h4 : liveAt H a = some ⟨ys, true, true, true, 1⟩ := liveAt_some ha rfl
  have h8 : elemsOf H 1 ys.length (.slice (some ⟨a, 0, none⟩) ys.length ys.length) = some ys := by simp [elemsOf, h4]
  have k1 := hp.len
  have k2 := hp.reads H (fun _ _ => rfl)
  have k3 := hp.few
  have k4 := hp.parts.len
  rcases Nat.eq_zero_or_pos xs.length with h0 | h0
  · have hx : xs = [] := List.eq_nil_of_length_eq_zero h0
    have hps' : ps = [] := List.eq_nil_of_length_eq_zero (by rw [hp.parts.len, h0])
    subst hx hps'
    refine ⟨.slice (some ⟨a, 0, none⟩) ys.length ys.length, [], ?_, by rw [List.append_nil, List.append_nil]; exact hAr⟩
    rw [List.length_nil] at k1 k2
    simp only [appendV, k1, k2, Option.bind_some, if_true, List.append_nil]
  · have h1 : ¬ xs.length = 0 := by omega
    have h2 : (ys.length + xs.length) * 24 ≤ 2 ^ 47 := by omega
    have h7 : ¬ (ys.length + xs.length ≤ ys.length) := by omega
    refine ⟨.slice (some ⟨H.length, 0, none⟩) (ys.length + xs.length) (ys.length + xs.length), [Ob.grown 1 (ys ++ xs)], ?_, ?_⟩
    · simp only [appendV, k1, k2, Option.bind_some, if_neg h1, h2, Nat.zero_lt_succ, Nat.lt_add_one, Nat.zero_lt_one, and_self, not_true_eq_false, if_false, if_true, h4, h8, if_neg h7]
    · refine Args.arr (ys := ys ++ xs) (e := false) (s := 1) (by rw [List.getElem?_append_right (Nat.le_refl _), Nat.sub_self]; rfl) (by simp) ?_ (by omega)
      exact (hys.ext (fun i hi => List.getElem?_append_left hi) (by simp)).append (hp.parts.ext (fun i hi => List.getElem?_append_left hi) (by simp))
theorem sum_args {H : List Ob} {pv : Value} {ps : List (List Nat)} (h : Args H pv ps) (hb : ps.flatten.length < 2 ^ 49) : ∃ l, evFun T 25 [pv] H = some (.agg (u8s (sha ps.flatten)).toArray, H ++ l, []) := by
  obtain ⟨xs, h⟩ := h
  have := h.few
  exact sum512_ev h.inPv h.parts (by omega) hb
def redL (b : List Nat) : List Nat := rd (sha b)
theorem redL_len {b : List Nat} : (redL b).length = 32 := rd_len
theorem redL_lt {b : List Nat} : ∀ x ∈ redL b, x < 256 := rd_lt
theorem signReduce_ev {H : List Ob} {pv : Value} {ps : List (List Nat)} (h : Args H pv ps) (hb : ps.flatten.length < 2 ^ 49) :
    ∃ l, evFun T 17 [pv] H = some (.agg (u8s (redL ps.flatten)).toArray, H ++ l, []) := by
  have hz : List.replicate 32 (Value.int .u8 0) = u8s (dig 256 32 0) := rfl
  have lz : (dig 256 32 0).length = 32 := rfl
  have hz64 := z64_eq
  have lz64 : (List.replicate 64 0).length = 64 := List.length_replicate
  obtain ⟨l1, h1⟩ := sum_args (h.app (l := [⟨u8s (dig 256 32 0), true, true, true, 1⟩])) hb
  have ls := sha_len ps.flatten
  have xs := sha_lt ps.flatten
  -- the heap ahead of the call of Reduce
  obtain ⟨G, hG⟩ : ∃ X, X = H ++ (⟨u8s (dig 256 32 0), true, true, true, 1⟩ :: (l1 ++ [⟨u8s (sha ps.flatten), true, true, true, 1⟩, ⟨[.slice (some ⟨H.length + (l1.length + 1), 0, none⟩) 64 64], true, true, true, 1⟩])) := ⟨_, rfl⟩
  have hGl : G.length = H.length + (l1.length + 3) := by rw [hG]; simp
  have hg1 : G[H.length + (l1.length + 1)]? = some ⟨u8s (sha ps.flatten), true, true, true, 1⟩ := by
    rw [hG, List.getElem?_append_right (by omega), Nat.add_sub_cancel_left, List.getElem?_cons_succ, List.getElem?_append_right (Nat.le_refl _), Nat.sub_self]; rfl
  have hg2 : G[H.length + (l1.length + 1 + 1)]? = some ⟨[.slice (some ⟨H.length + (l1.length + 1), 0, none⟩) 64 64], true, true, true, 1⟩ := by
    rw [hG, List.getElem?_append_right (by omega), Nat.add_sub_cancel_left, List.getElem?_cons_succ, List.getElem?_append_right (by omega), Nat.add_sub_cancel_left]; rfl
  have hP : Parts .u8 G (H.length + (l1.length + 1 + 1)) 0 [sha ps.flatten] := by
    refine ⟨_, liveAt_some hg2 rfl, fun i p hi => ?_⟩
    cases i with
    | zero =>
      simp at hi; subst hi
      refine ⟨_, rfl, ?_⟩
      have := Sl.mk (k := .u8) (c := 64) (off := 0) (l := sha ps.flatten) (liveAt_some hg1 rfl) (by simp [u8s_len]) (fun i x hx => by rw [Nat.zero_add]; exact u8s_get hx)
      rwa [ls] at this
    | succ i => simp at hi
  obtain ⟨l2, h2⟩ := reduce_ev (c := 1) (n := 1) hP rfl (by decide) (by simp [ls]) (by simpa using xs)
  rw [List.flatten_cons, List.flatten_nil, List.append_nil] at h2
  have hfr : ∀ i, i < H.length → ((G ++ l2).set H.length (⟨u8s (redL ps.flatten), true, true, true, 1⟩ : Ob))[i]? = H[i]? := fun i hi => by
    rw [List.getElem?_set_ne (by omega), List.getElem?_append_left (by omega), hG, List.getElem?_append_left hi]
  obtain ⟨l, hl⟩ := ext_app (H := H) (by rw [List.length_set, List.length_append]; omega) hfr
  refine ⟨l, ?_⟩
  rw [← hl]
  have g4 : ∀ o : Ob, ((G ++ l2).set H.length o)[H.length]? = some o := fun o => List.getElem?_set_self (by rw [List.length_append]; omega)
  have f1 : fillL [Value.slice none 0 0] [(0, 1, .slice (some ⟨H.length + (l1.length + 1), 0, none⟩) 64 64)] = some [.slice (some ⟨H.length + (l1.length + 1), 0, none⟩) 64 64] := rfl
  have lr := redL_len (b := ps.flatten)
  rw [show dig 256 32 (num 256 (sha ps.flatten) % ell) = redL ps.flatten from rfl] at h2
  have F1 : H ++ (⟨u8s (dig 256 32 0), true, true, true, 1⟩ :: (l1 ++ [⟨u8s (sha ps.flatten), true, true, true, 1⟩, ⟨[.slice (some ⟨H.length + (l1.length + 1), 0, none⟩) 64 64], true, true, true, 1⟩])) = G := hG.symm
  have hg3 : (G ++ l2)[H.length]? = some ⟨u8s (dig 256 32 0), true, true, true, 1⟩ := by
    rw [List.getElem?_append_left (by omega), hG, List.getElem?_append_right (Nat.le_refl _), Nat.sub_self]; rfl
  rw [List.append_assoc, List.cons_append, List.nil_append] at h1
  generalize redL ps.flatten = R at *
  generalize sha ps.flatten = S at *
  generalize dig 256 32 0 = Z at *
  generalize List.replicate 64 0 = Z64 at *
  rw [evFun_fn (fn := a210) rfl]
  simp only [a210, ↓steps_chunk, envOf, quiet, cF, ↓pF, reduceCtorEq, Nat.reduceEqDiff, Int.reduceEq, fs_callW, fs_regionQ, quiet2_eq, lastOf_nil, lastOf_cons, List.take_succ_cons, List.take_zero, List.drop_succ_cons, List.drop_zero, Int.reduceBEq, Int.reduceBNe, ↓keepW_some, ↓qElseW_some, ↓guardW_tt, ↓guardW_ff, ↓guardW_tf, ↓guardW_ft, cL, Int.reduceLE, Int.reduceLT, Int.reduceAdd, Int.reduceMul, Int.reduceSub, Int.reduceTDiv, Int.reduceTMod, Int.reduceNeg, Int.reduceToNat, Int.reduceGT, Int.reduceGE, Int.reducePow, Nat.reduceAdd, Nat.reduceMul, Nat.reduceSub, Nat.reduceDiv, Nat.reduceMod, Nat.reducePow, Nat.reduceLT, Nat.reduceLeDiff, cJ, hz, hz64, h1, f1, F1, h2, hg3, g4, eV_cells, eV_size, eV_ok, eV_fold, u8s_len, lz, lz64, ls, lr, take_all, List.length_replicate]
end Go.Ev.Ytgacigcbglflkaa
set_option linter.unusedSimpArgs false
set_option linter.unusedVariables false
namespace Go.Ev.Ytgacigcbglflkaa
open Go Go.Ev
attribute [local congr] bind_congr2 ite_congr2 qElse_congr gate_congr guardV_congr
set_option maxRecDepth 100000
def scL (s : List Nat) : List Nat := clampL ((sha s).take 32) ((sha s).getD 0 0) ((sha s).getD 31 0)
def pfL (s : List Nat) : List Nat := (sha s).drop 32
theorem scL_len (s : List Nat) : (scL s).length = 32 := by simp [scL, clampL, sha_len]
theorem pfL_len (s : List Nat) : (pfL s).length = 32 := by simp [pfL, sha_len]
theorem sha_at (s : List Nat) {i : Nat} (h : i < 64) : ∃ x, (sha s)[i]? = some x ∧ (sha s).getD i 0 = x ∧ x < 256 := by
  obtain ⟨x, hx⟩ : ∃ x, (sha s)[i]? = some x := ⟨_, List.getElem?_eq_getElem (by rw [sha_len]; exact h)⟩
  exact ⟨x, hx, getD_of hx, sha_lt s x (List.mem_of_getElem? hx)⟩
theorem scL_lt (s : List Nat) : ∀ y ∈ scL s, y < 256 := by
  obtain ⟨x, -, e1, lx⟩ := sha_at s (i := 0) (by decide)
  obtain ⟨z, -, e2, lz⟩ := sha_at s (i := 31) (by decide)
  have h1 : x &&& 248 < 256 := Nat.and_lt_two_pow (n := 8) _ (by decide)
  have h2 : (z &&& 127) ||| 64 < 256 := Nat.or_lt_two_pow (n := 8) (Nat.and_lt_two_pow (n := 8) _ (by decide)) (by decide)
  rw [scL, clampL, e1, e2]
  exact set_lt (set_lt (fun y hy => sha_lt s y (List.mem_of_mem_take hy)) h1) h2
theorem pfL_lt (s : List Nat) : ∀ y ∈ pfL s, y < 256 := fun y hy => sha_lt s y (List.mem_of_mem_drop hy)
theorem u8s_take (n : Nat) (l : List Nat) : List.take n (u8s l) = u8s (l.take n) := by simp [u8s, List.map_take]
theorem u8s_drop (n : Nat) (l : List Nat) : List.drop n (u8s l) = u8s (l.drop n) := by simp [u8s, List.map_drop]
theorem u8s_append (a b : List Nat) : u8s (a ++ b) = u8s a ++ u8s b := by simp [u8s]
theorem fill_two {a b : List Nat} (la : a.length = 32) (lb : b.length = 32) : fillL (u8s (List.replicate 64 0)) [(0, 32, .agg (u8s a).toArray), (32, 32, .agg (u8s b).toArray)] = some (u8s (a ++ b)) := by
  have l64 : (u8s (List.replicate 64 0)).length = 64 := by rw [u8s_len, List.length_replicate]
  have lA : (u8s a).length = 32 := by rw [u8s_len, la]
  have lB : (u8s b).length = 32 := by rw [u8s_len, lb]
  have ca : ∀ l : List Nat, (Value.agg (u8s l).toArray).cells.toList = u8s l := fun _ => rfl
  have cz : ∀ l : List Nat, (Value.agg (u8s l).toArray).cells.size = (u8s l).length := fun _ => rfl
  have ok : ∀ l : List Nat, okVar (Value.agg (u8s l).toArray) = true := fun _ => rfl
  have s1 : splice (u8s (List.replicate 64 0)) 0 (u8s a) = u8s a ++ (u8s (List.replicate 64 0)).drop 32 := by
    rw [splice_gen _ _ _ (by omega), List.take_zero, List.nil_append, Nat.zero_add, lA]
  have s2 : splice (u8s a ++ (u8s (List.replicate 64 0)).drop 32) 32 (u8s b) = u8s (a ++ b) := by
    rw [splice_gen _ _ _ (by rw [List.length_append, List.length_drop]; omega), List.take_append_of_le_length (by omega), List.take_of_length_le (by omega), List.drop_of_length_le (by rw [List.length_append, List.length_drop]; omega), List.append_nil, u8s_append]
  have e1 : (u8s a).length = 32 ∧ 0 + 32 ≤ (u8s (List.replicate 64 0)).length ∧ True := ⟨lA, by omega, trivial⟩
  have e2 : (u8s b).length = 32 ∧ 32 + 32 ≤ (u8s a ++ (u8s (List.replicate 64 0)).drop 32).length ∧ True := ⟨lB, by rw [List.length_append, List.length_drop]; omega, trivial⟩
  simp only [fillL, ca, cz, ok, s1, s2, if_pos e1, if_pos e2]
theorem halves_v {s : List Nat} (ls : s.length = 32) (xs : ∀ y ∈ s, y < 256) : evVal T 13 [.agg (u8s s).toArray] = some (.agg (u8s (scL s ++ pfL s)).toArray) := by
  have hz64 := z64_eq
  have lz64 : (List.replicate 64 0).length = 64 := List.length_replicate
  obtain ⟨G, hG⟩ : ∃ X, X = [(⟨u8s s, true, true, true, 1⟩ : Ob), ⟨u8s (List.replicate 64 0), true, true, true, 1⟩, ⟨[.slice (some ⟨0, 0, none⟩) 32 32], true, true, true, 1⟩] := ⟨_, rfl⟩
  have hA : Args G (.slice (some ⟨2, 0, none⟩) 1 1) [s] := by
    have hp : HPart (LtN G.length) G (.slice (some ⟨0, 0, none⟩) 32 32) s := by
      have := HPart.whole (n := G.length) (H := G) (id := 0) (c := 32) (b := s) (by rw [hG]; exact Nat.zero_lt_succ _) (by rw [hG]; rfl) xs (by rw [ls]; decide)
      rwa [ls] at this
    exact Args.arr (ys := [.slice (some ⟨0, 0, none⟩) 32 32]) (e := true) (s := 1) (by rw [hG]; rfl) rfl (.cons hp .nil) (by decide)
  obtain ⟨l, h1⟩ := sum_args hA (by simp [ls])
  rw [List.flatten_cons, List.flatten_nil, List.append_nil, hG] at h1
  simp only [List.cons_append, List.nil_append] at h1
  obtain ⟨x, g0, d0, lx⟩ := sha_at s (i := 0) (by decide)
  obtain ⟨z, g31, d31, lz⟩ := sha_at s (i := 31) (by decide)
  have lS := sha_len s
  have lt32 : ((sha s).take 32).length = 32 := by rw [List.length_take, lS]; rfl
  obtain ⟨lc, hc⟩ := clamp_ev (a := (sha s).take 32) (x := x) (y := z) lt32 (by rw [List.getElem?_take, if_pos (by decide)]; exact g0) (by rw [List.getElem?_take, if_pos (by decide)]; exact g31) lx lz
  have hcv := evVal_of hc
  rw [show clampL ((sha s).take 32) x z = scL s by rw [scL, d0, d31]] at hcv
  have hf := fill_two (scL_len s) (pfL_len s)
  have f1 : fillL [Value.slice none 0 0] [(0, 1, .slice (some ⟨0, 0, none⟩) 32 32)] = some [.slice (some ⟨0, 0, none⟩) 32 32] := rfl
  have t1 : List.take 32 (u8s (sha s)) = u8s ((sha s).take 32) := u8s_take _ _
  have t2 : List.take 32 (List.drop 32 (u8s (sha s))) = u8s (pfL s) := by rw [u8s_drop, u8s_take, List.take_of_length_le (by rw [List.length_drop, lS]; decide)]; rfl
  have l1 := scL_len s
  have l2 := pfL_len s
  have l3 : (scL s ++ pfL s).length = 64 := by rw [List.length_append, l1, l2]
  clear hG hA
  generalize (sha s).take 32 = S1 at *
  generalize pfL s = S2 at *
  generalize scL s = S3 at *
  generalize S3 ++ S2 = R at *
  generalize sha s = S at *
  generalize List.replicate 64 0 = Z64 at *
  apply evVal_ex
  apply Exists.intro
  rw [evFun_fn (fn := a209) rfl]
  simp only [a209, ↓steps_chunk, envOf, quiet, cF, ↓pF, reduceCtorEq, Nat.reduceEqDiff, Int.reduceEq, fs_callW, fs_regionQ, quiet2_eq, lastOf_nil, lastOf_cons, List.take_succ_cons, List.take_zero, List.drop_succ_cons, List.drop_zero, Int.reduceBEq, Int.reduceBNe, ↓keepW_some, ↓qElseW_some, ↓guardW_tt, ↓guardW_ff, ↓guardW_tf, ↓guardW_ft, cL, Int.reduceLE, Int.reduceLT, Int.reduceAdd, Int.reduceMul, Int.reduceSub, Int.reduceTDiv, Int.reduceTMod, Int.reduceNeg, Int.reduceToNat, Int.reduceGT, Int.reduceGE, Int.reducePow, Nat.reduceAdd, Nat.reduceMul, Nat.reduceSub, Nat.reduceDiv, Nat.reduceMod, Nat.reducePow, Nat.reduceLT, Nat.reduceLeDiff, cJ, hz64, h1, f1, t1, t2, hcv, hf, eV_cells, eV_size, eV_ok, eV_fold, u8s_len, ls, lS, lz64, l1, l2, l3, lt32, take_all, List.length_replicate]
  rfl
def pubL (s : List Nat) : List Nat := enc (pmul (num 256 (scL s)) pbase)
theorem public_v {s : List Nat} (ls : s.length = 32) (xs : ∀ y ∈ s, y < 256) : evVal T 10 [.agg (u8s s).toArray] = some (.agg (u8s (pubL s)).toArray) := by
  have hz : List.replicate 32 (Value.int .u8 0) = u8s (dig 256 32 0) := rfl
  have lz : (dig 256 32 0).length = 32 := rfl
  have hh := halves_v ls xs
  obtain ⟨B, hB, rB⟩ := base_v
  obtain ⟨P, hP, rP⟩ := multiply_v rB (scL_len s) (scL_lt s)
  have hE := encode_v rP
  have lE := enc_len (pmul (num 256 (scL s)) pbase)
  have l1 := scL_len s
  have l2 := pfL_len s
  have t1 : List.take 32 (u8s (scL s ++ pfL s)) = u8s (scL s) := by rw [u8s_take, List.take_append_of_le_length (by omega), List.take_of_length_le (by omega)]
  have l3 : (scL s ++ pfL s).length = 64 := by rw [List.length_append, l1, l2]
  unfold pubL
  generalize enc (pmul (num 256 (scL s)) pbase) = E at *
  generalize scL s ++ pfL s = R at *
  generalize scL s = S3 at *
  generalize dig 256 32 0 = Z at *
  apply evVal_ex
  apply Exists.intro
  rw [evFun_fn (fn := a208) rfl]
  simp only [a208, ↓steps_chunk, envOf, quiet, cF, ↓pF, reduceCtorEq, Nat.reduceEqDiff, Int.reduceEq, fs_callW, fs_regionQ, quiet2_eq, lastOf_nil, lastOf_cons, List.take_succ_cons, List.take_zero, List.drop_succ_cons, List.drop_zero, Int.reduceBEq, Int.reduceBNe, ↓keepW_some, ↓qElseW_some, ↓guardW_tt, ↓guardW_ff, ↓guardW_tf, ↓guardW_ft, cL, Int.reduceLE, Int.reduceLT, Int.reduceAdd, Int.reduceMul, Int.reduceSub, Int.reduceTDiv, Int.reduceTMod, Int.reduceNeg, Int.reduceToNat, Int.reduceGT, Int.reduceGE, Int.reducePow, Nat.reduceAdd, Nat.reduceMul, Nat.reduceSub, Nat.reduceDiv, Nat.reduceMod, Nat.reducePow, Nat.reduceLT, Nat.reduceLeDiff, cJ, hz, hh, hB, hP, hE, t1, eV_cells, eV_size, eV_ok, eV_fold, u8s_len, ls, lz, l1, l3, lE, take_all, List.length_replicate, rf_eV]
  rfl
end Go.Ev.Ytgacigcbglflkaa
set_option linter.unusedSimpArgs false
set_option linter.unusedVariables false
namespace Go.Ev.Ytgacigcbglflkaa
open Go Go.Ev
attribute [local congr] bind_congr2 ite_congr2 qElse_congr gate_congr guardV_congr
set_option maxRecDepth 100000
def rL (s m : List Nat) : List Nat := redL (pfL s ++ m)
def frL (s m : List Nat) : List Nat := enc (pmul (num 256 (rL s m)) pbase)
def chL (front pub m : List Nat) : List Nat := redL (front ++ (pub ++ m))
def bkL (s m : List Nat) : List Nat := mA (chL (frL s m) (pubL s) m) (scL s) (rL s m)
def sigL (s m : List Nat) : List Nat := frL s m ++ bkL s m
theorem frL_len (s m : List Nat) : (frL s m).length = 32 := enc_len _
theorem frL_lt (s m : List Nat) : ∀ y ∈ frL s m, y < 256 := enc_lt _
theorem pubL_len (s : List Nat) : (pubL s).length = 32 := enc_len _
theorem pubL_lt (s : List Nat) : ∀ y ∈ pubL s, y < 256 := enc_lt _
theorem bkL_len (s m : List Nat) : (bkL s m).length = 32 := mA_len
theorem bkL_lt (s m : List Nat) : ∀ y ∈ bkL s m, y < 256 := mA_lt
theorem sigL_len (s m : List Nat) : (sigL s m).length = 64 := by rw [sigL, List.length_append, frL_len, bkL_len]
theorem app_exact {H : List Ob} {a b n m c : Nat} {fa fb : List Nat} {e : Bool} {s : Nat} (ha : H[a]? = some ⟨u8s fa, true, true, true, 1⟩) (hb : H[b]? = some ⟨u8s fb, true, true, e, s⟩) (hn : fa.length = n) (hm : fb.length = m) (h0 : 0 < m) (hs : n + m ≤ 1000) :
    appendV 1 1 H (.slice (some ⟨a, 0, none⟩) n n) (.slice (some ⟨b, 0, none⟩) m c) = some (.slice (some ⟨H.length, 0, none⟩) (n + m) (n + m), H ++ [⟨u8s (fa ++ fb), true, true, false, 1⟩], none, []) := by
  have h4 : liveAt H a = some ⟨u8s fa, true, true, true, 1⟩ := liveAt_some ha rfl
  have k2 : elemsOf H 1 m (.slice (some ⟨b, 0, none⟩) m c) = some (u8s fb) := by
    simp [elemsOf, liveAt_some hb rfl, u8s_len, hm]
    exact List.take_of_length_le (by rw [u8s_len, hm]; exact Nat.le_refl _)
  have h8 : elemsOf H 1 n (.slice (some ⟨a, 0, none⟩) n n) = some (u8s fa) := by
    simp [elemsOf, h4, u8s_len, hn]
    exact List.take_of_length_le (by rw [u8s_len, hn]; exact Nat.le_refl _)
  have h1 : ¬ m = 0 := by omega
  have h2 : (n + m) * 1 ≤ 2 ^ 47 := by omega
  have h7 : ¬ (n + m ≤ n) := by omega
  have k1 : Go.Ev.lenV (.slice (some ⟨b, 0, none⟩) m c) = some m := rfl
  simp only [appendV, k1, k2, Option.bind_some, if_neg h1, h2, Nat.zero_lt_succ, Nat.lt_add_one, Nat.zero_lt_one, and_self, not_true_eq_false, if_false, if_true, h4, h8, if_neg h7, Ob.grown, ← u8s_append]
theorem make_ev {H : List Ob} {s : List Nat} {pv : Value} {ps : List (List Nat)} (ls : s.length = 32) (xs : ∀ y ∈ s, y < 256) (hp : Args H pv ps) (hn : ps.length ≤ 1000) (hb : ps.flatten.length < 2 ^ 48) :
    ∃ l, evFun T 8 [.agg (u8s s).toArray, pv] H = some (.agg (u8s (sigL s ps.flatten)).toArray, H ++ l, []) := by
  have hz : List.replicate 32 (Value.int .u8 0) = u8s (dig 256 32 0) := rfl
  have lz : (dig 256 32 0).length = 32 := rfl
  have hz64 := z64_eq
  have lz64 : (List.replicate 64 0).length = 64 := List.length_replicate
  have hh := halves_v ls xs
  have l1 := scL_len s
  have l2 := pfL_len s
  have l3 : (scL s ++ pfL s).length = 64 := by rw [List.length_append, l1, l2]
  have x3 : ∀ y ∈ scL s ++ pfL s, y < 256 := fun y hy => (List.mem_append.1 hy).elim (scL_lt s y) (pfL_lt s y)
  obtain ⟨B, hB, rB⟩ := base_v
  obtain ⟨P, hP, rP⟩ := multiply_v rB (scL_len s) (scL_lt s)
  have hE := encode_v rP
  rw [show enc (pmul (num 256 (scL s)) pbase) = pubL s from rfl] at hE
  have lA := pubL_len s
  -- r
  obtain ⟨G1, hG1⟩ : ∃ X, X = H ++ [(⟨u8s s, true, true, true, 1⟩ : Ob), ⟨u8s (List.replicate 64 0), true, true, true, 1⟩, ⟨u8s (scL s ++ pfL s), true, true, true, 1⟩, ⟨u8s (pubL s), true, true, true, 1⟩, ⟨[.slice (some ⟨H.length + 2, 32, none⟩) 32 32], true, true, true, 1⟩] := ⟨_, rfl⟩
  have lG1 : G1.length = H.length + 5 := by rw [hG1]; simp
  have gz : G1[H.length + 1]? = some ⟨u8s (List.replicate 64 0), true, true, true, 1⟩ := by rw [hG1, List.getElem?_append_right (by omega), Nat.add_sub_cancel_left]; rfl
  have gh : G1[H.length + 2]? = some ⟨u8s (scL s ++ pfL s), true, true, true, 1⟩ := by rw [hG1, List.getElem?_append_right (by omega), Nat.add_sub_cancel_left]; rfl
  have gA : G1[H.length + 3]? = some ⟨u8s (pubL s), true, true, true, 1⟩ := by rw [hG1, List.getElem?_append_right (by omega), Nat.add_sub_cancel_left]; rfl
  have ga : G1[H.length + 4]? = some ⟨[.slice (some ⟨H.length + 2, 32, none⟩) 32 32], true, true, true, 1⟩ := by rw [hG1, List.getElem?_append_right (by omega), Nat.add_sub_cancel_left]; rfl
  have hp1 : Args G1 pv ps := by rw [hG1]; exact hp.app
  have part1 : HPart (LtN G1.length) G1 (.slice (some ⟨H.length + 2, 32, none⟩) 32 32) (pfL s) := by
    have := HPart.arr (n := G1.length) (off := 32) (m := 32) (c := 32) (by omega) gh x3 (by rw [l3]; decide) (by decide)
    rwa [List.drop_append_of_le_length (by omega), List.drop_of_length_le (by omega), List.nil_append, List.take_of_length_le (by omega)] at this
  obtain ⟨v1, k1, ha1, hA1⟩ := args_append (n := 1) ga rfl (.cons part1 .nil) hp1 (by decide) hn
  obtain ⟨k2, hr⟩ := signReduce_ev hA1 (by rw [List.flatten_append, List.flatten_cons, List.flatten_nil, List.append_nil, List.length_append, l2]; omega)
  rw [List.flatten_append, List.flatten_cons, List.flatten_nil, List.append_nil, show redL (pfL s ++ ps.flatten) = rL s ps.flatten from rfl] at hr
  have lr : (rL s ps.flatten).length = 32 := redL_len
  obtain ⟨G2, hG2⟩ : ∃ X, X = G1 ++ (k1 ++ k2) := ⟨_, rfl⟩
  have lG2 : G1.length ≤ G2.length := by rw [hG2]; simp
  obtain ⟨P2, hP2, rP2⟩ := multiply_v rB lr redL_lt
  have hE2 := encode_v rP2
  rw [show enc (pmul (num 256 (rL s ps.flatten)) pbase) = frL s ps.flatten from rfl] at hE2
  have lF := frL_len s ps.flatten
  -- k
  obtain ⟨G3, hG3⟩ : ∃ X, X = G2 ++ [(⟨u8s (rL s ps.flatten), true, true, true, 1⟩ : Ob), ⟨u8s (frL s ps.flatten), true, true, true, 1⟩, ⟨[.slice (some ⟨G2.length + 1, 0, none⟩) 32 32, .slice (some ⟨H.length + 3, 0, none⟩) 32 32], true, true, true, 1⟩] := ⟨_, rfl⟩
  have lG3 : G3.length = G2.length + 3 := by rw [hG3]; simp
  have up13 : ∀ i, i < G1.length → G3[i]? = G1[i]? := fun i hi => by rw [hG3, List.getElem?_append_left (by omega), hG2, List.getElem?_append_left hi]
  have hr3 : G3[G2.length]? = some ⟨u8s (rL s ps.flatten), true, true, true, 1⟩ := by rw [hG3, List.getElem?_append_right (Nat.le_refl _), Nat.sub_self]; rfl
  have hf3 : G3[G2.length + 1]? = some ⟨u8s (frL s ps.flatten), true, true, true, 1⟩ := by rw [hG3, List.getElem?_append_right (by omega), Nat.add_sub_cancel_left]; rfl
  have harr3 : G3[G2.length + 2]? = some ⟨[.slice (some ⟨G2.length + 1, 0, none⟩) 32 32, .slice (some ⟨H.length + 3, 0, none⟩) 32 32], true, true, true, 1⟩ := by rw [hG3, List.getElem?_append_right (by omega), Nat.add_sub_cancel_left]; rfl
  have hp3 : Args G3 pv ps := hp1.ext up13 (by omega)
  have partF : HPart (LtN G3.length) G3 (.slice (some ⟨G2.length + 1, 0, none⟩) 32 32) (frL s ps.flatten) := by
    have := HPart.whole (n := G3.length) (c := 32) (by omega) hf3 (frL_lt s _) (by rw [lF]; decide)
    rwa [lF] at this
  have partA : HPart (LtN G3.length) G3 (.slice (some ⟨H.length + 3, 0, none⟩) 32 32) (pubL s) := by
    have := HPart.whole (n := G3.length) (c := 32) (by omega) ((up13 _ (by omega)).trans gA) (pubL_lt s) (by rw [lA]; decide)
    rwa [lA] at this
  obtain ⟨v3, k3, ha3, hA3⟩ := args_append (n := 2) harr3 rfl (.cons partF (.cons partA .nil)) hp3 (by decide) hn
  obtain ⟨k4, hk⟩ := signReduce_ev hA3 (by rw [List.flatten_append, List.flatten_cons, List.flatten_cons, List.flatten_nil, List.append_nil, List.length_append, List.length_append, lF, lA]; omega)
  rw [List.flatten_append, List.flatten_cons, List.flatten_cons, List.flatten_nil, List.append_nil, List.append_assoc, show redL (frL s ps.flatten ++ (pubL s ++ ps.flatten)) = chL (frL s ps.flatten) (pubL s) ps.flatten from rfl] at hk
  have lk : (chL (frL s ps.flatten) (pubL s) ps.flatten).length = 32 := redL_len
  obtain ⟨G4, hG4⟩ : ∃ X, X = G3 ++ (k3 ++ k4) := ⟨_, rfl⟩
  have lG4 : G3.length ≤ G4.length := by rw [hG4]; simp
  have up34 : ∀ i, i < G3.length → G4[i]? = G3[i]? := fun i hi => by rw [hG4, List.getElem?_append_left hi]
  obtain ⟨q, hm⟩ := mulAdd_mA lk l1 lr redL_lt (scL_lt s) redL_lt
  have hmv := evVal_of hm
  rw [show mA (chL (frL s ps.flatten) (pubL s) ps.flatten) (scL s) (rL s ps.flatten) = bkL s ps.flatten from rfl] at hmv
  have lB := bkL_len s ps.flatten
  -- the signature
  obtain ⟨G5, hG5⟩ : ∃ X, X = G4 ++ [(⟨u8s (chL (frL s ps.flatten) (pubL s) ps.flatten), true, true, true, 1⟩ : Ob), ⟨u8s (bkL s ps.flatten), true, true, true, 1⟩] := ⟨_, rfl⟩
  have lG5 : G5.length = G4.length + 2 := by rw [hG5]; simp
  have hf5 : G5[G2.length + 1]? = some ⟨u8s (frL s ps.flatten), true, true, true, 1⟩ := by rw [hG5, List.getElem?_append_left (by omega), up34 _ (by omega)]; exact hf3
  have hb5 : G5[G4.length + 1]? = some ⟨u8s (bkL s ps.flatten), true, true, true, 1⟩ := by rw [hG5, List.getElem?_append_right (by omega), Nat.add_sub_cancel_left]; rfl
  have hap := app_exact (c := 32) hf5 hb5 lF lB (by decide) (by decide)
  rw [show frL s ps.flatten ++ bkL s ps.flatten = sigL s ps.flatten from rfl] at hap
  have lS := sigL_len s ps.flatten
  have g4h : ∀ l : List Ob, (G4 ++ l)[H.length + 2]? = some ⟨u8s (scL s ++ pfL s), true, true, true, 1⟩ := fun l => by rw [List.getElem?_append_left (by omega), up34 _ (by omega), up13 _ (by omega)]; exact gh
  have g4r : ∀ l : List Ob, (G4 ++ l)[G2.length]? = some ⟨u8s (rL s ps.flatten), true, true, true, 1⟩ := fun l => by rw [List.getElem?_append_left (by omega), up34 _ (by omega)]; exact hr3
  have g5z : ∀ l : List Ob, (G5 ++ l)[H.length + 1]? = some ⟨u8s (List.replicate 64 0), true, true, true, 1⟩ := fun l => by rw [List.getElem?_append_left (by omega), hG5, List.getElem?_append_left (by omega), up34 _ (by omega), up13 _ (by omega)]; exact gz
  have hfr : ∀ i, i < H.length → ((G5 ++ [(⟨u8s (sigL s ps.flatten), true, true, false, 1⟩ : Ob)]).set (H.length + 1) (⟨u8s (sigL s ps.flatten), true, true, true, 1⟩ : Ob))[i]? = H[i]? := fun i hi => by
    rw [List.getElem?_set_ne (by omega), List.getElem?_append_left (by omega), hG5, List.getElem?_append_left (by omega), up34 _ (by omega), up13 _ (by omega), hG1, List.getElem?_append_left hi]
  obtain ⟨l, hl⟩ := ext_app (H := H) (by rw [List.length_set, List.length_append]; omega) hfr
  refine ⟨l, ?_⟩
  rw [← hl]
  have g6 : ∀ o : Ob, ((G5 ++ [(⟨u8s (sigL s ps.flatten), true, true, false, 1⟩ : Ob)]).set (H.length + 1) o)[H.length + 1]? = some o := fun o => List.getElem?_set_self (by rw [List.length_append]; omega)
  have f1 : fillL [Value.slice none 0 0] [(0, 1, .slice (some ⟨H.length + 2, 32, none⟩) 32 32)] = some [.slice (some ⟨H.length + 2, 32, none⟩) 32 32] := rfl
  have f2 : fillL [Value.slice none 0 0, .slice none 0 0] [(0, 1, .slice (some ⟨G2.length + 1, 0, none⟩) 32 32), (1, 1, .slice (some ⟨H.length + 3, 0, none⟩) 32 32)] = some [.slice (some ⟨G2.length + 1, 0, none⟩) 32 32, .slice (some ⟨H.length + 3, 0, none⟩) 32 32] := rfl
  have t1 : List.take 32 (u8s (scL s ++ pfL s)) = u8s (scL s) := by rw [u8s_take, List.take_append_of_le_length (by omega), List.take_of_length_le (by omega)]
  have F1 : H ++ [(⟨u8s s, true, true, true, 1⟩ : Ob), ⟨u8s (List.replicate 64 0), true, true, true, 1⟩, ⟨u8s (scL s ++ pfL s), true, true, true, 1⟩, ⟨u8s (pubL s), true, true, true, 1⟩, ⟨[.slice (some ⟨H.length + 2, 32, none⟩) 32 32], true, true, true, 1⟩] = G1 := hG1.symm
  have F2 : G1 ++ (k1 ++ k2) = G2 := hG2.symm
  have F3 : G2 ++ [(⟨u8s (rL s ps.flatten), true, true, true, 1⟩ : Ob), ⟨u8s (frL s ps.flatten), true, true, true, 1⟩, ⟨[.slice (some ⟨G2.length + 1, 0, none⟩) 32 32, .slice (some ⟨H.length + 3, 0, none⟩) 32 32], true, true, true, 1⟩] = G3 := hG3.symm
  have F4 : G3 ++ (k3 ++ k4) = G4 := hG4.symm
  have F5 : G4 ++ [(⟨u8s (chL (frL s ps.flatten) (pubL s) ps.flatten), true, true, true, 1⟩ : Ob), ⟨u8s (bkL s ps.flatten), true, true, true, 1⟩] = G5 := hG5.symm
  have im1 : inMerge H.length [] [G2.length] = [] := inMerge_ge (by simp; omega)
  have im2 : inMerge H.length [] [G2.length + 1] = [] := inMerge_ge (by simp; omega)
  have im3 : inMerge H.length [] [G4.length] = [] := inMerge_ge (by simp; omega)
  have im4 : inMerge H.length [] [G4.length + 1] = [] := inMerge_ge (by simp; omega)
  have ls1 : [Value.slice (some ⟨H.length + 2, 32, none⟩) 32 32].length = 1 := rfl
  clear hG1 hG2 hG3 hG4 hG5 hl hfr hm hA1 hA3 partF partA part1
  rw [List.append_assoc] at hr hk
  generalize sigL s ps.flatten = S at *
  generalize bkL s ps.flatten = Bk at *
  generalize chL (frL s ps.flatten) (pubL s) ps.flatten = Ck at *
  generalize frL s ps.flatten = Fr at *
  generalize rL s ps.flatten = R at *
  generalize pubL s = A at *
  generalize scL s ++ pfL s = Hv at *
  generalize scL s = Sc at *
  generalize dig 256 32 0 = Z at *
  generalize List.replicate 64 0 = Z64 at *
  rw [evFun_fn (fn := a206) rfl]
  simp only [a206, ↓steps_chunk, envOf, quiet, cF, ↓pF, reduceCtorEq, Nat.reduceEqDiff, Int.reduceEq, fs_callW, fs_regionQ, quiet2_eq, lastOf_nil, lastOf_cons, List.take_succ_cons, List.take_zero, List.drop_succ_cons, List.drop_zero, Int.reduceBEq, Int.reduceBNe, ↓keepW_some, ↓qElseW_some, ↓guardW_tt, ↓guardW_ff, ↓guardW_tf, ↓guardW_ft, cL, Int.reduceLE, Int.reduceLT, Int.reduceAdd, Int.reduceMul, Int.reduceSub, Int.reduceTDiv, Int.reduceTMod, Int.reduceNeg, Int.reduceToNat, Int.reduceGT, Int.reduceGE, Int.reducePow, Nat.reduceAdd, Nat.reduceMul, Nat.reduceSub, Nat.reduceDiv, Nat.reduceMod, Nat.reducePow, Nat.reduceLT, Nat.reduceLeDiff, cJ, hz, hz64, hh, hB, hP, hE, f1, F1, ha1, hr, F2, hP2, hE2, f2, F3, ha3, hk, F4, g4h, g4r, t1, hmv, F5, hap, g5z, g6, im1, im2, im3, im4, eV_cells, eV_size, eV_ok, eV_fold, u8s_len, ls, lz, lz64, l1, l3, lA, lr, lF, lk, lB, lS, take_all, List.length_replicate, rf_eV]
end Go.Ev.Ytgacigcbglflkaa
set_option linter.unusedSimpArgs false
set_option linter.unusedVariables false
namespace Go.Ev.Ytgacigcbglflkaa
open Go Go.Ev
attribute [local congr] bind_congr2 ite_congr2 qElse_congr gate_congr guardV_congr
set_option maxRecDepth 100000
def ChkSpec (pub front back m : List Nat) (c : Int) : Prop :=
  ((∀ A, enc A ≠ pub) ∧ c = 60) ∨ ∃ A, enc A = pub ∧
    (((pmul 8 A = pzero ∨ ¬ num 256 back < ell) ∧ c = 70) ∨ (pmul 8 A ≠ pzero ∧ num 256 back < ell ∧
      (((∀ R, enc R ≠ front) ∧ c = 70) ∨ ∃ R, enc R = front ∧ c = if padd (pmul (num 256 back) pbase) (pmul (num 256 (chL front pub m)) A.neg) = R then 0 else 70)))
theorem vEq_keyN {k l : List Nat} (lk : k.length = 32) (ll : l.length = 32) : vEq (some (List.replicate 32 true)) true (.agg (u8s k).toArray) (.agg (u8s l).toArray) = some (.bool (!(k == l))) := by
  rw [vEq_aggN, cellsEq_u8 lk ll]
  rfl
theorem check_ev {H : List Ob} {pub front back : List Nat} {pv : Value} {ps : List (List Nat)} (lp : pub.length = 32) (xp : ∀ y ∈ pub, y < 256) (lf : front.length = 32) (xf : ∀ y ∈ front, y < 256) (lb : back.length = 32) (xb : ∀ y ∈ back, y < 256) (hp : Args H pv ps) (hn : ps.length ≤ 1000) (hb : ps.flatten.length < 2 ^ 48) :
    ∃ l c, evFun T 9 [.agg (u8s pub).toArray, .agg (u8s (front ++ back)).toArray, pv] H = some (.int .i64 c, H ++ l, []) ∧ ChkSpec pub front back ps.flatten c := by
  have hz : List.replicate 32 (Value.int .u8 0) = u8s (dig 256 32 0) := rfl
  have lz : (dig 256 32 0).length = 32 := rfl
  have hz20 : ∃ O, List.replicate 20 (Value.int .u64 0) = ns .u64 O ∧ O.length = 20 := ⟨List.replicate 20 0, rfl, rfl⟩
  obtain ⟨O, hz20, lO⟩ := hz20
  have rft : ∀ (r : List Nat) (c : Int), rf (Value.tuple #[eV r, .int .i64 c]) = true := fun r c => rf_tup2 (a := eV r) (b := .int .i64 c) (rf_eV r) rfl
  have lS : (front ++ back).length = 64 := by rw [List.length_append, lf, lb]
  have t1 : List.take 32 (u8s (front ++ back)) = u8s front := by rw [u8s_take, List.take_append_of_le_length (by omega), List.take_of_length_le (by omega)]
  have t2 : List.take 32 (List.drop 32 (u8s (front ++ back))) = u8s back := by rw [u8s_drop, List.drop_append_of_le_length (by omega), List.drop_of_length_le (by omega), List.nil_append, u8s_take, List.take_of_length_le (by omega)]
  rcases decode_v lp xp with ⟨A, a, hA, rA, eA⟩ | ⟨A, hA, lA, hno⟩
  · have p1 := rA.len
    have ht := tiny_v rA
    obtain ⟨qc, hcn⟩ := canonical_ev lb xb
    have hcv := evVal_of hcn
    unfold decV at hA
    by_cases htiny : pmul 8 a = pzero
    · rw [decide_eq_true htiny] at ht
      have hx : ∃ l, evFun T 9 [.agg (u8s pub).toArray, .agg (u8s (front ++ back)).toArray, pv] H = some (.int .i64 70, H ++ l, []) := by
        generalize front ++ back = S at *
        generalize dig 256 32 0 = Z at *
        apply Exists.intro
        rw [evFun_fn (fn := a207) rfl]
        simp only [a207, ↓steps_chunk, envOf, quiet, cF, ↓pF, reduceCtorEq, Nat.reduceEqDiff, Int.reduceEq, fs_callW, fs_regionQ, quiet2_eq, lastOf_nil, lastOf_cons, List.take_succ_cons, List.take_zero, List.drop_succ_cons, List.drop_zero, Int.reduceBEq, Int.reduceBNe, ↓keepW_some, ↓qElseW_some, ↓guardW_tt, ↓guardW_ff, ↓guardW_tf, ↓guardW_ft, cL, Int.reduceLE, Int.reduceLT, Int.reduceAdd, Int.reduceMul, Int.reduceSub, Int.reduceTDiv, Int.reduceTMod, Int.reduceNeg, Int.reduceToNat, Int.reduceGT, Int.reduceGE, Int.reducePow, Nat.reduceAdd, Nat.reduceMul, Nat.reduceSub, Nat.reduceDiv, Nat.reduceMod, Nat.reducePow, Nat.reduceLT, Nat.reduceLeDiff, cJ, hz, hz20, hA, t1, t2, ht,  eV_cells, eV_size, eV_ok, eV_fold, ns_len, u8s_len, lp, lf, lb, lS, lz, lO, p1, take_all, List.length_replicate, rft, rf_eV]
        rfl
      obtain ⟨l, hx⟩ := hx
      exact ⟨l, 70, hx, .inr ⟨a, eA, .inl ⟨.inl htiny, rfl⟩⟩⟩
    · rw [decide_eq_false htiny] at ht
      by_cases hc : num 256 back < ell
      · rw [decide_eq_true hc] at hcv
        rcases decode_v lf xf with ⟨R, r, hR, rR, eR⟩ | ⟨R, hR, lR, hnR⟩
        · have p2 := rR.len
          unfold decV at hR
          obtain ⟨G1, hG1⟩ : ∃ X, X = H ++ [(⟨u8s pub, true, true, true, 1⟩ : Ob), ⟨u8s (front ++ back), true, true, true, 1⟩, ⟨ns .u64 A, true, true, true, 1⟩, ⟨u8s front, true, true, true, 1⟩, ⟨u8s back, true, true, true, 1⟩, ⟨ns .u64 R, true, true, true, 1⟩, ⟨[.slice (some ⟨H.length + 3, 0, none⟩) 32 32, .slice (some ⟨H.length, 0, none⟩) 32 32], true, true, true, 1⟩] := ⟨_, rfl⟩
          have lG1 : G1.length = H.length + 7 := by rw [hG1]; simp
          have gp : G1[H.length]? = some ⟨u8s pub, true, true, true, 1⟩ := by rw [hG1, List.getElem?_append_right (by omega), Nat.sub_self]; rfl
          have gA : G1[H.length + 2]? = some ⟨ns .u64 A, true, true, true, 1⟩ := by rw [hG1, List.getElem?_append_right (by omega), Nat.add_sub_cancel_left]; rfl
          have gf : G1[H.length + 3]? = some ⟨u8s front, true, true, true, 1⟩ := by rw [hG1, List.getElem?_append_right (by omega), Nat.add_sub_cancel_left]; rfl
          have gb : G1[H.length + 4]? = some ⟨u8s back, true, true, true, 1⟩ := by rw [hG1, List.getElem?_append_right (by omega), Nat.add_sub_cancel_left]; rfl
          have ga : G1[H.length + 6]? = some ⟨[.slice (some ⟨H.length + 3, 0, none⟩) 32 32, .slice (some ⟨H.length, 0, none⟩) 32 32], true, true, true, 1⟩ := by rw [hG1, List.getElem?_append_right (by omega), Nat.add_sub_cancel_left]; rfl
          have hp1 : Args G1 pv ps := by rw [hG1]; exact hp.app
          have partF : HPart (LtN G1.length) G1 (.slice (some ⟨H.length + 3, 0, none⟩) 32 32) front := by
            have := HPart.whole (n := G1.length) (c := 32) (by omega) gf xf (by rw [lf]; decide)
            rwa [lf] at this
          have partP : HPart (LtN G1.length) G1 (.slice (some ⟨H.length, 0, none⟩) 32 32) pub := by
            have := HPart.whole (n := G1.length) (c := 32) (by omega) gp xp (by rw [lp]; decide)
            rwa [lp] at this
          obtain ⟨v1, k1, ha1, hA1⟩ := args_append (n := 2) ga rfl (.cons partF (.cons partP .nil)) hp1 (by decide) hn
          obtain ⟨k2, hk⟩ := signReduce_ev hA1 (by rw [List.flatten_append, List.flatten_cons, List.flatten_cons, List.flatten_nil, List.append_nil, List.length_append, List.length_append, lf, lp]; omega)
          rw [List.flatten_append, List.flatten_cons, List.flatten_cons, List.flatten_nil, List.append_nil, List.append_assoc, show redL (front ++ (pub ++ ps.flatten)) = chL front pub ps.flatten from rfl, List.append_assoc] at hk
          have lk : (chL front pub ps.flatten).length = 32 := redL_len
          obtain ⟨G2, hG2⟩ : ∃ X, X = G1 ++ (k1 ++ k2) := ⟨_, rfl⟩
          have lG2 : G1.length ≤ G2.length := by rw [hG2]; simp
          have up : ∀ i, i < G1.length → ∀ l : List Ob, (G2 ++ l)[i]? = G1[i]? := fun i hi l => by rw [List.getElem?_append_left (by omega), hG2, List.getElem?_append_left hi]
          obtain ⟨B, hB, rB⟩ := base_v
          obtain ⟨X, hX, rX⟩ := multiply_v rB lb xb
          obtain ⟨NA, hNA, rNA⟩ := negp_v rA
          obtain ⟨Y, hY, rY⟩ := multiply_v rNA lk redL_lt
          obtain ⟨S, dS, hS, ES⟩ := adds_ev (H := G2 ++ [(⟨u8s (chL front pub ps.flatten), true, true, true, 1⟩ : Ob), ⟨ns .u64 [X, Y].flatten, true, true, true, 1⟩]) (id := G2.length + 1) (n := 2) (xs := [X, Y]) rfl (by decide) (.cons rX (.cons rY .nil)) (by rw [List.getElem?_append_right (by omega), Nat.add_sub_cancel_left]; rfl)
          simp only [List.map_cons, List.map_nil, List.cons_append, List.append_assoc, List.nil_append] at hS
          rw [fold2] at ES
          have hE := encode_v ES
          have lE := enc_len (padd (pmul (num 256 back) pbase) (pmul (num 256 (chL front pub ps.flatten)) a.neg))
          have g1 := fill40 rX rY
          have q1 := rX.len
          have q2 := rY.len
          have q3 := ES.len
          have hq := vEq_keyN lE lf
          have hd : (enc (padd (pmul (num 256 back) pbase) (pmul (num 256 (chL front pub ps.flatten)) a.neg)) == front) = decide (padd (pmul (num 256 back) pbase) (pmul (num 256 (chL front pub ps.flatten)) a.neg) = r) := by rw [← eR, enc_beq]
          rw [hd] at hq
          have uA := fun l => (up _ (by omega) l).trans gA
          have uf := fun l => (up _ (by omega) l).trans gf
          have ub := fun l => (up _ (by omega) l).trans gb
          have f2 : fillL [Value.slice none 0 0, .slice none 0 0] [(0, 1, .slice (some ⟨H.length + 3, 0, none⟩) 32 32), (1, 1, .slice (some ⟨H.length, 0, none⟩) 32 32)] = some [.slice (some ⟨H.length + 3, 0, none⟩) 32 32, .slice (some ⟨H.length, 0, none⟩) 32 32] := rfl
          have F1 : H ++ [(⟨u8s pub, true, true, true, 1⟩ : Ob), ⟨u8s (front ++ back), true, true, true, 1⟩, ⟨ns .u64 A, true, true, true, 1⟩, ⟨u8s front, true, true, true, 1⟩, ⟨u8s back, true, true, true, 1⟩, ⟨ns .u64 R, true, true, true, 1⟩, ⟨[.slice (some ⟨H.length + 3, 0, none⟩) 32 32, .slice (some ⟨H.length, 0, none⟩) 32 32], true, true, true, 1⟩] = G1 := hG1.symm
          have F2 : G1 ++ (k1 ++ k2) = G2 := hG2.symm
          have im1 : inMerge H.length [] [G2.length] = [] := inMerge_ge (by simp; omega)
          have hfr : ∀ l : List Ob, ∃ l', G2 ++ l = H ++ l' := fun l => ⟨_, by rw [hG2, hG1, List.append_assoc, List.append_assoc]⟩
          by_cases hfin : padd (pmul (num 256 back) pbase) (pmul (num 256 (chL front pub ps.flatten)) a.neg) = r
          · rw [decide_eq_true hfin] at hq
            have hx : ∃ l, evFun T 9 [.agg (u8s pub).toArray, .agg (u8s (front ++ back)).toArray, pv] H = some (.int .i64 0, G2 ++ l, []) := by
              clear hG1 hG2 hd up hfr
              generalize front ++ back = SG at *
              generalize dig 256 32 0 = Z at *
              generalize chL front pub ps.flatten = Ck at *
              generalize enc (padd (pmul (num 256 back) pbase) (pmul (num 256 Ck) a.neg)) = E at *
              apply Exists.intro
              rw [evFun_fn (fn := a207) rfl]
              simp only [a207, ↓steps_chunk, envOf, quiet, cF, ↓pF, reduceCtorEq, Nat.reduceEqDiff, Int.reduceEq, fs_callW, fs_regionQ, quiet2_eq, lastOf_nil, lastOf_cons, List.take_succ_cons, List.take_zero, List.drop_succ_cons, List.drop_zero, Int.reduceBEq, Int.reduceBNe, ↓keepW_some, ↓qElseW_some, ↓guardW_tt, ↓guardW_ff, ↓guardW_tf, ↓guardW_ft, cL, Int.reduceLE, Int.reduceLT, Int.reduceAdd, Int.reduceMul, Int.reduceSub, Int.reduceTDiv, Int.reduceTMod, Int.reduceNeg, Int.reduceToNat, Int.reduceGT, Int.reduceGE, Int.reducePow, Nat.reduceAdd, Nat.reduceMul, Nat.reduceSub, Nat.reduceDiv, Nat.reduceMod, Nat.reducePow, Nat.reduceLT, Nat.reduceLeDiff, cJ, hz, hz20, hA, t1, t2, ht, hcv, hR, f2, F1, ha1, hk, F2, im1, hB, hX, hNA, hY, g1, hS, hE, hq, uA, uf, ub, eV_cells, eV_size, eV_ok, eV_fold, ns_len, u8s_len, lp, lf, lb, lS, lz, lO, lk, lE, p1, p2, q1, q2, q3, take_all, List.length_replicate, rft, rf_eV]
              rfl
            obtain ⟨l, hx⟩ := hx
            obtain ⟨l', hl'⟩ := hfr l
            rw [hl'] at hx
            exact ⟨l', 0, hx, .inr ⟨a, eA, .inr ⟨htiny, hc, .inr ⟨r, eR, by rw [if_pos hfin]⟩⟩⟩⟩
          · rw [decide_eq_false hfin] at hq
            have hx : ∃ l, evFun T 9 [.agg (u8s pub).toArray, .agg (u8s (front ++ back)).toArray, pv] H = some (.int .i64 70, G2 ++ l, []) := by
              clear hG1 hG2 hd up hfr
              generalize front ++ back = SG at *
              generalize dig 256 32 0 = Z at *
              generalize chL front pub ps.flatten = Ck at *
              generalize enc (padd (pmul (num 256 back) pbase) (pmul (num 256 Ck) a.neg)) = E at *
              apply Exists.intro
              rw [evFun_fn (fn := a207) rfl]
              simp only [a207, ↓steps_chunk, envOf, quiet, cF, ↓pF, reduceCtorEq, Nat.reduceEqDiff, Int.reduceEq, fs_callW, fs_regionQ, quiet2_eq, lastOf_nil, lastOf_cons, List.take_succ_cons, List.take_zero, List.drop_succ_cons, List.drop_zero, Int.reduceBEq, Int.reduceBNe, ↓keepW_some, ↓qElseW_some, ↓guardW_tt, ↓guardW_ff, ↓guardW_tf, ↓guardW_ft, cL, Int.reduceLE, Int.reduceLT, Int.reduceAdd, Int.reduceMul, Int.reduceSub, Int.reduceTDiv, Int.reduceTMod, Int.reduceNeg, Int.reduceToNat, Int.reduceGT, Int.reduceGE, Int.reducePow, Nat.reduceAdd, Nat.reduceMul, Nat.reduceSub, Nat.reduceDiv, Nat.reduceMod, Nat.reducePow, Nat.reduceLT, Nat.reduceLeDiff, cJ, hz, hz20, hA, t1, t2, ht, hcv, hR, f2, F1, ha1, hk, F2, im1, hB, hX, hNA, hY, g1, hS, hE, hq, uA, uf, ub, eV_cells, eV_size, eV_ok, eV_fold, ns_len, u8s_len, lp, lf, lb, lS, lz, lO, lk, lE, p1, p2, q1, q2, q3, take_all, List.length_replicate, rft, rf_eV]
              rfl
            obtain ⟨l, hx⟩ := hx
            obtain ⟨l', hl'⟩ := hfr l
            rw [hl'] at hx
            exact ⟨l', 70, hx, .inr ⟨a, eA, .inr ⟨htiny, hc, .inr ⟨r, eR, by rw [if_neg hfin]⟩⟩⟩⟩
        · unfold decV at hR
          have hx : ∃ l, evFun T 9 [.agg (u8s pub).toArray, .agg (u8s (front ++ back)).toArray, pv] H = some (.int .i64 70, H ++ l, []) := by
            generalize front ++ back = S at *
            generalize dig 256 32 0 = Z at *
            apply Exists.intro
            rw [evFun_fn (fn := a207) rfl]
            simp only [a207, ↓steps_chunk, envOf, quiet, cF, ↓pF, reduceCtorEq, Nat.reduceEqDiff, Int.reduceEq, fs_callW, fs_regionQ, quiet2_eq, lastOf_nil, lastOf_cons, List.take_succ_cons, List.take_zero, List.drop_succ_cons, List.drop_zero, Int.reduceBEq, Int.reduceBNe, ↓keepW_some, ↓qElseW_some, ↓guardW_tt, ↓guardW_ff, ↓guardW_tf, ↓guardW_ft, cL, Int.reduceLE, Int.reduceLT, Int.reduceAdd, Int.reduceMul, Int.reduceSub, Int.reduceTDiv, Int.reduceTMod, Int.reduceNeg, Int.reduceToNat, Int.reduceGT, Int.reduceGE, Int.reducePow, Nat.reduceAdd, Nat.reduceMul, Nat.reduceSub, Nat.reduceDiv, Nat.reduceMod, Nat.reducePow, Nat.reduceLT, Nat.reduceLeDiff, cJ, hz, hz20, hA, t1, t2, ht, hcv, hR, lR, eV_cells, eV_size, eV_ok, eV_fold, ns_len, u8s_len, lp, lf, lb, lS, lz, lO, p1, take_all, List.length_replicate, rft, rf_eV]
            rfl
          obtain ⟨l, hx⟩ := hx
          exact ⟨l, 70, hx, .inr ⟨a, eA, .inr ⟨htiny, hc, .inl ⟨hnR, rfl⟩⟩⟩⟩
      · rw [decide_eq_false hc] at hcv
        have hx : ∃ l, evFun T 9 [.agg (u8s pub).toArray, .agg (u8s (front ++ back)).toArray, pv] H = some (.int .i64 70, H ++ l, []) := by
          generalize front ++ back = S at *
          generalize dig 256 32 0 = Z at *
          apply Exists.intro
          rw [evFun_fn (fn := a207) rfl]
          simp only [a207, ↓steps_chunk, envOf, quiet, cF, ↓pF, reduceCtorEq, Nat.reduceEqDiff, Int.reduceEq, fs_callW, fs_regionQ, quiet2_eq, lastOf_nil, lastOf_cons, List.take_succ_cons, List.take_zero, List.drop_succ_cons, List.drop_zero, Int.reduceBEq, Int.reduceBNe, ↓keepW_some, ↓qElseW_some, ↓guardW_tt, ↓guardW_ff, ↓guardW_tf, ↓guardW_ft, cL, Int.reduceLE, Int.reduceLT, Int.reduceAdd, Int.reduceMul, Int.reduceSub, Int.reduceTDiv, Int.reduceTMod, Int.reduceNeg, Int.reduceToNat, Int.reduceGT, Int.reduceGE, Int.reducePow, Nat.reduceAdd, Nat.reduceMul, Nat.reduceSub, Nat.reduceDiv, Nat.reduceMod, Nat.reducePow, Nat.reduceLT, Nat.reduceLeDiff, cJ, hz, hz20, hA, t1, t2, ht, hcv, eV_cells, eV_size, eV_ok, eV_fold, ns_len, u8s_len, lp, lf, lb, lS, lz, lO, p1, take_all, List.length_replicate, rft, rf_eV]
          rfl
        obtain ⟨l, hx⟩ := hx
        exact ⟨l, 70, hx, .inr ⟨a, eA, .inl ⟨.inr hc, rfl⟩⟩⟩
  · unfold decV at hA
    have hx : evFun T 9 [.agg (u8s pub).toArray, .agg (u8s (front ++ back)).toArray, pv] H = some (.int .i64 60, H ++ [⟨u8s pub, true, true, true, 1⟩, ⟨u8s (front ++ back), true, true, true, 1⟩, ⟨ns .u64 A, true, true, true, 1⟩], []) := by
      generalize front ++ back = S at *
      generalize dig 256 32 0 = Z at *
      rw [evFun_fn (fn := a207) rfl]
      simp only [a207, ↓steps_chunk, envOf, quiet, cF, ↓pF, reduceCtorEq, Nat.reduceEqDiff, Int.reduceEq, fs_callW, fs_regionQ, quiet2_eq, lastOf_nil, lastOf_cons, List.take_succ_cons, List.take_zero, List.drop_succ_cons, List.drop_zero, Int.reduceBEq, Int.reduceBNe, ↓keepW_some, ↓qElseW_some, ↓guardW_tt, ↓guardW_ff, ↓guardW_tf, ↓guardW_ft, cL, Int.reduceLE, Int.reduceLT, Int.reduceAdd, Int.reduceMul, Int.reduceSub, Int.reduceTDiv, Int.reduceTMod, Int.reduceNeg, Int.reduceToNat, Int.reduceGT, Int.reduceGE, Int.reducePow, Nat.reduceAdd, Nat.reduceMul, Nat.reduceSub, Nat.reduceDiv, Nat.reduceMod, Nat.reducePow, Nat.reduceLT, Nat.reduceLeDiff, cJ, hz, hz20, hA, t1, t2, eV_cells, eV_size, eV_ok, eV_fold, ns_len, u8s_len, lp, lS, lz, lO, lA, take_all, List.length_replicate, rft, rf_eV]
    exact ⟨_, 60, hx, .inl ⟨hno, rfl⟩⟩
end Go.Ev.Ytgacigcbglflkaa
set_option linter.unusedSimpArgs false
set_option linter.unusedVariables false
namespace Go.Ev.Ytgacigcbglflkaa
open Go Go.Ev
open Go.NT (Pr)
set_option maxRecDepth 100000
theorem lp1 : Pr 531581 := Go.NT.small_prime (f := 729) (by decide) (by decide) (by decide +kernel)
theorem lp2 : Pr 1224481 := Go.NT.small_prime (f := 1106) (by decide) (by decide) (by decide +kernel)
theorem lp3 : Pr 1257559732178653 := Go.NT.cert_two (q := 531581) (k := 2365697292) (a := 2) (q2 := 1224481) (k2 := 1027014492) (a2 := 2) (f := 51) lp1 lp2 (by decide +kernel)
theorem lp4 : Pr 4434155615661930479 := Go.NT.cert_one (q := 1257559732178653) (k := 3526) (a := 2) (f := 62) lp3 (by decide +kernel)
theorem lp5 : Pr 172054593956031949258510691 := Go.NT.cert_one (q := 4434155615661930479) (k := 38802110) (a := 2) (f := 88) lp4 (by decide +kernel)
theorem lp6 : Pr 19757330305831588566944191468367130476339 := Go.NT.cert_one (q := 172054593956031949258510691) (k := 114831751082918) (a := 2) (f := 134) lp5 (by decide +kernel)
theorem lp7 : Pr 276602624281642239937218680557139826668747 := Go.NT.cert_one (q := 19757330305831588566944191468367130476339) (k := 14) (a := 2) (f := 138) lp6 (by decide +kernel)
theorem ell_prime : Pr ell := Go.NT.cert_one (q := 276602624281642239937218680557139826668747) (k := 26163907866482859529727157400808004) (a := 2) (f := 253) lp7 (by decide +kernel)
theorem base_ne : pbase ≠ pzero := fun h => eight_base (by rw [h, pmul_zero])
theorem pmul_one2 (p : Go.Cv.Pt Go.Fp.P Go.Fp.d) : pmul 1 p = p := Go.Cv.mul_one Go.Fp.fld p
theorem order_dvd {n : Nat} (h : pmul n pbase = pzero) : ell ∣ n := by
  refine Classical.byContradiction fun hn => ?_
  have hf := Go.NT.fermat ell_prime hn
  apply base_ne
  have e1 : ell - 1 = (ell - 2) + 1 := by decide +kernel
  have h2 : n ^ (ell - 1) = n ^ (ell - 2) * n := by rw [e1, Nat.pow_succ]
  have h3 : pmul (n ^ (ell - 1)) pbase = pzero := by rw [h2, pmul_mul, h, pmul_zero]
  rw [← pmul_mod ell_base, hf, pmul_one2] at h3
  exact h3
theorem padd_cancel {p q r : Go.Cv.Pt Go.Fp.P Go.Fp.d} (h : padd p q = padd p r) : q = r := Go.Cv.add_left_cancel Go.Fp.fld h
theorem base_inj {a b : Nat} (ha : a < ell) (hb : b < ell) (h : pmul a pbase = pmul b pbase) : a = b := by
  have key : ∀ {x y : Nat}, x ≤ y → y < ell → pmul x pbase = pmul y pbase → x = y := by
    intro x y hxy hy hh
    have e : y = x + (y - x) := by omega
    rw [e, pmul_add] at hh
    have h1 : pmul (y - x) pbase = pzero := by
      refine (padd_cancel (p := pmul x pbase) ?_).symm
      rw [padd_pzero]; exact hh
    obtain ⟨k, hk⟩ := order_dvd h1
    rcases Nat.eq_zero_or_pos k with h0 | h0
    · rw [h0, Nat.mul_zero] at hk; omega
    · have := Nat.mul_le_mul_left ell h0
      omega
  rcases Nat.le_total a b with hab | hab
  · exact key hab hb h
  · exact (key hab ha h.symm).symm
theorem ell_odd (n : Nat) (h : ell ∣ 8 * n) : ell ∣ n := by
  have hc : Nat.Coprime ell 8 := Go.NT.Pr.coprime ell_prime (by decide +kernel)
  exact hc.dvd_of_dvd_mul_left h
theorem clamp_num {a : List Nat} {x y : Nat} (la : a.length = 32) (xa : ∀ z ∈ a, z < 256) (hx : a[0]? = some x) (hy : a[31]? = some y) : num 256 (clampL a x y) % 8 = 0 ∧ 2 ^ 254 ≤ num 256 (clampL a x y) ∧ num 256 (clampL a x y) < 2 ^ 255 := by
  have hx' := xa x (List.mem_of_getElem? hx)
  have hy' := xa y (List.mem_of_getElem? hy)
  obtain ⟨t, ht⟩ : ∃ t, a = x :: t := by
    cases a with
    | nil => simp at hx
    | cons z t => simp at hx; subst hx; exact ⟨t, rfl⟩
  have e8 : x &&& 248 = x / 8 * 8 := (by decide +kernel : ∀ v, v < 256 → v &&& 248 = v / 8 * 8) x hx'
  have e64 : (y &&& 127) ||| 64 = y % 64 + 64 := (by decide +kernel : ∀ v, v < 256 → (v &&& 127) ||| 64 = v % 64 + 64) y hy'
  have h1 := num_set (B := 256) (x &&& 248) hx
  have hy2 : (a.set 0 (x &&& 248))[31]? = some y := by rw [List.getElem?_set_ne (by decide)]; exact hy
  have h2 := num_set (B := 256) ((y &&& 127) ||| 64) hy2
  have hV := num_lt xa
  rw [la] at hV
  have hg := num_get (by decide : 0 < 256) xa hy
  have hm : num 256 a % 256 = x := by
    have := num_get (by decide : 0 < 256) xa hx
    rwa [Nat.pow_zero, Nat.div_one] at this
  unfold clampL
  rw [e8] at h1 h2 ⊢
  rw [e64] at h2 ⊢
  have e31 : (256 : Nat) ^ 31 = 452312848583266388373324160190187140051835877600158453279131187530910662656 := by decide
  have e32 : (256 : Nat) ^ 32 = 115792089237316195423570985008687907853269984665640564039457584007913129639936 := by decide
  have e254 : (2 : Nat) ^ 254 = 28948022309329048855892746252171976963317496166410141009864396001978282409984 := by decide
  have e255 : (2 : Nat) ^ 255 = 57896044618658097711785492504343953926634992332820282019728792003956564819968 := by decide
  rw [Nat.pow_zero, Nat.mul_one, Nat.mul_one] at h1
  rw [e31] at h2 hg
  rw [e32] at hV
  rw [e254, e255]
  generalize num 256 ((a.set 0 (x / 8 * 8)).set 31 (y % 64 + 64)) = N2 at *
  generalize num 256 (a.set 0 (x / 8 * 8)) = N1 at *
  generalize num 256 a = N at *
  have hyq : N / 452312848583266388373324160190187140051835877600158453279131187530910662656 = y := by omega
  have hdm := Nat.div_add_mod N 452312848583266388373324160190187140051835877600158453279131187530910662656
  rw [hyq] at hdm
  have hmlt := Nat.mod_lt N (by decide : 0 < 452312848583266388373324160190187140051835877600158453279131187530910662656)
  have hlow : N % 452312848583266388373324160190187140051835877600158453279131187530910662656 % 256 = x := by omega
  generalize N % 452312848583266388373324160190187140051835877600158453279131187530910662656 = M at *
  refine ⟨?_, ?_, ?_⟩ <;> omega
theorem scL_num (s : List Nat) : num 256 (scL s) % 8 = 0 ∧ 2 ^ 254 ≤ num 256 (scL s) ∧ num 256 (scL s) < 2 ^ 255 := by
  obtain ⟨x, g0, d0, lx⟩ := sha_at s (i := 0) (by decide)
  obtain ⟨z, g31, d31, lz⟩ := sha_at s (i := 31) (by decide)
  unfold scL
  rw [d0, d31]
  exact clamp_num (by rw [List.length_take, sha_len]; rfl) (fun y hy => sha_lt s y (List.mem_of_mem_take hy)) (by rw [List.getElem?_take, if_pos (by decide)]; exact g0) (by rw [List.getElem?_take, if_pos (by decide)]; exact g31)
theorem scL_ndvd (s : List Nat) : ¬ ell ∣ num 256 (scL s) := by
  obtain ⟨h1, h2, h3⟩ := scL_num s
  generalize num 256 (scL s) = a at *
  intro hd
  obtain ⟨k, rfl⟩ := hd
  have h7 : k < 8 := Nat.lt_of_mul_lt_mul_left (a := ell) (Nat.lt_trans h3 (by decide +kernel))
  have h0 : 0 < k := by
    rcases Nat.eq_zero_or_pos k with h | h
    · rw [h, Nat.mul_zero] at h2
      exact absurd h2 (by decide)
    · exact h
  have hm : ell * k % 8 = (ell % 8) * k % 8 := by rw [Nat.mod_mul_mod]
  have he : ell % 8 = 5 := by decide +kernel
  rw [hm, he] at h1
  clear h2 h3 hm he
  omega
end Go.Ev.Ytgacigcbglflkaa
set_option linter.unusedSimpArgs false
set_option linter.unusedVariables false
namespace Go.Ev.Ytgacigcbglflkaa
open Go Go.Ev
set_option maxRecDepth 100000
def seed1 : List Nat := 1 :: List.replicate 31 0
theorem sha_seed1 : sha seed1 = [206, 12, 38, 94, 204, 130, 221, 140, 238, 110, 86, 206, 68, 228, 93, 175, 215, 160, 197, 117, 13, 249, 20, 178, 83, 161, 251, 122, 138, 246, 109, 219, 153, 118, 54, 7, 240, 168, 93, 11, 212, 54, 105, 25, 74, 58, 64, 87, 122, 82, 138, 243, 149, 244, 241, 126, 6, 241, 222, 252, 198, 222, 178, 165] := by decide +kernel
theorem enc_inj2 {p q : Go.Cv.Pt Go.Fp.P Go.Fp.d} (h : enc p = enc q) : p = q := by
  have := enc_beq p q
  rw [h] at this
  simp at this
  exact this
theorem pmul_neg (k : Nat) (p : Go.Cv.Pt Go.Fp.P Go.Fp.d) : pmul k p.neg = (pmul k p).neg := Go.Cv.mul_neg Go.Fp.fld k p
theorem take_ok {s m : List Nat} {c : Int} (h : ChkSpec (pubL s) (frL s m) (bkL s m) m c) : c = 0 := by
  have hA : enc (pmul (num 256 (scL s)) pbase) = pubL s := rfl
  have hR : enc (pmul (num 256 (rL s m)) pbase) = frL s m := rfl
  have hb : num 256 (bkL s m) = (num 256 (chL (frL s m) (pubL s) m) * num 256 (scL s) + num 256 (rL s m)) % ell := num_mA _ _ _
  have hnt : pmul 8 (pmul (num 256 (scL s)) pbase) ≠ pzero := fun h => scL_ndvd s (ell_odd _ (order_dvd (by rw [pmul_mul]; exact h)))
  have hblt : num 256 (bkL s m) < ell := by rw [hb]; exact Nat.mod_lt _ ell_pos
  rcases h with ⟨h, -⟩ | ⟨A, eA, h⟩
  · exact absurd hA (h _)
  · have e1 := enc_inj2 (eA.trans hA.symm)
    rw [e1] at h
    rcases h with h | h
    · obtain ⟨h, -⟩ := h
      cases h with
      | inl h => exact absurd h hnt
      | inr h => exact absurd hblt h
    · have h := h.2.2
      rcases h with ⟨h, -⟩ | ⟨R, eR, h⟩
      · exact absurd hR (h _)
      · have e2 := enc_inj2 (eR.trans hR.symm)
        rw [e2] at h
        rw [h, if_pos]
        rw [hb, pmul_mod ell_base, pmul_add, pmul_mul, pmul_neg]
        generalize num 256 (chL (frL s m) (pubL s) m) = k
        generalize pmul k (pmul (num 256 (scL s)) pbase) = X
        rw [padd_comm X, padd_assoc, padd_neg, padd_pzero]
theorem take_back {s m back m' : List Nat} {c : Int} (hl : back.length = 32) (hx : ∀ y ∈ back, y < 256) (h : ChkSpec (pubL s) (frL s m) back m' c) : c = 70 ∨ (c = 0 ∧ num 256 back < ell ∧ (num 256 back + num 256 (chL (frL s m) (pubL s) m) * num 256 (scL s)) % ell = (num 256 (bkL s m) + num 256 (chL (frL s m) (pubL s) m') * num 256 (scL s)) % ell) := by
  have hA : enc (pmul (num 256 (scL s)) pbase) = pubL s := rfl
  have hR : enc (pmul (num 256 (rL s m)) pbase) = frL s m := rfl
  have hb : num 256 (bkL s m) = (num 256 (chL (frL s m) (pubL s) m) * num 256 (scL s) + num 256 (rL s m)) % ell := num_mA _ _ _
  rcases h with ⟨h, -⟩ | ⟨A, eA, h⟩
  · exact absurd hA (h _)
  · have e1 := enc_inj2 (eA.trans hA.symm)
    rw [e1] at h
    rcases h with h | h
    · exact .inl h.2
    · have hc := h.2.1
      have h := h.2.2
      rcases h with ⟨-, h⟩ | ⟨R, eR, h⟩
      · exact .inl h
      · have e2 := enc_inj2 (eR.trans hR.symm)
        rw [e2] at h
        split at h
        · rename_i hq
          right
          refine ⟨h, hc, ?_⟩
          apply base_inj (Nat.mod_lt _ ell_pos) (Nat.mod_lt _ ell_pos)
          rw [pmul_mod ell_base, pmul_mod ell_base, pmul_add, pmul_add, hb, pmul_mod ell_base, pmul_add, pmul_mul, pmul_mul]
          rw [pmul_neg] at hq
          generalize pmul (num 256 (chL (frL s m) (pubL s) m)) (pmul (num 256 (scL s)) pbase) = X
          generalize pmul (num 256 (chL (frL s m) (pubL s) m')) (pmul (num 256 (scL s)) pbase) = Y at *
          rw [← hq]
          generalize pmul (num 256 back) pbase = Z
          rw [padd_assoc X, padd_assoc Z, padd_comm Y.neg, padd_neg, padd_pzero, padd_comm]
        · exact .inl h
theorem take_text {s m m' : List Nat} {c : Int} (hne : (num 256 (chL (frL s m) (pubL s) m) * num 256 (scL s)) % ell ≠ (num 256 (chL (frL s m) (pubL s) m') * num 256 (scL s)) % ell) (h : ChkSpec (pubL s) (frL s m) (bkL s m) m' c) : c = 70 := by
  rcases take_back (bkL_len s m) (bkL_lt s m) h with h | ⟨-, -, h⟩
  · exact h
  · exfalso
    apply hne
    generalize num 256 (chL (frL s m) (pubL s) m) * num 256 (scL s) = t at *
    generalize num 256 (chL (frL s m) (pubL s) m') * num 256 (scL s) = u at *
    generalize num 256 (bkL s m) = v at *
    have h1 : pmul (v + t) pbase = pmul (v + u) pbase := by rw [← pmul_mod ell_base, h, pmul_mod ell_base]
    rw [pmul_add, pmul_add] at h1
    have h2 := padd_cancel h1
    apply base_inj (Nat.mod_lt _ ell_pos) (Nat.mod_lt _ ell_pos)
    rw [pmul_mod ell_base, pmul_mod ell_base]; exact h2
theorem tiny_takes {A : Go.Cv.Pt Go.Fp.P Go.Fp.d} {front back m : List Nat} {c : Int} (ht : pmul 8 A = pzero) (h : ChkSpec (enc A) front back m c) : c = 70 := by
  rcases h with ⟨h, -⟩ | ⟨A', eA, h⟩
  · exact absurd rfl (h A)
  · have := enc_inj2 eA
    subst this
    rcases h with ⟨-, h⟩ | ⟨h, -⟩
    · exact h
    · exact absurd ht h
theorem jac_enc {a : Jac} {q : Go.Cv.Pt Go.Fp.P Go.Fp.d} (r : JRep a q) {xN yN : Nat} (hx : xN < Go.Fp.P) (hy : yN < Go.Fp.P) (c1 : a.x % Go.Fp.P = xN * a.z % Go.Fp.P) (c2 : a.y % Go.Fp.P = yN * a.z % Go.Fp.P) : enc q = dig 256 32 (yN + xN % 2 * 2 ^ 255) := by
  have d1 := Go.Fp.fp_eq.2 c1
  have d2 := Go.Fp.fp_eq.2 c2
  have F := Go.Fp.fld
  rw [Go.Fp.fp_mul] at d1 d2
  have ex : q.x = Go.Fp.fp xN := by
    refine F.cancel r.nz ?_
    have := r.x
    rw [d1] at this
    generalize Go.Fp.fp a.z = z at *
    generalize Go.Fp.fp xN = u at *
    generalize q.x = w at *
    clear d1 d2 c1 c2 r
    grobner
  have ey : q.y = Go.Fp.fp yN := by
    refine F.cancel r.nz ?_
    have := r.y
    rw [d2] at this
    generalize Go.Fp.fp a.z = z at *
    generalize Go.Fp.fp yN = u at *
    generalize q.y = w at *
    clear d1 d2 c1 c2 r ex
    grobner
  have vx : q.x.val = xN := by rw [ex]; exact Nat.mod_eq_of_lt hx
  have vy : q.y.val = yN := by rw [ey]; exact Nat.mod_eq_of_lt hy
  rw [enc, encN, vx, vy]
def ptTest (a : Jac) (xN yN : Nat) : Bool := Nat.beq (a.x % Go.Fp.P) (xN * a.z % Go.Fp.P) && Nat.beq (a.y % Go.Fp.P) (yN * a.z % Go.Fp.P)
theorem enc_mul {f n xN yN : Nat} (hn : n < 2 ^ f) (hx : xN < Go.Fp.P) (hy : yN < Go.Fp.P) (h : ptTest (jmul jbase f n) xN yN = true) : enc (pmul n pbase) = dig 256 32 (yN + xN % 2 * 2 ^ 255) := by
  simp only [ptTest, Bool.and_eq_true, Nat.beq_eq] at h
  exact jac_enc (jbase_rep.mul hn) hx hy h.1 h.2
theorem sc_seed1 : num 256 (scL seed1) = 41354757114163650016304086911142683682198188400503391378057401993857692208328 := by
  unfold scL; rw [sha_seed1]; decide +kernel
theorem pub_seed1 : pubL seed1 = [206, 204, 21, 7, 220, 29, 221, 114, 149, 149, 28, 41, 8, 136, 240, 149, 173, 185, 4, 77, 27, 115, 214, 150, 230, 223, 6, 93, 104, 59, 212, 252] := by
  unfold pubL
  rw [sc_seed1, enc_mul (f := 256) (xN := 26822555233711949854380153315158647482531717314742952720223963642152101436051) (yN := 56461774818723834839721450787889437474891852695816614318545467683432985644238) (by decide) (by decide) (by decide) (by decide +kernel)]
  decide +kernel
theorem r_seed1 : num 256 (rL seed1 [97, 98]) = 7190534050387402144765361376655957038148003192940851339449226809932380300429 := by
  have h : sha (pfL seed1 ++ [97, 98]) = [245, 131, 162, 243, 57, 11, 83, 147, 38, 239, 238, 183, 86, 182, 16, 217, 82, 20, 190, 29, 33, 101, 218, 112, 39, 67, 38, 43, 126, 6, 51, 219, 187, 123, 239, 137, 61, 76, 188, 0, 26, 80, 214, 37, 40, 102, 17, 26, 190, 188, 49, 139, 180, 91, 207, 69, 39, 118, 219, 241, 76, 130, 218, 172] := by
    unfold pfL; rw [sha_seed1]; decide +kernel
  unfold rL redL rd
  rw [h]; decide +kernel
theorem fr_seed1 : frL seed1 [97, 98] = [134, 63, 78, 239, 9, 61, 234, 83, 110, 157, 208, 124, 146, 195, 3, 229, 241, 254, 201, 125, 3, 83, 36, 232, 178, 253, 110, 174, 138, 47, 113, 26] := by
  unfold frL
  rw [r_seed1, enc_mul (f := 256) (xN := 32550285640094647749913757797573026337242524108283111522313707369526038663284) (yN := 11960115902405820554232334576818862127346778307006478725868305158423201070982) (by decide) (by decide) (by decide) (by decide +kernel)]
  decide +kernel
theorem ch_seed1 : (num 256 (chL (frL seed1 [97, 98]) (pubL seed1) [97, 98]) * num 256 (scL seed1)) % ell ≠ (num 256 (chL (frL seed1 [97, 98]) (pubL seed1) [97, 99]) * num 256 (scL seed1)) % ell := by
  rw [fr_seed1, pub_seed1, sc_seed1]
  have h1 : num 256 (chL [134, 63, 78, 239, 9, 61, 234, 83, 110, 157, 208, 124, 146, 195, 3, 229, 241, 254, 201, 125, 3, 83, 36, 232, 178, 253, 110, 174, 138, 47, 113, 26] [206, 204, 21, 7, 220, 29, 221, 114, 149, 149, 28, 41, 8, 136, 240, 149, 173, 185, 4, 77, 27, 115, 214, 150, 230, 223, 6, 93, 104, 59, 212, 252] [97, 98]) = 4345896033909676126526464428017597814750041397111024468569518375243159531215 := by decide +kernel
  have h2 : num 256 (chL [134, 63, 78, 239, 9, 61, 234, 83, 110, 157, 208, 124, 146, 195, 3, 229, 241, 254, 201, 125, 3, 83, 36, 232, 178, 253, 110, 174, 138, 47, 113, 26] [206, 204, 21, 7, 220, 29, 221, 114, 149, 149, 28, 41, 8, 136, 240, 149, 173, 185, 4, 77, 27, 115, 214, 150, 230, 223, 6, 93, 104, 59, 212, 252] [97, 99]) = 6890909591804878976832584633512085998992470259931648135772900504642653770023 := by decide +kernel
  rw [h1, h2]
  decide +kernel
end Go.Ev.Ytgacigcbglflkaa
set_option linter.unusedSimpArgs false
set_option linter.unusedVariables false
namespace Go.Ev.Ytgacigcbglflkaa
open Go Go.Ev
attribute [local congr] bind_congr2 ite_congr2 qElse_congr gate_congr guardV_congr
set_option maxRecDepth 100000
theorem seed1_len : seed1.length = 32 := rfl
theorem seed1_lt : ∀ y ∈ seed1, y < 256 := by decide
theorem Args.one {H : List Ob} {a b n c : Nat} {t : List Nat} {e : Bool} {s : Nat} (ha : H[a]? = some ⟨[.slice (some ⟨b, 0, none⟩) n n], true, true, e, s⟩) {e' : Bool} {s' : Nat} (hb : H[b]? = some ⟨u8s t, true, true, e', s'⟩) (hn : t.length = n) (xt : ∀ y ∈ t, y < 256) (h40 : n ≤ 2 ^ 47 - 4096) : Args H (.slice (some ⟨a, 0, none⟩) 1 c) [t] := by
  have hp : HPart (LtN H.length) H (.slice (some ⟨b, 0, none⟩) n n) t := by
    have := HPart.whole (n := H.length) (c := n) (List.getElem?_eq_some_iff.1 hb).1 hb xt (by omega)
    rwa [hn] at this
  exact Args.arr ha rfl (.cons hp .nil) (by decide)
theorem sigs_v : evVal T 7 [] = some (.bool true) := by
  have hz : List.replicate 32 (Value.int .u8 0) = u8s (dig 256 32 0) := rfl
  have lz : (dig 256 32 0).length = 32 := rfl
  have hz64 := z64_eq
  have lz64 : (List.replicate 64 0).length = 64 := List.length_replicate
  have fk : fillL (u8s (dig 256 32 0)) [(0, 1, .int .u8 1)] = some (u8s seed1) := rfl
  have f97 : fillL [Value.int .u8 0] [(0, 1, .int .u8 97)] = some (u8s [97]) := rfl
  have f98 : fillL [Value.int .u8 0] [(0, 1, .int .u8 98)] = some (u8s [98]) := rfl
  have fab : fillL [Value.int .u8 0, .int .u8 0] [(0, 1, .int .u8 97), (1, 1, .int .u8 98)] = some (u8s [97, 98]) := rfl
  have fac : fillL [Value.int .u8 0, .int .u8 0] [(0, 1, .int .u8 97), (1, 1, .int .u8 99)] = some (u8s [97, 99]) := rfl
  have f2 : fillL [Value.slice none 0 0, .slice none 0 0] [(0, 1, .slice (some ⟨0, 0, none⟩) 1 1), (1, 1, .slice (some ⟨1, 0, none⟩) 1 1)] = some [.slice (some ⟨0, 0, none⟩) 1 1, .slice (some ⟨1, 0, none⟩) 1 1] := rfl
  have f1 : ∀ b n : Nat, fillL [Value.slice none 0 0] [(0, 1, .slice (some ⟨b, 0, none⟩) n n)] = some [.slice (some ⟨b, 0, none⟩) n n] := fun _ _ => rfl
  have lk := seed1_len
  have hpub := public_v seed1_len seed1_lt
  have lP := pubL_len seed1
  -- the signature
  obtain ⟨G1, hG1⟩ : ∃ X, X = [(⟨u8s [97], true, true, true, 1⟩ : Ob), ⟨u8s [98], true, true, true, 1⟩, ⟨[.slice (some ⟨0, 0, none⟩) 1 1, .slice (some ⟨1, 0, none⟩) 1 1], true, true, true, 1⟩] := ⟨_, rfl⟩
  have hA1 : Args G1 (.slice (some ⟨2, 0, none⟩) 2 2) [[97], [98]] := by
    have p1 : HPart (LtN G1.length) G1 (.slice (some ⟨0, 0, none⟩) 1 1) [97] := HPart.whole (b := [97]) (w := true) (e := true) (s := 1) (by rw [hG1]; exact (by decide : 0 < 3)) (by rw [hG1]; rfl) (by decide) (by decide)
    have p2 : HPart (LtN G1.length) G1 (.slice (some ⟨1, 0, none⟩) 1 1) [98] := HPart.whole (b := [98]) (w := true) (e := true) (s := 1) (by rw [hG1]; exact (by decide : 1 < 3)) (by rw [hG1]; rfl) (by decide) (by decide)
    exact Args.arr (ys := [.slice (some ⟨0, 0, none⟩) 1 1, .slice (some ⟨1, 0, none⟩) 1 1]) (e := true) (s := 1) (by rw [hG1]; rfl) rfl (.cons p1 (.cons p2 .nil)) (by decide)
  obtain ⟨l1, hm⟩ := make_ev seed1_len seed1_lt hA1 (by decide) (by decide)
  rw [show ([[97], [98]] : List (List Nat)).flatten = [97, 98] from rfl] at hm
  have lS := sigL_len seed1 [97, 98]
  obtain ⟨G2, hG2⟩ : ∃ X, X = G1 ++ l1 := ⟨_, rfl⟩
  -- the first look
  obtain ⟨G3, hG3⟩ : ∃ X, X = G2 ++ [(⟨u8s (sigL seed1 [97, 98]), true, true, true, 1⟩ : Ob), ⟨u8s (pubL seed1), true, true, true, 1⟩, ⟨u8s [97, 98], true, true, true, 1⟩, ⟨[.slice (some ⟨G2.length + 2, 0, none⟩) 2 2], true, true, true, 1⟩] := ⟨_, rfl⟩
  have lG3 : G3.length = G2.length + 4 := by rw [hG3]; simp
  have g3 : ∀ j, G3[G2.length + j]? = [(⟨u8s (sigL seed1 [97, 98]), true, true, true, 1⟩ : Ob), ⟨u8s (pubL seed1), true, true, true, 1⟩, ⟨u8s [97, 98], true, true, true, 1⟩, ⟨[.slice (some ⟨G2.length + 2, 0, none⟩) 2 2], true, true, true, 1⟩][j]? := fun j => by rw [hG3, List.getElem?_append_right (by omega), Nat.add_sub_cancel_left]
  have hA3 : Args G3 (.slice (some ⟨G2.length + 3, 0, none⟩) 1 1) [[97, 98]] := Args.one (g3 3) (g3 2) rfl (by decide) (by decide)
  obtain ⟨l3, c1, hc1, hs1⟩ := check_ev (pubL_len seed1) (pubL_lt seed1) (frL_len seed1 [97, 98]) (frL_lt seed1 [97, 98]) (bkL_len seed1 [97, 98]) (bkL_lt seed1 [97, 98]) hA3 (by decide) (by decide)
  rw [show ([[97, 98]] : List (List Nat)).flatten = [97, 98] from rfl] at hs1
  have e1 := take_ok hs1
  subst e1
  obtain ⟨G4, hG4⟩ : ∃ X, X = G3 ++ l3 := ⟨_, rfl⟩
  have lG4 : G3.length ≤ G4.length := by rw [hG4]; simp
  -- the second
  obtain ⟨G5, hG5⟩ : ∃ X, X = G4 ++ [(⟨u8s [97, 99], true, true, true, 1⟩ : Ob), ⟨[.slice (some ⟨G4.length, 0, none⟩) 2 2], true, true, true, 1⟩] := ⟨_, rfl⟩
  have g5 : ∀ j, G5[G4.length + j]? = [(⟨u8s [97, 99], true, true, true, 1⟩ : Ob), ⟨[.slice (some ⟨G4.length, 0, none⟩) 2 2], true, true, true, 1⟩][j]? := fun j => by rw [hG5, List.getElem?_append_right (by omega), Nat.add_sub_cancel_left]
  have hA5 : Args G5 (.slice (some ⟨G4.length + 1, 0, none⟩) 1 1) [[97, 99]] := Args.one (g5 1) (g5 0) rfl (by decide) (by decide)
  obtain ⟨l5, c2, hc2, hs2⟩ := check_ev (pubL_len seed1) (pubL_lt seed1) (frL_len seed1 [97, 98]) (frL_lt seed1 [97, 98]) (bkL_len seed1 [97, 98]) (bkL_lt seed1 [97, 98]) hA5 (by decide) (by decide)
  rw [show ([[97, 99]] : List (List Nat)).flatten = [97, 99] from rfl] at hs2
  have e2 := take_text ch_seed1 hs2
  subst e2
  rw [show frL seed1 [97, 98] ++ bkL seed1 [97, 98] = sigL seed1 [97, 98] from rfl] at hc1 hc2
  have F1 : [(⟨u8s [97], true, true, true, 1⟩ : Ob), ⟨u8s [98], true, true, true, 1⟩, ⟨[.slice (some ⟨0, 0, none⟩) 1 1, .slice (some ⟨1, 0, none⟩) 1 1], true, true, true, 1⟩] = G1 := hG1.symm
  have F2 : G1 ++ l1 = G2 := hG2.symm
  have F3 : G2 ++ [(⟨u8s (sigL seed1 [97, 98]), true, true, true, 1⟩ : Ob), ⟨u8s (pubL seed1), true, true, true, 1⟩, ⟨u8s [97, 98], true, true, true, 1⟩, ⟨[.slice (some ⟨G2.length + 2, 0, none⟩) 2 2], true, true, true, 1⟩] = G3 := hG3.symm
  have F4 : G3 ++ l3 = G4 := hG4.symm
  have F5 : G4 ++ [(⟨u8s [97, 99], true, true, true, 1⟩ : Ob), ⟨[.slice (some ⟨G4.length, 0, none⟩) 2 2], true, true, true, 1⟩] = G5 := hG5.symm
  have u4 : ∀ l : List Ob, (G4 ++ l)[G2.length]? = some ⟨u8s (sigL seed1 [97, 98]), true, true, true, 1⟩ := fun l => by
    rw [List.getElem?_append_left (by omega), hG4, List.getElem?_append_left (by omega)]; exact g3 0
  have u4' : ∀ l : List Ob, (G4 ++ l)[G2.length + 1]? = some ⟨u8s (pubL seed1), true, true, true, 1⟩ := fun l => by
    rw [List.getElem?_append_left (by omega), hG4, List.getElem?_append_left (by omega)]; exact g3 1
  have u5 : G4[G2.length]? = some ⟨u8s (sigL seed1 [97, 98]), true, true, true, 1⟩ := by
    rw [hG4, List.getElem?_append_left (by omega)]; exact g3 0
  have u5' : G4[G2.length + 1]? = some ⟨u8s (pubL seed1), true, true, true, 1⟩ := by
    rw [hG4, List.getElem?_append_left (by omega)]; exact g3 1
  clear hG1 hG2 hG3 hG4 hG5 hs1 hs2 g3 g5 hA1 hA3 hA5
  generalize sigL seed1 [97, 98] = S at *
  generalize pubL seed1 = P at *
  generalize dig 256 32 0 = Z at *
  generalize List.replicate 64 0 = Z64 at *
  generalize seed1 = K at *
  generalize u8s [97] = b97 at *
  generalize u8s [98] = b98 at *
  generalize u8s [97, 98] = bab at *
  generalize u8s [97, 99] = bac at *
  apply evVal_ex
  apply Exists.intro
  rw [evFun_fn (fn := a205) rfl]
  simp only [a205, ↓steps_chunk, envOf, quiet, cF, ↓pF, reduceCtorEq, Nat.reduceEqDiff, Int.reduceEq, fs_callW, fs_regionQ, quiet2_eq, lastOf_nil, lastOf_cons, List.take_succ_cons, List.take_zero, List.drop_succ_cons, List.drop_zero, Int.reduceBEq, Int.reduceBNe, ↓keepW_some, ↓qElseW_some, ↓guardW_tt, ↓guardW_ff, ↓guardW_tf, ↓guardW_ft, cL, Int.reduceLE, Int.reduceLT, Int.reduceAdd, Int.reduceMul, Int.reduceSub, Int.reduceTDiv, Int.reduceTMod, Int.reduceNeg, Int.reduceToNat, Int.reduceGT, Int.reduceGE, Int.reducePow, Nat.reduceAdd, Nat.reduceMul, Nat.reduceSub, Nat.reduceDiv, Nat.reduceMod, Nat.reducePow, Nat.reduceLT, Nat.reduceLeDiff, cJ, hz, hz64, fk, f97, f98, fab, fac, f1, f2, F1, hm, F2, hpub, F3, hc1, F4, u4, u4', u5, u5', F5, hc2, eV_cells, eV_size, eV_ok, eV_fold, u8s_len, lz, lz64, lk, lS, lP, take_all, List.length_replicate, rf_eV]
  rfl
end Go.Ev.Ytgacigcbglflkaa
set_option linter.unusedSimpArgs false
set_option linter.unusedVariables false
namespace Go.Ev.Ytgacigcbglflkaa
open Go Go.Ev
attribute [local congr] bind_congr2 ite_congr2 qElse_congr gate_congr guardV_congr
set_option maxRecDepth 100000
structure BA (H0 : List Ob) (bv : Value) (l : List Nat) : Prop where
  len : vLen false bv = some (.int .i64 l.length)
  lt : ∀ y ∈ l, y < 256
  le : l.length ≤ 2 ^ 47 - 4096
  fill : fillL [Value.slice none 0 0] [(0, 1, bv)] = some [bv]
  whole : HPart (LtN H0.length) H0 bv l
  cut : ∀ k, k ≤ l.length → ∃ s1 s2, (∀ G : List Ob, (∀ i, i < H0.length → G[i]? = H0[i]?) → vSliceSl G 1 none (some (.int .i64 (k : Nat))) none bv = some s1 ∧ vSliceSl G 1 (some (.int .i64 (k : Nat))) none none bv = some s2) ∧
    HPart (LtN H0.length) H0 s1 (l.take k) ∧ HPart (LtN H0.length) H0 s2 (l.drop k)
theorem BA.nil : BA [] (.slice none 0 0) [] :=
  ⟨rfl, by simp, by decide, rfl, ⟨⟨_, _, rfl⟩, fun _ _ => rfl, by simp, by decide⟩, fun k hk => by
    have : k = 0 := by simpa using hk
    subst this
    exact ⟨.slice none 0 0, .slice none 0 0, fun G _ => ⟨rfl, rfl⟩, ⟨⟨_, _, rfl⟩, fun _ _ => rfl, by simp, by decide⟩, ⟨⟨_, _, rfl⟩, fun _ _ => rfl, by simp, by decide⟩⟩⟩
theorem BA.some {l : List Nat} {n : Nat} (ln : l.length = n) (xl : ∀ x ∈ l, x < 256) (hm : n ≤ 2 ^ 47 - 4096) : BA [⟨u8s l, true, false, false, 1⟩] (.slice (some ⟨0, 0, none⟩) n n) l := by
  subst ln
  refine ⟨rfl, xl, hm, rfl, HPart.whole (w := false) (e := false) (s := 1) (n := 1) (Nat.zero_lt_one) rfl xl hm, fun k hk => ?_⟩
  refine ⟨.slice (Option.some ⟨0, 0, none⟩) k l.length, .slice (Option.some ⟨0, 0 + k, none⟩) (l.length - k) (l.length - k), fun G hG => ?_, ?_, ?_⟩
  · have hg : G[0]? = Option.some ⟨u8s l, true, false, false, 1⟩ := (hG 0 Nat.zero_lt_one).trans rfl
    have hlv : liveAt G 0 = Option.some ⟨u8s l, true, false, false, 1⟩ := liveAt_some hg rfl
    have b1 : bounds3 l.length l.length none (Option.some (.int .i64 (k : Nat))) none = Option.some (0, k, l.length) := by
      rw [bounds3_two, natIn_nat hk, Option.bind_some]; rfl
    have b2 : bounds3 l.length l.length (Option.some (.int .i64 (k : Nat))) none none = Option.some (k, l.length, l.length) := by
      rw [bounds3_two, natIn_none, Option.bind_some, natIn_nat hk, Option.bind_some]
    rw [vSliceSl_s, vSliceSl_s, b1, b2, Option.bind_some, Option.bind_some, hlv, Option.bind_some, Option.bind_some]
    simp [gate]
  · have := HPart.arr (n := 1) (H := [(⟨u8s l, true, false, false, 1⟩ : Ob)]) (id := 0) (off := 0) (m := k) (c := l.length) (by decide) rfl xl (by omega) (by omega)
    rwa [List.drop_zero] at this
  · have := HPart.arr (n := 1) (H := [(⟨u8s l, true, false, false, 1⟩ : Ob)]) (id := 0) (off := 0 + k) (m := l.length - k) (c := l.length - k) (by decide) rfl xl (by omega) (by omega)
    rw [Nat.zero_add, List.take_of_length_le (by rw [List.length_drop]; exact Nat.le_refl _)] at this
    rw [Nat.zero_add]
    exact this
theorem Args.of1 {H0 H : List Ob} {a c : Nat} {x : Value} {p : List Nat} {e : Bool} {s : Nat} (ha : H[a]? = some ⟨[x], true, true, e, s⟩) (hx : HPart (LtN H0.length) H0 x p) (hg : ∀ i, i < H0.length → H[i]? = H0[i]?) (hl : H0.length ≤ H.length) : Args H (.slice (some ⟨a, 0, none⟩) 1 c) [p] :=
  Args.arr ha rfl (.cons (hx.ext hg hl) .nil) (by decide)
end Go.Ev.Ytgacigcbglflkaa
set_option linter.unusedSimpArgs false
set_option linter.unusedVariables false
namespace Go.Ev.Ytgacigcbglflkaa
open Go Go.Ev
attribute [local congr] bind_congr2 ite_congr2 qElse_congr gate_congr guardV_congr
set_option maxRecDepth 100000
def onT (x y : Nat) : Bool := Nat.beq ((y * y) % Go.Fp.P) ((x * x + (1 + Go.Fp.dN * (x * x) * (y * y))) % Go.Fp.P)
theorem onT_on {x y : Nat} (h : onT x y = true) : Go.Cv.On Go.Fp.d (Go.Fp.fp x) (Go.Fp.fp y) := by
  unfold Go.Cv.On Go.Fp.d
  have h : (Go.Fp.fp y * Go.Fp.fp y : Go.Fp.Fe) = Go.Fp.fp x * Go.Fp.fp x + (1 + Go.Fp.fp Go.Fp.dN * (Go.Fp.fp x * Go.Fp.fp x) * (Go.Fp.fp y * Go.Fp.fp y)) := by
    rw [← Go.Fp.fp_one, ← Go.Fp.fp_mul, ← Go.Fp.fp_mul, ← Go.Fp.fp_mul, ← Go.Fp.fp_mul, ← Go.Fp.fp_add, ← Go.Fp.fp_add]
    exact Go.Fp.fp_eq.2 (Nat.eq_of_beq_eq_true h)
  grobner
def tinyT (x y : Nat) : Bool := (fun a : Jac => Nat.beq (a.x % Go.Fp.P) 0 && Nat.beq (a.y % Go.Fp.P) (a.z % Go.Fp.P)) (jmul ⟨x, y, 1, x * y⟩ 4 8)
theorem tiny_of {x y : Nat} (hx : x < Go.Fp.P) (hy : y < Go.Fp.P) (h : onT x y = true) (h8 : tinyT x y = true) : ∃ A : Go.Cv.Pt Go.Fp.P Go.Fp.d, enc A = dig 256 32 (y + x % 2 * 2 ^ 255) ∧ pmul 8 A = pzero := by
  have h1 : Go.Fp.fp 1 = (1 : Go.Fp.Fe) := rfl
  have r : JRep ⟨x, y, 1, x * y⟩ ⟨Go.Fp.fp x, Go.Fp.fp y, onT_on h⟩ := by
    refine ⟨Go.Fp.one_ne, ?_, ?_, ?_⟩
    · show Go.Fp.fp x = Go.Fp.fp x * Go.Fp.fp 1; rw [h1]; grobner
    · show Go.Fp.fp y = Go.Fp.fp y * Go.Fp.fp 1; rw [h1]; grobner
    · show Go.Fp.fp (x * y) = Go.Fp.fp x * Go.Fp.fp y * Go.Fp.fp 1; rw [h1, Go.Fp.fp_mul]; grobner
  refine ⟨⟨Go.Fp.fp x, Go.Fp.fp y, onT_on h⟩, ?_, ?_⟩
  · rw [enc, encN, show (Go.Fp.fp x).val = x from Nat.mod_eq_of_lt hx, show (Go.Fp.fp y).val = y from Nat.mod_eq_of_lt hy]
  · simp only [tinyT, Bool.and_eq_true] at h8
    exact jac_zero (r.mul (f := 4) (k := 8) (by decide)) (Nat.eq_of_beq_eq_true h8.1) (Nat.eq_of_beq_eq_true h8.2)
def tinyK : Nat → List Nat
  | 0 => 1 :: List.replicate 31 0
  | 1 => List.replicate 32 0
  | 2 => List.replicate 31 0 ++ [128]
  | _ => 236 :: (List.replicate 30 255 ++ [127])
theorem tinyK_len : ∀ k, (tinyK k).length = 32 := fun k => by
  match k with
  | 0 => rfl
  | 1 => rfl
  | 2 => rfl
  | _ + 3 => rfl
theorem tinyK_lt : ∀ k, ∀ y ∈ tinyK k, y < 256 := fun k => by
  match k with
  | 0 => decide
  | 1 => decide
  | 2 => decide
  | _ + 3 => show ∀ y ∈ 236 :: (List.replicate 30 255 ++ [127]), y < 256; decide
theorem tinyK_pt : ∀ k, ∃ A : Go.Cv.Pt Go.Fp.P Go.Fp.d, enc A = tinyK k ∧ pmul 8 A = pzero := fun k => by
  match k with
  | 0 => obtain ⟨A, h, h8⟩ := tiny_of (x := 0) (y := 1) (by decide +kernel) (by decide +kernel) (by decide +kernel) (by decide +kernel); exact ⟨A, h.trans (by decide +kernel), h8⟩
  | 1 => obtain ⟨A, h, h8⟩ := tiny_of (x := 19681161376707505956807079304988542015446066515923890162744021073123829784752) (y := 0) (by decide +kernel) (by decide +kernel) (by decide +kernel) (by decide +kernel); exact ⟨A, h.trans (by decide +kernel), h8⟩
  | 2 => obtain ⟨A, h, h8⟩ := tiny_of (x := 38214883241950591754978413199355411911188925816896391856984770930832735035197) (y := 0) (by decide +kernel) (by decide +kernel) (by decide +kernel) (by decide +kernel); exact ⟨A, h.trans (by decide +kernel), h8⟩
  | _ + 3 => obtain ⟨A, h, h8⟩ := tiny_of (x := 0) (y := 57896044618658097711785492504343953926634992332820282019728792003956564819948) (by decide +kernel) (by decide +kernel) (by decide +kernel) (by decide +kernel); exact ⟨A, h.trans (show _ = 236 :: (List.replicate 30 255 ++ [127]) by decide +kernel), h8⟩
def tinyA : List Nat := tinyK 0 ++ (tinyK 1 ++ (tinyK 2 ++ tinyK 3))
theorem tinyA_len : tinyA.length = 128 := rfl
theorem tinyA_part : ∀ k, k < 4 → ((u8s tinyA).drop (k * 32)).take 32 = u8s (tinyK k) := fun k hk => by
  match k, hk with
  | 0, _ => rfl
  | 1, _ => rfl
  | 2, _ => rfl
  | 3, _ => rfl
def sig1 : List Nat := 1 :: List.replicate 63 0
theorem sig1_eq : (1 :: List.replicate 31 0) ++ List.replicate 32 0 = sig1 := rfl
theorem lows_ev {H0 : List Ob} {sg l : List Nat} {bv : Value} (p : Int) (p1 : IntKind.i64.min ≤ p) (p2 : p ≤ IntKind.i64.max) (ls : sg.length = 64) (xs : ∀ y ∈ sg, y < 256) (hb : BA H0 bv l) : ∃ H', evFun T 5 [.int .i64 p, .agg (u8s sg).toArray, bv] H0 = some (.bool true, H', []) := by
  have hz64 : List.replicate 64 (Value.int .u8 0) = u8s (List.replicate 64 0) := z64_eq
  have hz128 : List.replicate 128 (Value.int .u8 0) = u8s (List.replicate 128 0) := by simp [u8s]
  have lz128 : (List.replicate 128 0).length = 128 := List.length_replicate
  have hsg := sigs_v
  have f0 : fillL (List.replicate 32 (Value.int .u8 0)) [(0, 1, .int .u8 1)] = some (u8s (tinyK 0)) := rfl
  have f1 : fillL (List.replicate 32 (Value.int .u8 0)) [] = some (u8s (tinyK 1)) := rfl
  have f2 : fillL (List.replicate 32 (Value.int .u8 0)) [(31, 1, .int .u8 128)] = some (u8s (tinyK 2)) := rfl
  have f3 : fillL (List.replicate 32 (Value.int .u8 0)) [(0, 1, .int .u8 236), (1, 1, .int .u8 255), (2, 1, .int .u8 255), (3, 1, .int .u8 255), (4, 1, .int .u8 255), (5, 1, .int .u8 255), (6, 1, .int .u8 255), (7, 1, .int .u8 255), (8, 1, .int .u8 255), (9, 1, .int .u8 255), (10, 1, .int .u8 255), (11, 1, .int .u8 255), (12, 1, .int .u8 255), (13, 1, .int .u8 255), (14, 1, .int .u8 255), (15, 1, .int .u8 255), (16, 1, .int .u8 255), (17, 1, .int .u8 255), (18, 1, .int .u8 255), (19, 1, .int .u8 255), (20, 1, .int .u8 255), (21, 1, .int .u8 255), (22, 1, .int .u8 255), (23, 1, .int .u8 255), (24, 1, .int .u8 255), (25, 1, .int .u8 255), (26, 1, .int .u8 255), (27, 1, .int .u8 255), (28, 1, .int .u8 255), (29, 1, .int .u8 255), (30, 1, .int .u8 255), (31, 1, .int .u8 127)] = some (u8s (tinyK 3)) := rfl
  have fA : fillL (u8s (List.replicate 128 0)) [(0, 32, .agg (u8s (tinyK 0)).toArray), (32, 32, .agg (u8s (tinyK 1)).toArray), (64, 32, .agg (u8s (tinyK 2)).toArray), (96, 32, .agg (u8s (tinyK 3)).toArray)] = some (u8s tinyA) := rfl
  have fS : fillL (u8s (List.replicate 64 0)) [(0, 1, .int .u8 1)] = some (u8s sig1) := rfl
  have hfill := hb.fill
  have hle := hb.le
  obtain ⟨G1, hG1⟩ : ∃ X, X = H0 ++ [(⟨u8s sg, true, true, true, 1⟩ : Ob), ⟨u8s tinyA, true, true, true, 1⟩] := ⟨_, rfl⟩
  have lG1 : G1.length = H0.length + 2 := by rw [hG1]; simp
  have up : ∀ i, i < H0.length → G1[i]? = H0[i]? := fun i hi => by rw [hG1, List.getElem?_append_left hi]
  have F1 : H0 ++ [(⟨u8s sg, true, true, true, 1⟩ : Ob), ⟨u8s tinyA, true, true, true, 1⟩] = G1 := hG1.symm
  have us : ∀ m : List Ob, (G1 ++ m)[H0.length]? = some ⟨u8s sg, true, true, true, 1⟩ := fun m => by rw [List.getElem?_append_left (by omega), hG1, List.getElem?_append_right (Nat.le_refl _), Nat.sub_self]; rfl
  have ut : ∀ m : List Ob, (G1 ++ m)[H0.length + 1]? = some ⟨u8s tinyA, true, true, true, 1⟩ := fun m => by rw [List.getElem?_append_left (by omega), hG1, List.getElem?_append_right (by omega), Nat.add_sub_cancel_left]; rfl
  have us' : G1[H0.length]? = some ⟨u8s sg, true, true, true, 1⟩ := by rw [hG1, List.getElem?_append_right (Nat.le_refl _), Nat.sub_self]; rfl
  have ut' : G1[H0.length + 1]? = some ⟨u8s tinyA, true, true, true, 1⟩ := by rw [hG1, List.getElem?_append_right (by omega), Nat.add_sub_cancel_left]; rfl
  have key : ∀ k m fr bk, (∀ i, i < H0.length → (G1 ++ m)[i]? = H0[i]?) → fr.length = 32 → (∀ y ∈ fr, y < 256) → bk.length = 32 → (∀ y ∈ bk, y < 256) → ∃ l1, evFun T 9 [.agg (u8s (tinyK k)).toArray, .agg (u8s (fr ++ bk)).toArray, .slice (some ⟨(G1 ++ m).length, 0, none⟩) 1 1] (G1 ++ m ++ [(⟨[bv], true, true, true, 1⟩ : Ob)]) = some (.int .i64 70, G1 ++ m ++ [(⟨[bv], true, true, true, 1⟩ : Ob)] ++ l1, []) := by
    intro k m fr bk hm lf xf lb xb
    have hA : Args (G1 ++ m ++ [(⟨[bv], true, true, true, 1⟩ : Ob)]) (.slice (some ⟨(G1 ++ m).length, 0, none⟩) 1 1) [l] := Args.of1 (e := true) (s := 1) (by rw [List.getElem?_append_right (Nat.le_refl _), Nat.sub_self]; rfl) hb.whole (fun i hi => by rw [List.getElem?_append_left (by rw [List.length_append]; omega)]; exact hm i hi) (by simp; omega)
    obtain ⟨l1, c, hc, hs⟩ := check_ev (tinyK_len k) (tinyK_lt k) lf xf lb xb hA (by show 1 ≤ 1000; decide) (by simp; omega)
    obtain ⟨A, hA1, hA2⟩ := tinyK_pt k
    rw [← hA1] at hs
    have e := tiny_takes hA2 hs
    subst e
    exact ⟨l1, hc⟩
  by_cases hneg : p < 0
  · have e1 : (p < 0) = True := eq_true hneg
    have lt0 := tinyK_len 0
    have lt1 := tinyK_len 1
    have lt2 := tinyK_len 2
    have lt3 := tinyK_len 3
    have lA := tinyA_len
    clear us ut us' ut' key
    generalize tinyA = TA at *
    generalize List.replicate 128 0 = Z128 at *
    apply Exists.intro
    rw [evFun_fn (fn := a203) rfl]
    simp only [a203, ↓steps_chunk, envOf, quiet, cF, ↓pF, reduceCtorEq, Nat.reduceEqDiff, Int.reduceEq, fs_callW, fs_regionQ, quiet2_eq, lastOf_nil, lastOf_cons, List.take_succ_cons, List.take_zero, List.drop_succ_cons, List.drop_zero, Int.reduceBEq, Int.reduceBNe, ↓keepW_some, ↓qElseW_some, ↓guardW_tt, ↓guardW_ff, ↓guardW_tf, ↓guardW_ft, cL, Int.reduceLE, Int.reduceLT, Int.reduceAdd, Int.reduceMul, Int.reduceSub, Int.reduceTDiv, Int.reduceTMod, Int.reduceNeg, Int.reduceToNat, Int.reduceGT, Int.reduceGE, Int.reducePow, Nat.reduceAdd, Nat.reduceMul, Nat.reduceSub, Nat.reduceDiv, Nat.reduceMod, Nat.reducePow, Nat.reduceLT, Nat.reduceLeDiff, cJ, hsg, f0, f1, f2, f3, fA, F1, e1, hz128, eV_cells, eV_size, eV_ok, eV_fold, u8s_len, lz128, ls, lt0, lt1, lt2, lt3, lA, take_all, List.length_replicate, rf_eV]
    rfl
  by_cases hgt : 3 < p
  · have e1 : (p < 0) = False := eq_false hneg
    have e2 : (3 < p) = True := eq_true hgt
    have lt0 := tinyK_len 0
    have lt1 := tinyK_len 1
    have lt2 := tinyK_len 2
    have lt3 := tinyK_len 3
    have lA := tinyA_len
    clear us ut us' ut' key
    generalize tinyA = TA at *
    generalize List.replicate 128 0 = Z128 at *
    apply Exists.intro
    rw [evFun_fn (fn := a203) rfl]
    simp only [a203, ↓steps_chunk, envOf, quiet, cF, ↓pF, reduceCtorEq, Nat.reduceEqDiff, Int.reduceEq, fs_callW, fs_regionQ, quiet2_eq, lastOf_nil, lastOf_cons, List.take_succ_cons, List.take_zero, List.drop_succ_cons, List.drop_zero, Int.reduceBEq, Int.reduceBNe, ↓keepW_some, ↓qElseW_some, ↓guardW_tt, ↓guardW_ff, ↓guardW_tf, ↓guardW_ft, cL, Int.reduceLE, Int.reduceLT, Int.reduceAdd, Int.reduceMul, Int.reduceSub, Int.reduceTDiv, Int.reduceTMod, Int.reduceNeg, Int.reduceToNat, Int.reduceGT, Int.reduceGE, Int.reducePow, Nat.reduceAdd, Nat.reduceMul, Nat.reduceSub, Nat.reduceDiv, Nat.reduceMod, Nat.reducePow, Nat.reduceLT, Nat.reduceLeDiff, cJ, hsg, f0, f1, f2, f3, fA, F1, e1, e2, hz128, eV_cells, eV_size, eV_ok, eV_fold, u8s_len, lz128, ls, lt0, lt1, lt2, lt3, lA, take_all, List.length_replicate, rf_eV]
    rfl
  obtain ⟨k, rfl⟩ : ∃ k : Nat, p = k := ⟨p.toNat, by omega⟩
  have hk : k < 4 := by omega
  have e1 : ((k : Int) < 0) = False := eq_false hneg
  have e2 : (3 < (k : Int)) = False := eq_false hgt
  have e3 : ((k : Int) < 4) = True := eq_true (by omega)
  have e4 : (0 ≤ (k : Int)) = True := eq_true (by omega)
  have e5 : (k * 32 ≤ 96) = True := eq_true (by omega)
  obtain ⟨l1, hc1⟩ := key k [] (sg.take 32) (sg.drop 32) (fun i hi => by rw [List.append_nil]; exact up i hi) (by rw [List.length_take]; omega) (fun y hy => xs y (List.mem_of_mem_take hy)) (by rw [List.length_drop]; omega) (fun y hy => xs y (List.mem_of_mem_drop hy))
  obtain ⟨l2, hc2⟩ := key k ([(⟨[bv], true, true, true, 1⟩ : Ob)] ++ l1) (1 :: List.replicate 31 0) (List.replicate 32 0) (fun i hi => by rw [List.getElem?_append_left (by omega)]; exact up i hi) rfl (by decide) rfl (by decide)
  rw [List.take_append_drop, List.append_nil] at hc1
  rw [sig1_eq] at hc2
  have hpart := tinyA_part k hk
  have lt0 := tinyK_len 0
  have lt1 := tinyK_len 1
  have lt2 := tinyK_len 2
  have lt3 := tinyK_len 3
  have ltk := tinyK_len k
  have lA := tinyA_len
  have ls1 : sig1.length = 64 := rfl
  obtain ⟨G2, F2⟩ : ∃ X, G1 ++ [(⟨[bv], true, true, true, 1⟩ : Ob)] = X := ⟨_, rfl⟩
  obtain ⟨G3, F3⟩ : ∃ X, G2 ++ l1 = X := ⟨_, rfl⟩
  have ut3 : G3[H0.length + 1]? = some ⟨u8s tinyA, true, true, true, 1⟩ := by rw [← F3, ← F2, List.append_assoc]; exact ut _
  obtain ⟨G4, F4⟩ : ∃ X, G3 ++ [(⟨[bv], true, true, true, 1⟩ : Ob)] = X := ⟨_, rfl⟩
  rw [← List.append_assoc, F2, F3, F4] at hc2
  rw [F2] at hc1
  clear us ut key
  generalize tinyA = TA at *
  generalize sig1 = S1 at *
  generalize List.replicate 128 0 = Z128 at *
  generalize List.replicate 64 0 = Z64 at *
  apply Exists.intro
  rw [evFun_fn (fn := a203) rfl]
  simp only [a203, ↓steps_chunk, envOf, quiet, cF, ↓pF, reduceCtorEq, Nat.reduceEqDiff, Int.reduceEq, fs_callW, fs_regionQ, quiet2_eq, lastOf_nil, lastOf_cons, List.take_succ_cons, List.take_zero, List.drop_succ_cons, List.drop_zero, Int.reduceBEq, Int.reduceBNe, ↓keepW_some, ↓qElseW_some, ↓guardW_tt, ↓guardW_ff, ↓guardW_tf, ↓guardW_ft, cL, Int.reduceLE, Int.reduceLT, Int.reduceAdd, Int.reduceMul, Int.reduceSub, Int.reduceTDiv, Int.reduceTMod, Int.reduceNeg, Int.reduceToNat, Int.reduceGT, Int.reduceGE, Int.reducePow, Nat.reduceAdd, Nat.reduceMul, Nat.reduceSub, Nat.reduceDiv, Nat.reduceMod, Nat.reducePow, Nat.reduceLT, Nat.reduceLeDiff, cJ, hsg, f0, f1, f2, f3, fA, fS, F1, e1, e2, e3, e4, e5, hz128, hz64, us', ut', ut3, hpart, hfill, F2, hc1, F3, F4, hc2, eV_cells, eV_size, eV_ok, eV_fold, u8s_len, lz128, ls, ls1, lt0, lt1, lt2, lt3, ltk, lA, take_all, List.length_replicate, rf_eV]
  rfl
end Go.Ev.Ytgacigcbglflkaa
